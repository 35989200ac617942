/- Part 5 of what the proof rests on: a machine that runs functions of the program on pure values, proved sound; the functions that the law reaches, and what they compute. -/
import Derived.Test.YtedhjaaikeakoaaDoorQ4
import Derived.Sort.OwnSortedInts
import Derived.Lib.SlicesCompact
import Derived.Test.YtedhjaaikeakoaaDoorProg
import Derived.ProofKit
import Derived.Deep.Slices
import Derived.OpenShut
import Derived.Shelf.SlIterI.Nil
import Derived.Shelf.SortM.Plain
import Derived.Shelf.SortM.SortNone
import Derived.Ground.GgzProg
import Derived.Ground.SlgmProg
import Derived.Tactics
import Derived.Tactics2
import Derived.Recover
import Derived.RecoverIn
import Derived.TacticsInMore
set_option linter.all false
namespace Go.Pm

structure Tabs where
  fn:List (Nat×(List PA->COut))
  own:List (Nat×OwnK)
  it:List (Nat×(List PA->Option (Prop×List (List PA))))
  mt:List (Nat×MK)
def zuA : List (Nat × (List PA → COut)) → Nat → List PA → COut
  | [],_=>λ _=>.no
  | (k,c) :: r,n=>match Nat.beq k n with | true=>c | false=>zuA r n
def zuB (l:List (Nat×OwnK)) (f:Nat):OwnK:=match lk l f with | some c=>c | none=>.none
def zCI (l:List (Nat×(List PA->Option (Prop×List (List PA))))) (f:Nat):List PA->Option (Prop×List (List PA)):=match lk l f with | some c=>c | none=>λ _=>none
def csm (T:Tabs) (memo:Nat->Int->List Int) (vv:Nat->Bool):Ctrs:=⟨zuA T.fn,zuB T.own,zCI T.it,memo,vv,lk T.mt⟩
abbrev cs (T:Tabs):Ctrs:=csm T (λ _ _=>[]) (λ _=>false)
def Tabs.nil:Tabs:=⟨[],[],[],[]⟩
def Tabs.addF (T:Tabs) (f:Nat) (c:List PA->COut):Tabs:=⟨(f,c) :: T.fn,T.own,T.it,T.mt⟩
def Tabs.addO (T:Tabs) (f:Nat) (c:OwnK):Tabs:=⟨T.fn,(f,c) :: T.own,T.it,T.mt⟩
def Tabs.addI (T:Tabs) (f:Nat) (c:List PA->Option (Prop×List (List PA))):Tabs:=⟨T.fn,T.own,(f,c) :: T.it,T.mt⟩
def Tabs.addM (T:Tabs) (f:Nat) (c:MK):Tabs:=⟨T.fn,T.own,T.it,(f,c) :: T.mt⟩

theorem zJn {P:Program}{f:Nat} : Ok P f (λ _=>.no):=λ _ _ h=>h.elim
theorem zJo {P:Program}{f:Nat} : zAN P f (λ _=>none):=λ _ _ _ h=>by cases h

structure TabsOk (P : Program) (T : Tabs) : Prop where
  fn:∀ x∈T.fn,Ok P x.1 x.2
  own:∀ x∈T.own,zmU P x.1 x.2
  it:∀ x∈T.it,zAN P x.1 x.2
  mt:∀ x∈T.mt,ziH P x.1 x.2
theorem TabsOk.nil {P:Program} : TabsOk P .nil:=⟨λ _ h=>(by cases h),λ _ h=>(by cases h),λ _ h=>(by cases h),λ _ h=>(by cases h)⟩
theorem TabsOk.addF {P:Program}{T:Tabs}(h:TabsOk P T){f:Nat}{c:List PA->COut}(hc:Ok P f c):TabsOk P (T.addF f c) :=
 ⟨λ x hx=>(List.mem_cons.1 hx).elim (λ e=>by rw[e];exact hc) (λ hx=>h.fn x hx),h.own,h.it,h.mt⟩
theorem TabsOk.addO {P:Program}{T:Tabs}(h:TabsOk P T){f:Nat}{c:OwnK}(hc:zmU P f c):TabsOk P (T.addO f c) :=
 ⟨h.fn,λ x hx=>(List.mem_cons.1 hx).elim (λ e=>by rw[e];exact hc) (λ hx=>h.own x hx),h.it,h.mt⟩
theorem TabsOk.addI {P:Program}{T:Tabs}(h:TabsOk P T){f:Nat}{c:List PA->Option (Prop×List (List PA))}(hc:zAN P f c):TabsOk P (T.addI f c) :=
 ⟨h.fn,h.own,λ x hx=>(List.mem_cons.1 hx).elim (λ e=>by rw[e];exact hc) (λ hx=>h.it x hx),h.mt⟩
theorem TabsOk.addM {P:Program}{T:Tabs}(h:TabsOk P T){f:Nat}{c:MK}(hc:ziH P f c):TabsOk P (T.addM f c) :=
 ⟨h.fn,h.own,h.it,λ x hx=>(List.mem_cons.1 hx).elim (λ e=>by rw[e];exact hc) (λ hx=>h.mt x hx)⟩
theorem TabsOk.all {P:Program}{T:Tabs}(h:TabsOk P T) (memo:Nat->Int->List Int) (vv:Nat->Bool):OkAll P (csm T memo vv):=by
 refine⟨λ f C hC=>h.mt _ (zbI hC),λ f=>?_,λ f=>?_,λ f=>?_⟩
 ·show Ok P f (zuA T.fn f)
  have key:∀ l:List (Nat×(List PA->COut)),(∀ x∈l,Ok P x.1 x.2)->Ok P f (zuA l f):=by
   intro l
   induction l with
   | nil=>intro _;exact zJn
   | cons x l ih =>
    intro hl
    obtain⟨k,c⟩:=x
    simp only[zuA]
    split
    ·rename_i e
     have:=hl (k,c) List.mem_cons_self
     rw[← Nat.eq_of_beq_eq_true e];exact this
    ·exact ih λ x hx=>hl x (List.mem_cons_of_mem _ hx)
  exact key T.fn h.fn
 ·show zmU P f (zuB T.own f)
  unfold zuB
  split
  ·rename_i c hc;exact h.own _ (zbI hc)
  ·trivial
 ·show zAN P f (zCI T.it f)
  unfold zCI
  split
  ·rename_i c hc;exact h.it _ (zbI hc)
  ·exact zJo

theorem zbk {P : Program} {T : Tabs} (hT : TabsOk P T) {f : FuncId} {C : List PA → COut} (hc : zav P f)
    (h:∀ args K,(C args).wp K->∃ memo vv ann,vcFun P (csm T memo vv) ann f args K):Ok P f C :=
  zzA (hT.all (λ _ _=>[]) (λ _=>false)) hc h
theorem zCJ {P : Program} {T : Tabs} (hT : TabsOk P T) {f : FuncId} {C : MK} (hc : zav P f)
    (h:∀ xs safe rs ys,C xs=some (safe,rs,ys)->safe->∀ K:List PA->List XA->Prop,K rs ys->∃ memo vv ann,zjW P (csm T memo vv) ann f xs K):ziH P f C :=
  zuz (hT.all (λ _ _=>[]) (λ _=>false)) hc h
theorem zGs {P : Program} {T : Tabs} (hT : TabsOk P T) {f : FuncId} {C : List PA → Option (Prop × List (List PA))} (hc : zav P f)
    (h:∀ l caps safe ys,C caps=some (safe,ys)->safe->∃ memo vv ann,vcIter P (csm T memo vv) ann f l caps ys):zAN P f C :=
  zzE (hT.all (λ _ _=>[]) (λ _=>false)) hc h
structure Sl (α : Type) where
  len:Nat
  get:Nat->α
instance {α:Type} [Inhabited α]:Inhabited (Sl α):=⟨⟨0,λ _=>default⟩⟩
abbrev w64 (x:Int):Int:=IntKind.i64.wrap x

def IsE {α:Type}(enc:α->List PV) (size s:Nat) (g:Nat->List PV):Prop:=s=size/\∃ f:Nat->α,g=λ i=>enc (f i)
theorem isE {α:Type}{enc:α->List PV}{size:Nat}{f:Nat->α} : IsE enc size size (λ i=>enc (f i)):=⟨rfl,f,rfl⟩
theorem zuC {α:Type}{enc:α->List PV}{size:Nat}{x:α} : IsE enc size size (λ _=>enc x):=⟨rfl,λ _=>x,rfl⟩
def zf2 {α:Type}(n:Nat) (get new:Nat->α):Nat->α:=λ j=>match Nat.ble n j with | true=>new (j - n) | false=>get j
theorem zzI {α:Type}{enc:α->List PV}{n:Nat}{f h:Nat->α} : appG n (λ i=>enc (f i)) (λ i=>enc (h i))=λ i=>enc (zf2 n f h i):=by
 funext j;simp only[appG,zf2];cases Nat.ble n j <;> rfl
def zoi {α : Type} (x : α) : List α → Nat → α
  | [],_=>x
  | y :: _,0=>y
  | _ :: r,i+1=>zoi x r i
theorem zqT {α:Type}{enc:α->List PV}{x y:α}{r:List α} : zbc (enc x :: enc y :: r.map enc)=λ i=>enc (zoi x (x :: y :: r) i):=by
 have key:∀ (l:List α) (i:Nat),(match (l.map enc)[i]? with | some z=>z | none=>enc x)=enc (zoi x l i):=by
  intro l
  induction l with
  | nil=>intro i;rfl
  | cons a l ih =>
   intro i
   cases i with
   | zero=>rfl
   | succ i=>simpa [zoi] using ih i
 funext i
 exact key (x :: y :: r) i
theorem zdd {α:Type}{enc:α->List PV}{size:Nat}{x y:α}(r:List α):IsE enc size size (zbc (enc x :: enc y :: r.map enc)):=⟨rfl,_,zqT⟩

theorem zeU {b:Bool}{A B:Prop}{S S':Bool}{α:Type}{K:α->Prop}{x y:α}(h1:S=true->K x->A) (h2:S'=true->K y->B) (hs:cond b S S'=true) (hk:K (cond b x y)):zc4 b A B:=by
 cases b
 ·exact h2 hs hk
 ·exact h1 hs hk
theorem zg8 {b:Bool}{A B:Prop}{S S':Bool}{α β:Type}{f:α->β}{ys:List β}{x y:List α}(hs:cond b S S'=true) (hk:ys=(cond b x y).map f) (h1:S=true->ys=x.map f->A) (h2:S'=true->ys=y.map f->B):zc4 b A B:=by
 cases b
 ·exact h2 hs hk
 ·exact h1 hs hk
theorem itY {α β:Type}{f:α->β}{ys:List β}{p:β}{x r:List α}{l:Nat}{A:List β->Prop}(hk:ys=x.map f) (e:x.map f=p :: r.map f) (h:∀ zs,zs=r.map f->A zs):l=l/\∃ z,ys=p :: z/\A z/\True :=
 ⟨rfl,_,hk.trans e,h _ rfl,trivial⟩
theorem zaM {C A:Prop} [d:Decidable C] {r:Bool}(hs:(decide C && r)=true) (k:C->r=true->A):A:=by
 rw[Bool.and_eq_true] at hs
 exact k (of_decide_eq_true hs.1) hs.2
abbrev Fuel:Nat:=9223372036854775808
def setT {α:Type}(i:Nat) (v:α) (get:Nat->α):Nat->α:=λ j=>match Nat.beq j i with | true=>v | false=>get j
theorem zit {α:Type}{enc:α->List PV}{n:Nat}{g g':Nat->List PV}{f h:Nat->α}(h1:g=λ i=>enc (f i)) (h2:g'=λ i=>enc (h i)):appG n g g'=λ i=>enc (zf2 n f h i):=by
 subst h1;subst h2;exact zzI
theorem ze9 {α:Type}{enc:α->List PV}{i k:Nat}{g:Nat->List PV}{f:Nat->α}{new:List PV}{v:α}(h1:g=λ i=>enc (f i)) (h2:spl (enc (f i)) k new=enc v):zoa i k g new=λ j=>enc (setT i v f j):=by
 subst h1
 funext j
 simp only[zoa,setT]
 cases e:Nat.beq j i
 ·rfl
 ·have := Nat.eq_of_beq_eq_true e
  subst this;exact h2
def zJp (P:Program) (G:Ctrs) (ann:Ann) (hd:Nat) (ps:List Nat) (assign body:Code) (X:List (List PA)->St->Prop) (K:Exit->St->Prop) (y:List PA) (rest:List (List PA)) (s:St):Prop :=
 match lk ann.head hd with
 | some k=>match zgV ps y s.env with
  | some env=>vc P G ann assign (zAM (vc P G ann body (zkH P k (X rest) K)) λ _ _=>False) ⟨env,s.objs,[]⟩
  | none=>False
 | none=>False
end Go.Pm
namespace Go.Pm
open Go Go.Sort

/-! Nil slices are slices of length 0. -/
inductive PVle : PV → PV → Prop
  | rfl (p:PV):PVle p p
  | nil (s:Nat) (g:Nat->List PV):PVle .nils (.sl 0 s g)
  | nilm (q:MQ):PVle .nilm (.fm q 0 (λ _=>none))
inductive PAle : PA → PA → Prop
  | one {p q:PV} : PVle p q->PAle (.one p) (.one q)
  | agg {l m:List PV} : RL PVle l m->PAle (.agg l) (.agg m)
theorem znD {α β:Type}{R:α->β->Prop} : RL R [] []:=trivial
theorem zhm {α β:Type}{R:α->β->Prop}{a:α}{b:β}{l:List α}{m:List β}(h:R a b) (h':RL R l m):RL R (a :: l) (b :: m):=⟨h,h'⟩
theorem zfs {α : Type} {R : α → α → Prop} (h : ∀ a, R a a) : ∀ l : List α, RL R l l
  | []=>trivial
  | a :: l=>⟨h a,zfs h l⟩
theorem zgj (a:PA):PAle a a:=by
 cases a with
 | one p=>exact .one (.rfl p)
 | agg l=>exact .agg (zfs .rfl l)
def Wk (K:List PA->Prop) (l:List PA):Prop:=∃ l',RL PAle l l'/\K l'
theorem wk {K:List PA->Prop}{l l':List PA}(hk:K l') (h:RL PAle l l'):Wk K l:=⟨l',h,hk⟩
theorem zgk {K:List PA->Prop}{l:List PA}(hk:K l):Wk K l:=⟨l,zfs zgj l,hk⟩
theorem zGt {h:Fz}{p q:PV}{v:Value}(e:PVle p q) (r:Rep h p v):Rep h q v:=by
 cases e with
 | rfl=>exact r
 | nil s g=>cases r;exact .sl0 s g
 | nilm q=>cases r;exact .fmn q _ (λ _ _=>rfl)
theorem zuD {α β γ : Type} {R : α → β → Prop} {S : α → γ → Prop} {T : γ → β → Prop} (h : ∀ a b c, S a c → R a b → T c b) : ∀ (l : List α) (m : List β) (k : List γ), RL S l k → RL R l m → RL T k m
  | [],[],[],_,_=>trivial
  | a :: l,b :: m,c :: k,hs,hr=>⟨h a b c hs.1 hr.1,zuD h l m k hs.2 hr.2⟩
  | [],_ :: _,[],_,hr=>hr.elim
  | [],_,_ :: _,hs,_=>hs.elim
  | _ :: _,_,[],hs,_=>hs.elim
  | _ :: _,[],_ :: _,_,hr=>hr.elim
theorem zzJ {h:Fz}{a b:PA}{v:Value}(e:PAle a b) (r:paR h a v):paR h b v:=by
 cases e with
 | one e=>exact zGt e r
 | agg e =>
  obtain⟨vs,rfl,hv⟩:=r
  exact⟨vs,rfl,zuD (R:=Rep h) (S:=PVle) (T:=Rep h) (λ _ _ _ e r=>zGt e r) _ _ _ e hv⟩
theorem zuE {h:Fz}{l m:List PA}{v:Value}(e:RL PAle l m) (r:zmL h l v):zmL h m v:=by
 match l,m,e,r with
 | [a],[b],e,r=>exact zzJ e.1 r
 | [],[],_,r=>exact r
 | a :: b :: l,c :: d :: m,e,r =>
  obtain⟨vs,hv,hr⟩:=r
  exact⟨vs,hv,zuD (R:=paR h) (S:=PAle) (T:=paR h) (λ _ _ _ e r=>zzJ e r) _ _ _ e hr⟩
 | [_],_ :: _ :: _,e,_=>exact e.2.elim
 | _ :: _ :: _,[_],e,_=>exact e.2.elim
 | [],_ :: _,e,_=>exact e.elim
 | _ :: _,[],e,_=>exact e.elim
theorem zhz {P : Program} {T : Tabs} (hT : TabsOk P T) {f : FuncId} {C : List PA → COut} (hc : zav P f)
    (h:∀ args K,(C args).wp K->∃ args',RL PAle args args'/\∃ memo vv ann,vcFun P (csm T memo vv) ann f args' (Wk K)):Ok P f C:=by
  intro args K hK w h0 vs hvs hfz hgl
  obtain⟨args',hle,memo,vv,ann,hv⟩:=h args K hK
  refine⟨hc,(zus (hT.all memo vv) hv (zuD (R:=paR h0) (S:=PAle) (T:=paR h0) (λ _ _ _ e r=>zzJ e r) _ _ _ hle hvs) hfz hgl).mono ?_⟩
  rintro e w' ⟨h',rs,v,⟨rs',hr,hk⟩,he,hres,rest⟩
  exact⟨h',rs',v,hk,he,zuE hr hres,rest⟩
theorem zzK {P : Program} {T : Tabs} (hT : TabsOk P T) {f : FuncId} {C : MK} (hc : zav P f)
    (h:∀ xs safe rs ys,C xs=some (safe,rs,ys)->safe->∀ K:List PA->List XA->Prop,K rs ys->∃ memo vv ann,zjW P (csm T memo vv) ann f xs (λ a b=>Wk (λ a'=>K a' b) a)):ziH P f C:=by
  intro xs ys safe rs hC hs w h0 base vs hvs hn hK hw hgl hB
  obtain⟨memo,vv,ann,hv⟩:=h xs safe rs ys hC hs (λ l zs=>l=rs/\zs=ys) ⟨rfl,rfl⟩
  refine⟨hc,(zuy (hT.all memo vv) hv hvs hn hK hw hgl hB).mono ?_⟩
  rintro e w' ⟨h',v,rs',ys',⟨rs2,hr,rfl,rfl⟩,he,hres,r⟩
  exact⟨h',v,he,zuE hr hres,r⟩
def WkM (K:List PA×List XA->Prop) (p:List PA×List XA):Prop:=Wk (λ a=>K (a,p.2)) p.1
theorem wkM {K:List PA×List XA->Prop}{l l':List PA}{b:List XA}(hk:K (l',b)) (h:RL PAle l l'):WkM K (l,b):=⟨l',h,hk⟩
theorem zuF {K:List PA×List XA->Prop}{p:List PA×List XA}(hk:K p):WkM K p:=⟨p.1,zfs zgj p.1,hk⟩
/-! Maps, as typed zsb; the keys of a map. -/
structure Mp where
  n:Nat
  F:List Int->Option (List Int)
instance:Inhabited Mp:=⟨⟨0,λ _=>none⟩⟩

end Go.Pm
namespace Go.Pm

abbrev zI (x:Int):DV:=.one (.c (.p (.int .i64 x)))
abbrev zB (x:Bool):DV:=.one (.c (.p (.bool x)))
abbrev zP (x:PV):DV:=.one (.c (.p x))
abbrev zp (L k:Nat):DV:=.one (.c (.ptr L k))
abbrev zv (L:Nat):DV:=.one (.c (.vec L))
abbrev zs {α:Type}(enc:α->List PV) (s:Nat) (x:Sl α):PV:=.sl x.len s (λ i=>enc (x.get i))
abbrev zS {α:Type}(enc:α->List PV) (s:Nat) (x:Sl α):DV:=zP (zs enc s x)
abbrev zm (l:List PV):List Cl:=l.map Cl.p
abbrev zi (x:Int):Cl:=.p (.int .i64 x)
abbrev zg {α:Type}(enc:α->List PV) (x:Sl α):Nat->List PV:=λ i=>enc (x.get i)
abbrev zK (a b:List Nat):Keep:=⟨a,b,[],[],[],[],[]⟩
theorem zE {α:Type}(enc:α->List PV) (size:Nat) (f:Nat->α):IsE enc size size (λ i=>enc (f i)):=⟨rfl,f,rfl⟩

theorem zuG {α : Type} : ∀ (new l pre : List α), l.length = new.length → spl (pre ++ l) pre.length new = pre ++ new
  | [],l,pre,h=>by
    have:l=[]:=List.eq_nil_of_length_eq_zero h
    subst this;rfl
  | x :: r,[],pre,h=>by simp at h
  | x :: r,y :: l,pre,h=>by
    have e:=zuG r l (pre ++ [x]) (by simpa using h)
    simp only[spl,List.append_assoc,List.singleton_append,List.length_append,List.length_singleton] at e ⊢
    rw[List.set_append_right _ _ (Nat.le_refl _),Nat.sub_self,List.set_cons_zero]
    exact e
theorem zl0 {n:Nat}{F G:Nat->Int} : spl (zgO 0 n F) 0 (zgO 0 n G)=zgO 0 n G:=by
 have h:=zuG (zgO 0 n G) (zgO 0 n F) [] (by rw[zeK,zeK])
 simpa using h
theorem zg9 {n:Nat}{F:Nat->Int} : zgO 0 n F=zgO 0 n (zkD (zm (zgO 0 n F))):=by
 refine List.ext_getElem? λ k=>?_
 by_cases hk:k < n
 ·rw [zfX n 0 F k hk, zfX n 0 _ k hk, Nat.zero_add]
  congr 2
  have h:(zm (zgO 0 n F))[k]? = some (.p (.int .i64 (F k))):=by
   rw[zm,List.getElem?_map,zfX n 0 F k hk,Nat.zero_add];rfl
  unfold zkD
  rw[h]
 ·rw[List.getElem?_eq_none (by rw[zeK];omega),List.getElem?_eq_none (by rw[zeK];omega)]

@[reducible] def lpO {A : Type} (d : A) (st : A → A) : Nat → A
  | 0=>d
  | k+1=>st (lpO d st k)
theorem zeF {A B : Type} (a : A) (b : B) (p : A → A) (s : B → B) (M : A → B → Prop) (h0 : M a b) (h1 : ∀ P S, M P S → M (p P) (s S)) : ∀ k, M (lpO a p k) (lpO b s k)
  | 0=>h0
  | k+1=>h1 _ _ (zeF a b p s M h0 h1 k)
theorem zy {α:Type}{y:Sl α}{P:Sl α->Prop}(h:P y):P ⟨y.len,y.get⟩:=h

def xcm (l:List PV):List XC:=l.map .p
def unX : List XC → List PV
  | []=>[]
  | .p v :: r=>v :: unX r
  | _ :: r=>.nilp :: unX r
theorem zuH : ∀ l : List PV, unX (xcm l) = l
  | []=>rfl
  | v :: r=>by show v :: unX (xcm r)=v :: r;rw[zuH r]
theorem zCK {n:Nat}{F:Nat->Int} : xcm (zgO 0 n F)=xcm (zgO 0 n (zkD (zm (unX (xcm (zgO 0 n F)))))):=by
 rw[zuH,← zg9]

section
variable (P:Program) (Γ:Ctrs) (ann:Ann)
def pt : Code → (Exit → St → Prop) → List Nat → List (St → Prop) → St → Prop
  | .seq a b,K,i :: r,X=>match i with | 0=>pt a (sqK P Γ ann b K) r X | _=>pt b K r X
  | .cond _ a b,K,i :: r,X=>match i with | 0=>pt a K r X | _=>pt b K r X
  | .block id b,K,_ :: r,X=>pt b (ze6 id K) r X
  | .loop b,K,_ :: r,x :: X=>pt b (zsk P ann (zkt b) x K) r X
  | .scope b,K,_ :: r,X=>pt b (zta K) r X
  | c,K,_,_=>vc P Γ ann c K
def ptF (fn:Func) (K:List PA->Prop) (l:List Nat) (X:List (St->Prop)):St->Prop :=
 match fn.body with
 | some c=>pt P Γ ann c (zok P fn K) l X
 | none=>λ _=>False
end

section
variable (P:Program) (Γ:Ctrs) (ann:Ann)
def ptR : Code → (Exit → St → Prop) → List Nat → List (St → Prop) → Code × (Exit → St → Prop)
  | .seq a b,K,i :: r,X=>match i with | 0=>ptR a (sqK P Γ ann b K) r X | _=>ptR b K r X
  | .cond _ a b,K,i :: r,X=>match i with | 0=>ptR a K r X | _=>ptR b K r X
  | .block id b,K,_ :: r,X=>ptR b (ze6 id K) r X
  | .loop b,K,_ :: r,x :: X=>ptR b (zsk P ann (zkt b) x K) r X
  | .scope b,K,_ :: r,X=>ptR b (zta K) r X
  | c,K,_,_=>(c,K)
def exF (fn:Func) (K:List PA->Prop) (l:List Nat) (X:List (St->Prop)) (s:St):Prop :=
 match fn.body with
 | some c=>(ptR P Γ ann c (zok P fn K) l X).2 .normal s
 | none=>False
def rnF (fn:Func) (K:List PA->Prop) (l:List Nat) (X:List (St->Prop)) (Y:List (List PA)->St->Prop) (y:List PA) (rest:List (List PA)) (s:St):Prop :=
 match fn.body with
 | some c=>match (ptR P Γ ann c (zok P fn K) l X).1 with
  | .rangeFunc _ ps a b=>zJp P Γ ann (zKR a b) ps.toList a b Y (ptR P Γ ann c (zok P fn K) l X).2 y rest s
  | _=>False
 | none=>False
end
@[reducible] def lpR {A Y : Type} (a : A) (st : Y → A → A) : List Y → A
  | []=>a
  | y :: r=>st y (lpR a st r)
theorem zri {Y A B : Type} {enc : Y → List PA} {X : List (List PA) → St → Prop} (pe : B) (se : A) (ps : Y → B → B) (ss : Y → A → A) (M : (St → Prop) → B → A → Prop) (h0 : M (X []) pe se)
    (h1:∀ y rest P S,M (X rest) P S->M (X (enc y :: rest)) (ps y P) (ss y S)):∀ l:List Y,M (X (l.map enc)) (lpR pe ps l) (lpR se ss l)
  | []=>h0
  | y :: r=>h1 y (r.map enc) _ _ (zri pe se ps ss M h0 h1 r)
theorem zr {at_ sf : Prop} {Y : Type} {enc : Y → List PA} {ys : List Y} {g : St} (Ex : St → Prop) (Rn : (List (List PA) → St → Prop) → List PA → List (List PA) → St → Prop)
    (e:at_=(sf/\∀ X:List (List PA)->St->Prop,(∀ s,Ex s->X [] s)->(∀ y rest s,Rn X y rest s->X (y :: rest) s)->X (ys.map enc) g)) (hs:sf)
    (h:∀ X:List (List PA)->St->Prop,(∀ s,Ex s->X [] s)->(∀ y rest s,Rn X y rest s->X (y :: rest) s)->X (ys.map enc) g):at_:=e ▸ ⟨hs,h⟩

theorem zc {b:Bool}{A B:Prop}{S S':Bool}{α:Type}{e:α->List PA}{K:List PA->Prop}{x y:α}(hs:cond b S S'=true) (hk:K (e (cond b x y))) (h1:S=true->K (e x)->A) (h2:S'=true->K (e y)->B):zc4 b A B:=by
 cases b
 ·exact h2 hs hk
 ·exact h1 hs hk
theorem zt {b:Bool}{A B:Prop}{α:Type}{e:α->List PA}{K:List PA->Prop}{x y:α}(hk:K (e (cond b x y))) (h1:K (e x)->A) (h2:K (e y)->B):zc4 b A B:=by
 cases b
 ·exact h2 hk
 ·exact h1 hk
theorem zGu {b:Bool}{s:Prop}{r1 r2:List PA}{K:List PA->Prop}(h:(COut.alt b s r1 s r2).wp K):s/\K (cond b r1 r2):=by
 cases b
 ·exact h.2 rfl
 ·exact h.1 rfl
theorem zf {α β:Type}(y:Sl α) (f:Sl α->β):f ⟨y.len,y.get⟩=f y:=rfl
theorem zq {b b':Bool}{A B:Prop}(e:b'=b) (h:zc4 b A B):zc4 b' A B:=e ▸ h
theorem zl {at_:Prop}{g:St}(B:(St->Prop)->St->Prop) (e:at_ = ∀ X:St->Prop,(∀ s,B X s->X s)->X g) (h:∀ X:St->Prop,(∀ s,B X s->X s)->X g):at_:=e ▸ h
end Go.Pm
namespace Go.Proofs
open Go Go.Pm
set_option maxRecDepth 100000
set_option linter.unusedVariables false
attribute [local irreducible] Go.Pm.vcFun Go.Pm.vc Go.Pm.vcIter
abbrev Tab:=Nat->Int
def tg (n:Nat) (F:Tab) (k:Nat):Int:=zkD (zm (zgO 0 n F)) k
def ts (n:Nat) (F:Tab) (k:Nat) (vs:List Int):Tab:=zAH k vs (zkD (zm (zgO 0 n F)))
abbrev zac (x:Int):List PV:=[.int .i64 x]
def zJq : List PV → Int
  | [.int .i64 x]=>x
  | _=>default
def zas (g:Nat->List PV):Nat->Int:=λ i=>zJq (g i)
theorem zbL (f:Nat->Int):zas (λ i=>zac (f i))=f:=rfl
structure Tie where
  From:Int
  To:Int
  Low:Int
  High:Int
deriving Inhabited
abbrev enc_40 (x:Tie):List PV:=[.int .i64 x.From,.int .i64 x.To,.int .i64 x.Low,.int .i64 x.High]
def zGv : List PV → Tie
  | [.int .i64 x_From,.int .i64 x_To,.int .i64 x_Low,.int .i64 x_High]=>(⟨x_From,x_To,x_Low,x_High⟩:Tie)
  | _=>default
def zan (g:Nat->List PV):Nat->Tie:=λ i=>zGv (g i)
theorem zal (f:Nat->Tie):zan (λ i=>enc_40 (f i))=f:=rfl
abbrev zGw (x:(Sl Tie)):List PV:=[.sl x.len 4 (λ i=>enc_40 (x.get i))]
structure Net where
  Nodes:Int
  Ties:(Sl Tie)
deriving Inhabited
abbrev enc_24 (x:Net):List PV:=[.int .i64 x.Nodes,.sl x.Ties.len 4 (λ i=>enc_40 (x.Ties.get i))]
abbrev zbW (x:(Sl Int)):List PV:=[.sl x.len 1 (λ i=>zac (x.get i))]
def zGx : List PV → (Sl Int)
  | [.sl x_n _ x_g]=>(⟨x_n,zas x_g⟩:(Sl Int))
  | _=>default
def zl1 (g:Nat->List PV):Nat->(Sl Int):=λ i=>zGx (g i)
theorem zj0 (f:Nat->(Sl Int)):zl1 (λ i=>zbW (f i))=f:=rfl
structure Span where
  Low:Int
  High:Int
deriving Inhabited
abbrev zaT (x:Span):List PV:=[.int .i64 x.Low,.int .i64 x.High]
def zGy : List PV → Span
  | [.int .i64 x_Low,.int .i64 x_High]=>(⟨x_Low,x_High⟩:Span)
  | _=>default
def zft (g:Nat->List PV):Nat->Span:=λ i=>zGy (g i)
theorem zeV (f:Nat->Span):zft (λ i=>zaT (f i))=f:=rfl
structure Pulse where
  A:Int
  B:Int
  TimeA:Int
  TimeB:Int
  Flight:Span
  Jitter:Int
deriving Inhabited
structure Use where
  Tie:Int
  Back:Bool
deriving Inhabited
abbrev zaR (x:Use):List PV:=[.int .i64 x.Tie,.bool x.Back]
def zGz : List PV → Use
  | [.int .i64 x_Tie,.bool x_Back]=>(⟨x_Tie,x_Back⟩:Use)
  | _=>default
def zc6 (g:Nat->List PV):Nat->Use:=λ i=>zGz (g i)
theorem zc7 (f:Nat->Use):zc6 (λ i=>zaR (f i))=f:=rfl
structure Flash where
  A:Int
  B:Int
  Time:Int
  Flight:Int
  Wrong:Int
deriving Inhabited
structure web where
  Net:Net
  out:Mp
deriving Inhabited
abbrev zaB (x:web):List PV:=[.int .i64 x.Net.Nodes,.sl x.Net.Ties.len 4 (λ i=>enc_40 (x.Net.Ties.get i)),.fm (false,1,false,[none]) x.out.n x.out.F]
structure far where
  length:Int
  uses:Int
deriving Inhabited
abbrev zca (x:far):List PV:=[.int .i64 x.length,.int .i64 x.uses]
def zCL : List PV → far
  | [.int .i64 x_length,.int .i64 x_uses]=>(⟨x_length,x_uses⟩:far)
  | _=>default
def ziT (g:Nat->List PV):Nat->far:=λ i=>zCL (g i)
theorem ziu (f:Nat->far):ziT (λ i=>zca (f i))=f:=rfl
abbrev zam (x:Tab):List PV:=zgO 0 80 x
def zaE (l:List PV):Tab:=zkD (zm l)
structure Step where
  From:Int
  To:Int
  Length:Int
  Use:Use
deriving Inhabited
abbrev zcq (x:Step):List PV:=[.int .i64 x.From,.int .i64 x.To,.int .i64 x.Length,.int .i64 x.Use.Tie,.bool x.Use.Back]
structure step where
  Use:Use
  from_:Int
  to:Int
  length:Int
deriving Inhabited
abbrev zaC (x:step):List PV:=[.int .i64 x.Use.Tie,.bool x.Use.Back,.int .i64 x.from_,.int .i64 x.to,.int .i64 x.length]
def zCM : List PV → step
  | [.int .i64 x_Use_Tie,.bool x_Use_Back,.int .i64 x_from_,.int .i64 x_to,.int .i64 x_length]=>(⟨(⟨x_Use_Tie,x_Use_Back⟩:Use),x_from_,x_to,x_length⟩:step)
  | _=>default
def zha (g:Nat->List PV):Nat->step:=λ i=>zCM (g i)
theorem zeh (f:Nat->step):zha (λ i=>zaC (f i))=f:=rfl
structure tie where
  Tie:Tie
  index:Int
deriving Inhabited
abbrev zuI (x:tie):List PV:=[.int .i64 x.Tie.From,.int .i64 x.Tie.To,.int .i64 x.Tie.Low,.int .i64 x.Tie.High,.int .i64 x.index]
abbrev zuJ (x:Tab):List PV:=zgO 0 40 x
abbrev zcJ (x:(Sl Tab)):List PV:=[.sl x.len 80 (λ i=>zam (x.get i))]
abbrev tL (T:Tab) (i:Int):Int:=tg 80 T (0+i.toNat * 2+0)
abbrev tU (T:Tab) (i:Int):Int:=tg 80 T (0+i.toNat * 2+0+1)
abbrev tV (T:Tab) (i:Int):Int:=tg 80 T (0+i.toNat * 2+1)
abbrev nvr (x y:Int):Bool:=match (x == (1000000000000:Int)) with | true=>(match (y == (0:Int)) with | true=>true | false=>false) | false=>false
end Go.Proofs
namespace Go.Pm
open Go Go.Deep

theorem zzL (b o i j:Nat):((⟨b,o,none⟩:Addr).add i).add j=⟨b,o+i+j,none⟩:=by
 simp only[Addr.add]
 by_cases h1:i=0
 ·subst h1
  by_cases h2:j=0
  ·subst h2;rfl
  ·rw[if_neg h2];rfl
 ·rw [if_neg h1]
  by_cases h2:j=0
  ·subst h2;rfl
  ·rw[if_neg h2]
def H0 (w:World):Fz:=λ b=>(w.heap[b]?).map .fz
theorem hw_H0 (w:World):Hw (H0 w) w:=by
 intro b x h
 unfold H0 at h
 cases e:w.heap[b]? with
 | none=>rw[e] at h;cases h
 | some o=>rw[e] at h;cases h;exact⟨o,rfl,rfl⟩
def wfI (x:Int):Prop:=-9223372036854775808≤x/\x≤9223372036854775807
section
variable {H:Type}{en:TypeId×Value->H}{P:Program}{w:World}{sp:Nat->Bool}{held:Bool}
def Rd (H:Type) (en:TypeId×Value->H) (P:Program) (w:World) (sp:Nat->Bool) (held:Bool) (t:TypeId){α:Type}(enc:α->List PV) (wf:α->Prop):Prop :=
 ∀ (fuel:Nat) (cs:List Value) (x:DataW H×List MemPlace),DataW.trod en P w 0 sp held fuel t cs=some x->∃ a:α,RL (Rep (H0 w)) (enc a) cs/\wf a
theorem zGA {t:TypeId}(ht:P.underlying t=some (.int .i64)):Rd H en P w sp held t (λ x=>[.int .i64 x]) wfI:=by
 intro fuel cs x h
 obtain⟨n,rfl,_,hw⟩:=DataW.trod_int ht h
 refine⟨n,⟨.int _ _,trivial⟩,?_⟩
 simp only[Lit.wf,Bool.and_eq_true,decide_eq_true_eq] at hw
 exact⟨hw.1,hw.2⟩
theorem znE {t : TypeId} {fs : Array Field} (ht : P.underlying t = some (.struct fs)) {fuel : Nat} {cs : List Value} {x : DataW H × List MemPlace} (h : DataW.trod en P w 0 sp held fuel t cs = some x) :
  cs.length=P.cellsOf t/\∀ (i:Nat) (f:Field),fs[i]? = some f->∃ n y,DataW.trod en P w 0 sp held n f.type ((cs.drop f.offset).take (P.cellsOf f.type))=some y:=by
 obtain⟨xs,n,_,_,hl,hx,hf⟩:=DataW.trod_struct ht h
 refine⟨hl,λ i f hi=>?_⟩
 have hlt:i < xs.length:=by rw[hx];exact (Array.getElem?_eq_some_iff.1 hi).1
 exact⟨n,xs[i],by rw[hf i f hi,List.getElem?_eq_getElem hlt]⟩
theorem zzM {t e : TypeId} {α : Type} [Inhabited α] {enc : α → List PV} {wf : α → Prop} {s : Nat} (ht : P.underlying t = some (.slice e)) (hc : P.cellsOf e = s) (hs : 0 < s) (hlen : ∀ a, (enc a).length = s)
    (hel:Rd H en P w sp held e enc wf):Rd H en P w sp held t (λ x:Sl α=>[.sl x.len s (λ i=>enc (x.get i))]) (λ x=>x.len≤9223372036854775807/\∀ i,i < x.len->wf (x.get i)):=by
  intro fuel cs x h
  rcases open_slice ht h with ⟨rfl,_⟩ | ⟨a,len,cap,m,n,D,Pl,rfl,_,hl,hm,hmm,_,hget⟩
  · exact⟨⟨0,default⟩,⟨.sl0 _ _,trivial⟩,Nat.zero_le _,λ i hi=>absurd hi (Nat.not_lt_zero i)⟩
  · by_cases h0 : len = 0
    · subst h0
      exact⟨⟨0,default⟩,⟨.sle _ _ _ _,trivial⟩,Nat.zero_le _,λ i hi=>absurd hi (Nat.not_lt_zero i)⟩
    · have hlm : len ≤ m := by rw [hmm]; split <;> omega
      rw[hc] at hget
      have hex:∀ i,i < len->∃ y:α,(∃ cs',w.cells? 0 (a.add (i * s)) s=some cs'/\RL (Rep (H0 w)) (enc y) cs')/\wf y:=by
        intro i hi
        obtain⟨cs',h1,h2⟩:=hget i (by omega)
        obtain⟨y,h3,h4⟩:=hel _ _ _ h2
        exact⟨y,⟨cs',h1,h3⟩,h4⟩
      have hch:∃ f:Nat->α,∀ i,i < len->(∃ cs',w.cells? 0 (a.add (i * s)) s=some cs'/\RL (Rep (H0 w)) (enc (f i)) cs')/\wf (f i):=by
        refine⟨λ i=>if hi:i < len then Classical.choose (hex i hi) else default,λ i hi=>?_⟩
        simp only[dif_pos hi]
        exact Classical.choose_spec (hex i hi)
      obtain⟨f,hf⟩:=hch
      -- the block
      have hcell:∀ i,i < len->∀ j,j < s->∃ cs',w.cells? 0 (a.add (i * s)) s=some cs'/\RL (Rep (H0 w)) (enc (f i)) cs'/\w.cell? ((a.add (i * s)).add j)=cs'[j]?/\cs'.length=s:=by
        intro i hi j hj
        obtain⟨⟨cs',h1,h2⟩,_⟩:=hf i hi
        obtain⟨_,h3,h4⟩:=World.cells?_some h1
        exact⟨cs',h1,h2,h4 j hj,h3⟩
      obtain⟨cs0,_,_,hc0,hl0⟩:=hcell 0 (by omega) 0 hs
      have ha0:w.cell? a=cs0[0]?:=by simpa [Addr.add] using hc0
      rw[List.getElem?_eq_getElem (by omega)] at ha0
      obtain⟨C,ty,fr,hblk,hspot⟩:∃ C ty fr,w.heap[a.block]? = some (.cells C ty fr)/\a.spot=none:=by
        unfold World.cell? at ha0
        split at ha0
        · rename_i C ty fr hb
          refine⟨C,ty,fr,hb,?_⟩
          cases hsp:a.spot with
          | none=>rfl
          | some k=>rw[hsp] at ha0;simp at ha0
        · cases ha0
      have ea:a=⟨a.block,a.off,none⟩:=by rw[← hspot]
      have hat:∀ i j,i < len->j < s->∃ cs',RL (Rep (H0 w)) (enc (f i)) cs'/\C[a.off+i * s+j]? = cs'[j]?/\cs'.length=s:=by
        intro i j hi hj
        obtain⟨cs',_,h2,h3,h4⟩:=hcell i hi j hj
        refine⟨cs',h2,?_,h4⟩
        rw[← h3]
        have e2:(a.add (i * s)).add j=⟨a.block,a.off+i * s+j,none⟩:=(congrArg (λ z:Addr=>(z.add (i * s)).add j) ea).trans (zzL _ _ _ _)
        rw[e2]
        simp[World.cell?,hblk]
      refine⟨⟨len,f⟩,⟨?_,trivial⟩,by simp only[maxLen] at hm;show len≤_;omega,λ i hi=>(hf i hi).2⟩
      rw[ea]
      refine .sl len s _ a.block a.off cap C ty fr (λ i j=>C.getD (a.off+i * s+j) undef) (by simp[H0,hblk]) hl (λ i _=>hlen _) ?_ ?_
      · intro i j x hi hx
        have hj:j < s:=by have:=(List.getElem?_eq_some_iff.1 hx).1;rw[hlen] at this;exact this
        obtain⟨cs',h1,h2,h3⟩:=hat i j hi hj
        rw[Array.getD_eq_getD_getElem?,h2,List.getElem?_eq_getElem (by omega)]
        rfl
      · intro i j x hi hx
        have hj:j < s:=by have:=(List.getElem?_eq_some_iff.1 hx).1;rw[hlen] at this;exact this
        obtain⟨cs',h1,h2,h3⟩:=hat i j hi hj
        obtain⟨v,hv,hr⟩:=h1.get j x hx
        rw[Array.getD_eq_getD_getElem?,h2,hv]
        exact hr
theorem zdN {α:Type}(l:List α) (o s:Nat):l.drop o=(l.drop o).take s ++ l.drop (o+s):=by
 rw[← List.drop_drop]
 exact (List.take_append_drop s (l.drop o)).symm
theorem okWide_agg {t:TypeId}{fs:Array Field}{r:Reach}{base:Nat}{v:Value}(ht:P.underlying t=some (.struct fs)) (h:Value.okWide P w r base t v):∃ cs,v=.agg cs:=by
 unfold Value.okWide at h
 rw[ht] at h
 obtain⟨cs,hv,_⟩:=h
 exact⟨cs,hv⟩
def zJr : TypeDesc → Bool
  | .struct _=>false
  | .array _ _=>false
  | _=>true
theorem okWide_one {t:TypeId}{d:TypeDesc}{r:Reach}{base:Nat}{v:Value}(ht:P.underlying t=some d) (hd:zJr d=true) (h:Value.okWide P w r base t v):v.cells.toList=[v]:=by
 unfold Value.okWide at h
 rw[ht] at h
 cases v with
 | agg cs =>
  exfalso
  cases d <;> first | (cases hd;done) | (simp only[Cell.okWide,Cell.ok,ht] at h)
 | _=>rfl
theorem pa_one {h:Fz}{p:PV}{v:Value}(hv:v.cells.toList=[v]) (r:RL (Rep h) [p] v.cells.toList):paR h (.one p) v:=by
 rw[hv] at r
 exact r.1
theorem pa_agg {h:Fz}{l:List PV}{v:Value}(hv:∃ cs,v=.agg cs) (r:RL (Rep h) l v.cells.toList):paR h (.agg l) v:=by
 obtain⟨cs,rfl⟩:=hv
 exact⟨cs.toList,by simp,r⟩
theorem below_H0 {w':World}(b:Bel (H0 w) w.heap.size w w'):Go.RowKit.Below w.heap.size w w' :=
 ⟨b.os,b.tape,b.output,b.size,λ k hk=>b.block k hk λ F e=>by
  unfold H0 at e
  cases hb:w.heap[k]? <;> rw[hb] at e <;> cases e⟩
end
end Go.Pm
namespace Go.Proofs
open Go Go.Pm
set_option maxRecDepth 100000
set_option linter.unusedVariables false
attribute [local irreducible] Go.Pm.vcFun Go.Pm.vc Go.Pm.vcIter
theorem C_3:Tryd.prog.cellsOf 3=1:=by kernel_rfl
theorem zLs:Tryd.prog.cellsOf 22=1:=by kernel_rfl
theorem zLt:Tryd.prog.cellsOf 24=2:=by kernel_rfl
theorem zKX:Tryd.prog.cellsOf 40=4:=by kernel_rfl
abbrev wf_3 (x:Int):Prop:=wfI x
theorem rd_3 {H:Type}{en:TypeId×Value->H}{w:World}{sp:Nat->Bool}{held:Bool} : Rd H en Tryd.prog w sp held 3 zac wf_3:=zGA Tryd.underlying3
def zGB (x:Tie):Prop:=wf_3 x.From/\wf_3 x.To/\wf_3 x.Low/\wf_3 x.High
theorem zJs {H:Type}{en:TypeId×Value->H}{w:World}{sp:Nat->Bool}{held:Bool} : Rd H en Tryd.prog w sp held 40 enc_40 zGB:=by
  intro fuel cs x h
  obtain⟨hl,hf⟩:=znE Tryd.underlying40 h
  rw[zKX] at hl
  obtain⟨n0,y0,g0⟩:=hf 0 _ rfl
  have g0:DataW.trod en Tryd.prog w 0 sp held n0 3 ((cs.drop 0).take (Tryd.prog.cellsOf 3))=some y0:=g0
  rw[C_3] at g0
  obtain⟨a0,r0,w0⟩:=rd_3 _ _ _ g0
  obtain⟨n1,y1,g1⟩:=hf 1 _ rfl
  have g1:DataW.trod en Tryd.prog w 0 sp held n1 3 ((cs.drop 1).take (Tryd.prog.cellsOf 3))=some y1:=g1
  rw[C_3] at g1
  obtain⟨a1,r1,w1⟩:=rd_3 _ _ _ g1
  obtain⟨n2,y2,g2⟩:=hf 2 _ rfl
  have g2:DataW.trod en Tryd.prog w 0 sp held n2 3 ((cs.drop 2).take (Tryd.prog.cellsOf 3))=some y2:=g2
  rw[C_3] at g2
  obtain⟨a2,r2,w2⟩:=rd_3 _ _ _ g2
  obtain⟨n3,y3,g3⟩:=hf 3 _ rfl
  have g3:DataW.trod en Tryd.prog w 0 sp held n3 3 ((cs.drop 3).take (Tryd.prog.cellsOf 3))=some y3:=g3
  rw[C_3] at g3
  obtain⟨a3,r3,w3⟩:=rd_3 _ _ _ g3
  have z:cs.drop 4=[]:=List.drop_eq_nil_of_le (by omega)
  have R:=(r0.append (r1.append (r2.append (r3.append (show RL (Rep (H0 w)) [] (cs.drop 4) by rw[z];exact znD)))))
  rw[← (show cs.drop 3=(cs.drop 3).take 1 ++ cs.drop 4 from zdN cs 3 1)] at R
  rw[← (show cs.drop 2=(cs.drop 2).take 1 ++ cs.drop 3 from zdN cs 2 1)] at R
  rw[← (show cs.drop 1=(cs.drop 1).take 1 ++ cs.drop 2 from zdN cs 1 1)] at R
  rw[← (show cs.drop 0=(cs.drop 0).take 1 ++ cs.drop 1 from zdN cs 0 1)] at R
  exact⟨⟨a0,a1,a2,a3⟩,R,⟨w0,w1,w2,w3⟩⟩
def zGC (x:(Sl Tie)):Prop:=x.len≤9223372036854775807/\∀ i,i < x.len->zGB (x.get i)
theorem zJt {H:Type}{en:TypeId×Value->H}{w:World}{sp:Nat->Bool}{held:Bool} : Rd H en Tryd.prog w sp held 22 zGw zGC:=zzM Tryd.underlying22 zKX (by decide) (λ _=>rfl) zJs
def wf_24 (x:Net):Prop:=wf_3 x.Nodes/\zGC x.Ties
theorem rd_24 {H:Type}{en:TypeId×Value->H}{w:World}{sp:Nat->Bool}{held:Bool} : Rd H en Tryd.prog w sp held 24 enc_24 wf_24:=by
  intro fuel cs x h
  obtain⟨hl,hf⟩:=znE Tryd.underlying24 h
  rw[zLt] at hl
  obtain⟨n0,y0,g0⟩:=hf 0 _ rfl
  have g0:DataW.trod en Tryd.prog w 0 sp held n0 3 ((cs.drop 0).take (Tryd.prog.cellsOf 3))=some y0:=g0
  rw[C_3] at g0
  obtain⟨a0,r0,w0⟩:=rd_3 _ _ _ g0
  obtain⟨n1,y1,g1⟩:=hf 1 _ rfl
  have g1:DataW.trod en Tryd.prog w 0 sp held n1 22 ((cs.drop 1).take (Tryd.prog.cellsOf 22))=some y1:=g1
  rw[zLs] at g1
  obtain⟨a1,r1,w1⟩:=zJt _ _ _ g1
  have z:cs.drop 2=[]:=List.drop_eq_nil_of_le (by omega)
  have R:=(r0.append (r1.append (show RL (Rep (H0 w)) [] (cs.drop 2) by rw[z];exact znD)))
  rw[← (show cs.drop 1=(cs.drop 1).take 1 ++ cs.drop 2 from zdN cs 1 1)] at R
  rw[← (show cs.drop 0=(cs.drop 0).take 1 ++ cs.drop 1 from zdN cs 0 1)] at R
  exact⟨⟨a0,a1⟩,R,⟨w0,w1⟩⟩
end Go.Proofs
namespace Go.Proofs
open Go Go.Pm
set_option maxRecDepth 100000
set_option linter.unusedVariables false
attribute [local irreducible] Go.Pm.vcFun Go.Pm.vc Go.Pm.vcIter
abbrev T81:Tabs:=Tabs.nil
theorem zJu:TabsOk Tryd.prog T81:=TabsOk.nil
abbrev G81:Ctrs:=csm T81 (λ _ _=>[]) (λ _=>false)
def zGD:Ann:=⟨15,[(0,zK [0,1,2] []),(1,zK [6] [])],
 [],
 [],
 [],[]⟩
abbrev R81:=Bool
abbrev e81 (r:R81):List PA:=[.one (.bool r)]
section
variable {K:List PA->Prop}{n:Int}{low:Int}{high:Int}
def s81 (n:Int) (low:Int) (high:Int):Bool :=
  (cond (decide (n ≥ low))
 (decide (n≤high))
 false)
end
theorem q81 (n:Int) (low:Int) (high:Int) (K:List PA->Prop) (hk:K (e81 (s81 n low high))):vcFun Tryd.prog G81 zGD 81 [.one (.int .i64 n),.one (.int .i64 low),.one (.int .i64 high)] K :=
  za2 (by kernel_rfl) (zt hk (λ hk=>hk) (λ hk=>hk))
def zuK : List PA → COut
  | [.one (.int .i64 a0),.one (.int .i64 a1),.one (.int .i64 a2)]=>.tot [.one (.bool (s81 a0 a1 a2))]
  | _=>.no
theorem zGE:zav Tryd.prog 81:=⟨_,rfl,rfl,by kernel_rfl⟩
theorem zJv:Ok Tryd.prog 81 zuK:=zbk zJu zGE λ args K h=>by
  unfold zuK at h
  split at h
  · rename_i a0 a1 a2
    have hk:=h
    exact⟨(λ _ _=>[]),(λ _=>false),zGD,q81 a0 a1 a2 K hk⟩
  · exact h.elim
abbrev T78:Tabs:=(Tabs.nil.addF 81 zuK)
theorem zJw:TabsOk Tryd.prog T78:=(TabsOk.nil.addF zJv)
abbrev G78:Ctrs:=csm T78 (λ _ _=>[]) (λ _=>false)
def zCN:Ann:=⟨55,[(0,zK [1,2] [2]),(1,zK [1,2,5] [2]),(2,zK [1,2,5,6] [2]),(3,zK [4] [])],
 [],
 [(2,zK [1,2,5] [2]),(3,zK [1,2,5,6] [2])],
 [],[]⟩
abbrev R78:=Bool
abbrev e78 (r:R78):List PA:=[.one (.bool r)]
@[irreducible] def z78:=ptF Tryd.prog G78 zCN Tryd.f78
section
variable {K:List PA->Prop}{t:Tie}{nodes:Int}{zl2:Bool}{zqU:Bool}
def zj1 (t:Tie) (nodes:Int) (zl2:Bool) (zqU:Bool):Bool :=
  (cond (s81 t.From (0:Int) (w64 (nodes - (1:Int))))
 (cond (s81 t.To (0:Int) (w64 (nodes - (1:Int))))
 (cond (t.From != t.To)
 (cond zl2
 (cond zqU
 (decide (t.Low≤t.High))
 false)
 false)
 false)
 false)
 false)
theorem zuL (hk:K (e78 (zj1 t nodes zl2 zqU))):z78 K [1,1,1] [] ⟨[(1,zI nodes),(2,zp 2 0),(5,zB zl2),(6,zB zqU)],[(2,.box 40 (zm (enc_40 t)))],[]⟩:=za2 (by kernel_rfl) (zt hk (λ hk=>(zt hk (λ hk=>(zt hk (λ hk=>(zt hk (λ hk=>(zt hk (λ hk=>hk) (λ hk=>hk))) (λ hk=>hk))) (λ hk=>hk))) (λ hk=>hk))) (λ hk=>hk))
def zj2 (t:Tie) (nodes:Int) (zl2:Bool):Bool :=
  (cond (t.High == (1000000000000:Int))
 (zj1 t nodes zl2 true)
 (zj1 t nodes zl2 (s81 t.High (-1000000000:Int) (1000000000:Int))))
theorem zuM (hk:K (e78 (zj2 t nodes zl2))):z78 K [1,1] [] ⟨[(1,zI nodes),(2,zp 2 0),(5,zB zl2)],[(2,.box 40 (zm (enc_40 t)))],[]⟩:=za2 (by kernel_rfl) (zt hk (λ hk=>(zuL hk)) (λ hk=>(zuL hk)))
def s78 (t:Tie) (nodes:Int):Bool :=
  (cond (t.Low == (-1000000000000:Int))
 (zj2 t nodes true)
 (zj2 t nodes (s81 t.Low (-1000000000:Int) (1000000000:Int))))
end
theorem q78 (t:Tie) (nodes:Int) (K:List PA->Prop) (hk:K (e78 (s78 t nodes))):vcFun Tryd.prog G78 zCN 78 [.agg (enc_40 t),.one (.int .i64 nodes)] K :=
  za2 (by kernel_rfl) (zt hk (λ hk=>(zuM hk)) (λ hk=>(zuM hk)))
def zCO : List PA → COut
  | [.agg [.int .i64 zoT,.int .i64 zCP,.int .i64 zuN,.int .i64 zoU],.one (.int .i64 a1)]=>.tot [.one (.bool (s78 (⟨zoT,zCP,zuN,zoU⟩:Tie) a1))]
  | _=>.no
theorem zGF:zav Tryd.prog 78:=⟨_,rfl,rfl,by kernel_rfl⟩
theorem zLu:Ok Tryd.prog 78 zCO:=zbk zJw zGF λ args K h=>by
  unfold zCO at h
  split at h
  · rename_i zoT zCP zuN zoU a1
    have hk:=h
    exact⟨(λ _ _=>[]),(λ _=>false),zCN,q78 (⟨zoT,zCP,zuN,zoU⟩:Tie) a1 K hk⟩
  · exact h.elim
abbrev T67:Tabs:=((Tabs.nil.addF 78 zCO).addF 81 zuK)
theorem zJx:TabsOk Tryd.prog T67:=((TabsOk.nil.addF zLu).addF zJv)
abbrev G67:Ctrs:=csm T67 (λ _ _=>[]) (λ _=>false)
def zzN:Ann:=⟨27,[(0,zK [1] [1]),(1,zK [1,6,7,8] [1]),(2,zK [1,6,7,8,9] [1]),(3,zK [1,4,6,7,8] [1,4]),(4,zK [1,6,7,8,16] [1]),(5,zK [2] []),(6,zK [1,6,7,8] [1]),(7,zK [2] [])],
 [(2,zK [1,6,7,8] [1])],
 [(5,zK [1,6,7,8,16] [1])],
 [],[]⟩
abbrev R67:=Bool
abbrev e67 (r:R67):List PA:=[.one (.bool r)]
@[irreducible] def z67:=ptF Tryd.prog G67 zzN Tryd.f67
def zA4 (n:Net) (zdx:Int):St:=⟨[(1,zp 1 0),(6,zS enc_40 4 n.Ties),(7,zI (n.Ties.len:Int)),(8,zI zdx)],[(1,.box 24 (zm (enc_24 n)))],[]⟩
abbrev zCQ (K:List PA->Prop) (n:Net) (X:St->Prop) (P:Int->Bool) (S:Int->Bool):Prop:=∀ ⦃zdx:Int⦄,P zdx=true->K (e67 (S zdx))->X (zA4 n zdx)
section
variable {K:List PA->Prop}{n:Net}{zdx:Int}{X0:St->Prop}{P0:Int->Bool}{S0:Int->Bool}{zCR:Int}{zoV:Bool}
def zoW (S0:Int->Bool) (n:Net) (zCR:Int) (zoV:Bool):Bool :=
  (cond zoV
 false
 (S0 (w64 (zCR+(1:Int)))))
def zoX (P0:Int->Bool) (n:Net) (zCR:Int) (zoV:Bool):Bool :=
  (cond zoV
 true
 (P0 (w64 (zCR+(1:Int)))))
theorem zCS (hX0:zCQ K n X0 P0 S0) (hs:zoX P0 n zCR zoV=true) (hk:K (e67 (zoW S0 n zCR zoV))):z67 K [1,0,1,0,0,1,1,0,0,1,1] [X0] ⟨[(1,zp 1 0),(6,zS enc_40 4 n.Ties),(7,zI (n.Ties.len:Int)),(8,zI zCR),(16,zB zoV)],[(1,.box 24 (zm (enc_24 n)))],[]⟩:=za2 (by kernel_rfl) (zc hs hk (λ hs hk=>hk) (λ hs hk=>(hX0 hs hk)))
def zhA (n:Net) (S0:Int->Bool) (zdx:Int):Bool :=
  (cond (decide (zdx < (n.Ties.len : Int)))
 (zoW S0 n zdx (!(s78 (n.Ties.get zdx.toNat) n.Nodes)))
 (cond (s81 n.Nodes (1:Int) (40:Int))
 (decide ((n.Ties.len:Int)≤(200:Int)))
 false))
def zhB (n:Net) (P0:Int->Bool) (zdx:Int):Bool :=
  (cond (decide (zdx < (n.Ties.len : Int)))
 (decide ((0≤zdx/\zdx < (n.Ties.len:Int))) &&
 (zoX P0 n zdx (!(s78 (n.Ties.get zdx.toNat) n.Nodes))))
 true)
def zhC (n:Net):Nat->Int->Bool:=lpO (λ _=>default) (zhA n)
def zhD (n:Net):Nat->Int->Bool:=lpO (λ _=>false) (zhB n)
def zuO (n:Net) (zdx:Int):Bool:=zhC n Fuel zdx
def zuP (n:Net) (zdx:Int):Bool:=zhD n Fuel zdx
theorem zCT (hs:zuP n zdx=true) (hk:K (e67 (zuO n zdx))):z67 K [1,0,1,0] [] (zA4 n zdx) :=
  zl (λ X=>z67 K [1,0,1,0,0] [X]) (by kernel_rfl) λ X0 hX =>
  (show ∀ k, zCQ K n X0 (zhD n k) (zhC n k) from zeF _ _ (zhB n) (zhA n) (zCQ K n X0)
 (by intro _ hs;exact absurd hs Bool.false_ne_true)
 (by intro P0 S0 hX0 zdx hs hk;exact hX _ (za2 (by kernel_rfl) (zc hs hk (λ hs hk=>(zaM hs λ hc hs=>And.intro hc (zCS hX0 hs hk))) (λ hs hk=>(zt hk (λ hk=>hk) (λ hk=>hk))))))) _ hs hk
def s67 (n:Net):Bool :=
  (zuO n (0:Int))
def p67 (n:Net):Bool :=
  (zuP n (0:Int))
end
theorem q67 (n:Net) (K:List PA->Prop) (hs:p67 n=true) (hk:K (e67 (s67 n))):vcFun Tryd.prog G67 zzN 67 [.agg (enc_24 n)] K :=
  za2 (by kernel_rfl) (zCT hs hk)
def zuQ : List PA → COut
  | [.agg [.int .i64 zaf,.sl zae zay zad]]=>.det (IsE enc_40 4 zay zad/\p67 (⟨zaf,(⟨zae,zan zad⟩:(Sl Tie))⟩:Net)=true) [.one (.bool (s67 (⟨zaf,(⟨zae,zan zad⟩:(Sl Tie))⟩:Net)))]
  | [.agg [.int .i64 zaf,.nils]]=>.det (p67 (⟨zaf,(⟨0,λ _=>default⟩:(Sl Tie))⟩:Net)=true) [.one (.bool (s67 (⟨zaf,(⟨0,λ _=>default⟩:(Sl Tie))⟩:Net)))]
  | _=>.no
theorem zGG:zav Tryd.prog 67:=⟨_,rfl,rfl,by kernel_rfl⟩
theorem zJy:Ok Tryd.prog 67 zuQ:=zhz zJx zGG λ args K h=>by
  unfold zuQ at h
  split at h
  · rename_i zaf zae zay zad
    obtain⟨⟨⟨rfl,zaq,rfl⟩,hs⟩,hk⟩:=h
    try rw[zal zaq] at hs
    try rw[zal zaq] at hk
    exact⟨_,zfs zgj _,(λ _ _=>[]),(λ _=>false),zzN,q67 (⟨zaf,(⟨zae,zaq⟩:(Sl Tie))⟩:Net) (Wk K) hs (zgk hk)⟩
  · rename_i zaf
    obtain⟨hs,hk⟩:=h
    exact⟨_,(zhm (.agg (zhm (.rfl _) (zhm (.nil _ _) znD))) znD),(λ _ _=>[]),(λ _=>false),zzN,q67 (⟨zaf,(⟨0,λ _=>default⟩:(Sl Tie))⟩:Net) (Wk K) hs (zgk hk)⟩
  · exact h.elim
abbrev T93:Tabs:=Tabs.nil
theorem zJz:TabsOk Tryd.prog T93:=TabsOk.nil
abbrev G93:Ctrs:=csm T93 (λ _ _=>[]) (λ _=>false)
def zCU:Ann:=⟨4,[(0,zK [1] [1]),(1,zK [2] [])],
 [],
 [],
 [],[]⟩
theorem zCV (w : web) (K : List PA → Prop) :
  vcFun Tryd.prog G93 zCU 93 [.one (.fp (zaB w) 0)] K =
  (K [.one (.fn 110 [] [.fp [.fp (zaB w) 0] 0])]):=by kernel_rfl
theorem q93 (w:web) (K:List PA->Prop) (hk:K [.one (.fn 110 [] [.fp [.fp (zaB w) 0] 0])]):vcFun Tryd.prog G93 zCU 93 [.one (.fp (zaB w) 0)] K:=za2 (zCV w K) hk
def znF : List PA → COut
  | [.one (.fp [.int .i64 zak,.sl zai zaA zaj,.fm za6 zaG zaH] 0)]=>.det (IsE enc_40 4 zaA zaj/\za6=(false,1,false,[none])) [.one (.fn 110 [] [.fp [.fp (zaB (⟨(⟨(⟨zak,(⟨zai,zan zaj⟩:(Sl Tie))⟩:Net),(⟨zaG,zaH⟩:Mp)⟩:web).Net,((⟨(⟨zak,(⟨zai,zan zaj⟩:(Sl Tie))⟩:Net),(⟨zaG,zaH⟩:Mp)⟩:web).out)⟩:web)) 0] 0])]
  | _=>.no
theorem zGH:zav Tryd.prog 93:=⟨_,rfl,rfl,by kernel_rfl⟩
theorem zFP:Ok Tryd.prog 93 znF:=zbk zJz zGH λ args K h=>by
  unfold znF at h
  split at h
  · rename_i zak zai zaA zaj za6 zaG zaH
    obtain⟨⟨⟨rfl,zat,rfl⟩,rfl⟩,hk⟩:=h
    try rw[zal zat] at hk
    exact⟨λ _ _=>[],λ _=>false,zCU,q93 (⟨(⟨zak,(⟨zai,zat⟩:(Sl Tie))⟩:Net),(⟨zaG,zaH⟩:Mp)⟩:web) K hk⟩
  · exact h.elim
abbrev T94:Tabs:=Tabs.nil
theorem zJA:TabsOk Tryd.prog T94:=TabsOk.nil
abbrev G94:Ctrs:=csm T94 (λ _ _=>[]) (λ _=>false)
def zGI:Ann:=⟨21,[(0,zK [1,2] [1,2]),(1,zK [2,3] [2])],
 [],
 [],
 [],[]⟩
abbrev R94:=(step×Bool)
abbrev e94 (r:R94):List PA:=[.agg [.int .i64 r.1.Use.Tie,.bool r.1.Use.Back,.int .i64 r.1.from_,.int .i64 r.1.to,.int .i64 r.1.length],.one (.bool r.2)]
section
variable {K:List PA->Prop}{t:tie}
def s94 (t:tie):(step×Bool) :=
  ((⟨(⟨t.index,false⟩:Use),t.Tie.From,t.Tie.To,t.Tie.High⟩:step),(t.Tie.High != (1000000000000:Int)))
end
theorem q94 (t:tie) (K:List PA->Prop) (hk:K (e94 (s94 t))):vcFun Tryd.prog G94 zGI 94 [.agg (zuI t)] K :=
  za2 (by kernel_rfl) hk
def zCW : List PA → COut
  | [.agg [.int .i64 za7,.int .i64 zbA,.int .i64 zbm,.int .i64 za8,.int .i64 zbN]]=>.tot [.agg [.int .i64 (((s94 (⟨(⟨za7,zbA,zbm,za8⟩:Tie),zbN⟩:tie)).1).Use.Tie),.bool (((s94 (⟨(⟨za7,zbA,zbm,za8⟩:Tie),zbN⟩:tie)).1).Use.Back),.int .i64 (((s94 (⟨(⟨za7,zbA,zbm,za8⟩:Tie),zbN⟩:tie)).1).from_),.int .i64 (((s94 (⟨(⟨za7,zbA,zbm,za8⟩:Tie),zbN⟩:tie)).1).to),.int .i64 (((s94 (⟨(⟨za7,zbA,zbm,za8⟩:Tie),zbN⟩:tie)).1).length)],.one (.bool ((s94 (⟨(⟨za7,zbA,zbm,za8⟩:Tie),zbN⟩:tie)).2))]
  | _=>.no
theorem zGJ:zav Tryd.prog 94:=⟨_,rfl,rfl,by kernel_rfl⟩
theorem zLv:Ok Tryd.prog 94 zCW:=zbk zJA zGJ λ args K h=>by
  unfold zCW at h
  split at h
  · rename_i za7 zbA zbm za8 zbN
    have hk:=h
    exact⟨(λ _ _=>[]),(λ _=>false),zGI,q94 (⟨(⟨za7,zbA,zbm,za8⟩:Tie),zbN⟩:tie) K hk⟩
  · exact h.elim
abbrev T95:Tabs:=Tabs.nil
theorem zJB:TabsOk Tryd.prog T95:=TabsOk.nil
abbrev G95:Ctrs:=csm T95 (λ _ _=>[]) (λ _=>false)
def zGK:Ann:=⟨22,[(0,zK [1,2] [1,2]),(1,zK [2,3] [2])],
 [],
 [],
 [],[]⟩
abbrev R95:=(step×Bool)
abbrev e95 (r:R95):List PA:=[.agg [.int .i64 r.1.Use.Tie,.bool r.1.Use.Back,.int .i64 r.1.from_,.int .i64 r.1.to,.int .i64 r.1.length],.one (.bool r.2)]
section
variable {K:List PA->Prop}{t:tie}
def s95 (t:tie):(step×Bool) :=
  ((⟨(⟨t.index,true⟩:Use),t.Tie.To,t.Tie.From,(w64 (0 - t.Tie.Low))⟩:step),(t.Tie.Low != (-1000000000000:Int)))
end
theorem q95 (t:tie) (K:List PA->Prop) (hk:K (e95 (s95 t))):vcFun Tryd.prog G95 zGK 95 [.agg (zuI t)] K :=
  za2 (by kernel_rfl) hk
def zCX : List PA → COut
  | [.agg [.int .i64 za7,.int .i64 zbA,.int .i64 zbm,.int .i64 za8,.int .i64 zbN]]=>.tot [.agg [.int .i64 (((s95 (⟨(⟨za7,zbA,zbm,za8⟩:Tie),zbN⟩:tie)).1).Use.Tie),.bool (((s95 (⟨(⟨za7,zbA,zbm,za8⟩:Tie),zbN⟩:tie)).1).Use.Back),.int .i64 (((s95 (⟨(⟨za7,zbA,zbm,za8⟩:Tie),zbN⟩:tie)).1).from_),.int .i64 (((s95 (⟨(⟨za7,zbA,zbm,za8⟩:Tie),zbN⟩:tie)).1).to),.int .i64 (((s95 (⟨(⟨za7,zbA,zbm,za8⟩:Tie),zbN⟩:tie)).1).length)],.one (.bool ((s95 (⟨(⟨za7,zbA,zbm,za8⟩:Tie),zbN⟩:tie)).2))]
  | _=>.no
theorem zGL:zav Tryd.prog 95:=⟨_,rfl,rfl,by kernel_rfl⟩
theorem zLw:Ok Tryd.prog 95 zCX:=zbk zJB zGL λ args K h=>by
  unfold zCX at h
  split at h
  · rename_i za7 zbA zbm za8 zbN
    have hk:=h
    exact⟨(λ _ _=>[]),(λ _=>false),zGK,q95 (⟨(⟨za7,zbA,zbm,za8⟩:Tie),zbN⟩:tie) K hk⟩
  · exact h.elim
abbrev zKY:Tabs:=((Tabs.nil.addF 94 zCW).addF 95 zCX)
theorem zGM:TabsOk Tryd.prog zKY:=((TabsOk.nil.addF zLv).addF zLw)
abbrev zGN:Ctrs:=csm zKY (λ _ _=>[]) (λ _=>false)
def ziv:Ann:=⟨52,[(0,zK [0,1,14,15,16] []),(1,zK [0,1,14,15,16,17] []),(2,zK [0,1,3,4,14,15,16] [4]),(3,zK [0,1,3,4,14,15,16,26] [4]),(4,zK [0,1,5,14,15,16] [5]),(5,zK [0,1,14,15,16,34,35] []),(6,zK [0,1,14,15,16,34,35,36] []),(7,zK [0,1,7,14,15,16,34,35] []),(8,zK [0,1,8,9,14,15,16,34,35] [8]),(9,zK [0,1,14,15,16,34,35,49] []),(10,zK [0,1,14,15,16,34,35] []),(11,zK [0,1,14,15,16] [])],
 [(1,zK [0,1,14,15,16] [])],
 [],
 [(6,3,zK [0,1,14,15,16,34,35] [])],[9]⟩
def zdV (l:Nat) (a:web) (zaL:Int):St:=⟨[(0,.one (.c (.p (.yl l)))),(1,.one (.c (.p (.fp [.fp (zaB a) 0] 0)))),(14,.one (.c (.p (.sl a.Net.Ties.len 4 (λ i=>enc_40 (a.Net.Ties.get i)))))),(15,.one (.c (.p (.int .i64 (a.Net.Ties.len:Int))))),(16,.one (.c (.p (.int .i64 zaL))))],[],[]⟩
def zhb (l:Nat) (ys:List (List PA)) (a:web) (zaL:Int):Prop:=vcY Tryd.prog zGN ziv l (cdF Tryd.f110 [1,0]) (zmS 0 zyY) ys false (zdV l a zaL)
theorem zzO (l : Nat) (a : web) (ys : List (List PA)) :
  vcIter Tryd.prog zGN ziv 110 l [.one (.fp [.fp (zaB a) 0] 0)] ys =
  (zhb l ys a (0:Int)):=by kernel_rfl
def zk8 (l:Nat) (X0:List (List PA)->Bool->St->Prop) (ys:List (List PA)) (a:web) (zaL:Int):Prop :=
  (zc4 (decide (zaL < (a.Net.Ties.len : Int)))
 (((0≤zaL/\zaL < (a.Net.Ties.len:Int))) /\
 (zc4 ((zsf (a.out.F [zaL]) 0) != 0)
 (X0 ys false (zdV l a (w64 (zaL+(1:Int)))))
 (zc4 ((s94 (⟨(a.Net.Ties.get zaL.toNat), zaL⟩ : tie)).2)
 (l=l/\∃ r1,ys=[.agg [.int .i64 (((s94 (⟨(a.Net.Ties.get zaL.toNat),zaL⟩:tie)).1).Use.Tie),.bool (((s94 (⟨(a.Net.Ties.get zaL.toNat),zaL⟩:tie)).1).Use.Back),.int .i64 (((s94 (⟨(a.Net.Ties.get zaL.toNat),zaL⟩:tie)).1).from_),.int .i64 (((s94 (⟨(a.Net.Ties.get zaL.toNat),zaL⟩:tie)).1).to),.int .i64 (((s94 (⟨(a.Net.Ties.get zaL.toNat),zaL⟩:tie)).1).length)]] :: r1 /\
 (zc4 ((s95 (⟨(a.Net.Ties.get zaL.toNat), zaL⟩ : tie)).2)
 (l=l/\∃ r2,r1=[.agg [.int .i64 (((s95 (⟨(a.Net.Ties.get zaL.toNat),zaL⟩:tie)).1).Use.Tie),.bool (((s95 (⟨(a.Net.Ties.get zaL.toNat),zaL⟩:tie)).1).Use.Back),.int .i64 (((s95 (⟨(a.Net.Ties.get zaL.toNat),zaL⟩:tie)).1).from_),.int .i64 (((s95 (⟨(a.Net.Ties.get zaL.toNat),zaL⟩:tie)).1).to),.int .i64 (((s95 (⟨(a.Net.Ties.get zaL.toNat),zaL⟩:tie)).1).length)]] :: r2 /\
 (X0 r2 false (zdV l a (w64 (zaL+(1:Int)))))/\True)
 (X0 r1 false (zdV l a (w64 (zaL+(1:Int))))))/\True)
 (zc4 ((s95 (⟨(a.Net.Ties.get zaL.toNat), zaL⟩ : tie)).2)
 (l=l/\∃ r3,ys=[.agg [.int .i64 (((s95 (⟨(a.Net.Ties.get zaL.toNat),zaL⟩:tie)).1).Use.Tie),.bool (((s95 (⟨(a.Net.Ties.get zaL.toNat),zaL⟩:tie)).1).Use.Back),.int .i64 (((s95 (⟨(a.Net.Ties.get zaL.toNat),zaL⟩:tie)).1).from_),.int .i64 (((s95 (⟨(a.Net.Ties.get zaL.toNat),zaL⟩:tie)).1).to),.int .i64 (((s95 (⟨(a.Net.Ties.get zaL.toNat),zaL⟩:tie)).1).length)]] :: r3 /\
 (X0 r3 false (zdV l a (w64 (zaL+(1:Int)))))/\True)
 (X0 ys false (zdV l a (w64 (zaL+(1:Int)))))))))
 (ys=[]))
theorem znG (l : Nat) (X0 : List (List PA) → Bool → St → Prop) (ys : List (List PA)) (a : web) (zaL : Int) :
  vcY Tryd.prog zGN ziv l (cd (cdF Tryd.f110 [1,0]) [0]) (zyW Tryd.prog ziv 1 X0 (zmS 0 zyY)) ys false (zdV l a zaL) =
  zk8 l X0 ys a zaL:=by kernel_rfl
theorem zsL (l : Nat) (ys : List (List PA)) (a : web) (zaL : Int)
  (h:∀ X0:List (List PA)->Bool->St->Prop,(∀ (ys:List (List PA)) (zaL:Int),zk8 l X0 ys a zaL->X0 ys false (zdV l a zaL))->X0 ys false (zdV l a zaL)) :
  zhb l ys a zaL:=by
  have e:zhb l ys a zaL=(∀ X:List (List PA)->Bool->St->Prop,(∀ ys q s,vcY Tryd.prog zGN ziv l (cd (cdF Tryd.f110 [1,0]) [0]) (zyW Tryd.prog ziv 1 X (zmS 0 zyY)) ys q s->X ys q s)->X ys false (zdV l a zaL)):=by kernel_rfl
  refine za2 e ?_
  intro X hX
  refine h X ?_
  intro ys zaL hs
  refine hX _ _ _ ?_
  have e2:=znG l X ys a zaL
  rw[e2]
  exact hs
attribute [irreducible] zhb
def zeW (a:web) (S0:Int->List step) (zaL:Int):List step :=
  (cond (decide (zaL < (a.Net.Ties.len : Int)))
 (cond ((zsf (a.out.F [zaL]) 0) != 0)
 (S0 (w64 (zaL+(1:Int))))
 (cond ((s94 (⟨(a.Net.Ties.get zaL.toNat), zaL⟩ : tie)).2)
 (((s94 (⟨(a.Net.Ties.get zaL.toNat), zaL⟩ : tie)).1) :: (cond ((s95 (⟨(a.Net.Ties.get zaL.toNat), zaL⟩ : tie)).2)
 (((s95 (⟨(a.Net.Ties.get zaL.toNat),zaL⟩:tie)).1) :: (S0 (w64 (zaL+(1:Int)))))
 (S0 (w64 (zaL+(1:Int))))))
 (cond ((s95 (⟨(a.Net.Ties.get zaL.toNat), zaL⟩ : tie)).2)
 (((s95 (⟨(a.Net.Ties.get zaL.toNat),zaL⟩:tie)).1) :: (S0 (w64 (zaL+(1:Int)))))
 (S0 (w64 (zaL+(1:Int)))))))
 [])
def zeX (a:web) (P0:Int->Bool) (zaL:Int):Bool :=
  (cond (decide (zaL < (a.Net.Ties.len : Int)))
 (decide ((0≤zaL/\zaL < (a.Net.Ties.len:Int))) &&
 (cond ((zsf (a.out.F [zaL]) 0) != 0)
 (P0 (w64 (zaL+(1:Int))))
 (cond ((s94 (⟨(a.Net.Ties.get zaL.toNat), zaL⟩ : tie)).2)
 (cond ((s95 (⟨(a.Net.Ties.get zaL.toNat), zaL⟩ : tie)).2)
 (P0 (w64 (zaL+(1:Int))))
 (P0 (w64 (zaL+(1:Int)))))
 (cond ((s95 (⟨(a.Net.Ties.get zaL.toNat), zaL⟩ : tie)).2)
 (P0 (w64 (zaL+(1:Int))))
 (P0 (w64 (zaL+(1:Int))))))))
 true)
def zei (a : web) : Nat → Int → List step
  | 0=>λ _=>[]
  | k+1=>zeW a (zei a k)
def zej (a : web) : Nat → Int → Bool
  | 0=>λ _=>false
  | k+1=>zeX a (zej a k)
def zqV (a:web) (zaL:Int):List step:=zei a Fuel zaL
def zqW (a:web) (zaL:Int):Bool:=zej a Fuel zaL
theorem zzP (l:Nat) (a:web) (ys:List (List PA)) (zaL:Int) (hs:zqW a zaL=true) (hk:ys=(zqV a zaL).map (λ y=>[.agg (zaC y)])):zhb l ys a zaL:=by
  refine zsL l ys a zaL ?_
  intro X0 hstep
  have key:∀ (k:Nat) (ys:List (List PA)) (zaL:Int),zej a k zaL=true->ys=(zei a k zaL).map (λ y=>[.agg (zaC y)])->X0 ys false (zdV l a zaL):=by
    intro k
    induction k with
    | zero=>intro ys zaL hs;exact absurd hs Bool.false_ne_true
    | succ k ih =>
      intro ys zaL hs hk
      refine hstep ys zaL ?_
      have hs:zeX a (zej a k) zaL=true:=hs
      have hk:ys=(zeW a (zei a k) zaL).map (λ y=>[.agg (zaC y)]):=hk
      unfold zeX at hs
      unfold zeW at hk
      generalize zei a k=S0 at hk ih
      generalize zej a k=P0 at hs ih
      have hX0:=ih
      exact (zg8 hs hk
 (λ hs hk => (zaM hs λ hc hs => ⟨hc, (zg8 hs hk
 (λ hs hk=>(hX0 _ (w64 (zaL+(1:Int))) hs hk))
 (λ hs hk => (zg8 hs hk
 (λ hs hk => (itY hk rfl (λ _ hk => (zg8 hs hk
 (λ hs hk=>(itY hk rfl (λ _ hk=>(hX0 _ (w64 (zaL+(1:Int))) hs hk))))
 (λ hs hk=>(hX0 _ (w64 (zaL+(1:Int))) hs hk))))))
 (λ hs hk => (zg8 hs hk
 (λ hs hk=>(itY hk rfl (λ _ hk=>(hX0 _ (w64 (zaL+(1:Int))) hs hk))))
 (λ hs hk=>(hX0 _ (w64 (zaL+(1:Int))) hs hk)))))))⟩))
 (fun hs hk=>hk))
  exact key _ _ zaL hs hk
def zj3 (a:web):List step :=
  (zqV a (0:Int))
def zsZ (a:web):Bool :=
  (zqW a (0:Int))
theorem zLx (l:Nat) (a:web) (ys:List (List PA)) (hs:zsZ a=true) (hk:ys=(zj3 a).map (λ y=>[.agg (zaC y)])):vcIter Tryd.prog zGN ziv 110 l [.one (.fp [.fp (zaB a) 0] 0)] ys:=by
  refine za2 (zzO l a ys) ?_
  unfold zsZ at hs
  unfold zj3 at hk
  exact (zzP l a _ (0:Int) hs hk)
def znH : List PA → Option (Prop × List (List PA))
  | [.one (.fp [.fp [.int .i64 a_Net_Nodes,.sl a_Net_Ties_n a_Net_Ties_s a_Net_Ties_g,.fm a_out_q a_out_n a_out_F] 0] 0)]=>some (IsE enc_40 4 a_Net_Ties_s a_Net_Ties_g/\a_out_q=(false,1,false,[none])/\zsZ (⟨(⟨a_Net_Nodes,(⟨a_Net_Ties_n,zan a_Net_Ties_g⟩:(Sl Tie))⟩:Net),(⟨a_out_n,a_out_F⟩:Mp)⟩:web)=true,(zj3 (⟨(⟨a_Net_Nodes,(⟨a_Net_Ties_n,zan a_Net_Ties_g⟩:(Sl Tie))⟩:Net),(⟨a_out_n,a_out_F⟩:Mp)⟩:web)).map λ y=>[.agg (zaC y)])
  | _=>none
theorem zCY:zav Tryd.prog 110:=⟨_,rfl,rfl,by kernel_rfl⟩
theorem zsM:zAN Tryd.prog 110 znH:=zGs zGM zCY λ l caps safe ys h hs=>by
  unfold znH at h
  split at h
  · rename_i a_Net_Nodes a_Net_Ties_n a_Net_Ties_s a_Net_Ties_g a_out_q a_out_n a_out_F
    cases h
    obtain⟨⟨rfl,a_Net_Ties_f,rfl⟩,rfl,hs⟩:=hs
    try rw[zal a_Net_Ties_f] at hs
    try rw[zal a_Net_Ties_f]
    exact⟨λ _ _=>[],λ _=>false,ziv,zLx l (⟨(⟨a_Net_Nodes,(⟨a_Net_Ties_n,a_Net_Ties_f⟩:(Sl Tie))⟩:Net),(⟨a_out_n,a_out_F⟩:Mp)⟩:web) _ hs rfl⟩
  · cases h
abbrev T88:Tabs:=((Tabs.nil.addF 93 znF).addI 110 znH)
theorem zJC:TabsOk Tryd.prog T88:=((TabsOk.nil.addF zFP).addI zsM)
abbrev G88:Ctrs:=csm T88 (λ _ _=>[]) (λ _=>false)
def zuR:Ann:=⟨37,[(0,zK [0] []),(1,zK [0,3] [3]),(2,zK [0,3,11,12] [3]),(3,zK [0,3,11,12,13] [3]),(4,zK [0,3,4,11,12] [3,4]),(5,zK [0,3,4,11,12,15] [3,4]),(6,zK [0,3,4,5,11,12,15] [3,4,5]),(7,zK [0,3,4,5,6,11,12,15] [3,4,5]),(8,zK [0,3,4,5,6,11,12,15,29] [3,4,5]),(9,zK [0,3,4,11,12,15] [3,4]),(10,zK [0,3,4,11,12,15] [3,4]),(11,zK [0,3,11,12,35] [3]),(12,zK [2] []),(13,zK [0,3,11,12] [3]),(14,zK [2] [])],
 [(3,zK [0,3,11,12] [3]),(6,zK [0,3,4,11,12,15] [3,4])],
 [],
 [],[]⟩
abbrev R88:=Bool
abbrev e88 (r:R88):List PA:=[.one (.bool r)]
@[irreducible] def z88:=ptF Tryd.prog G88 zuR Tryd.f88
@[irreducible] def x88:=exF Tryd.prog G88 zuR Tryd.f88
@[irreducible] def y88:=rnF Tryd.prog G88 zuR Tryd.f88
def zA5 (w:web) (zbX:Int) (dt0:Tab):St:=⟨[(0,zP (.fp (zaB w) 0)),(3,zp 3 0),(11,zI w.Net.Nodes),(12,zI zbX)],[(3,.box 157 (zm (zuJ dt0)))],[]⟩
abbrev zCZ (K:List PA->Prop) (w:web) (X:St->Prop) (P:Int->Tab->Bool) (S:Int->Tab->Bool):Prop:=∀ ⦃zbX:Int⦄ ⦃dt0:Tab⦄,P zbX dt0=true->K (e88 (S zbX dt0))->X (zA5 w zbX dt0)
def zuS (w:web) (zbY:Int) (zaF:Bool) (dt1:Tab):St:=⟨[(0,zP (.fp (zaB w) 0)),(3,zp 3 0),(4,zp 4 0),(11,zI w.Net.Nodes),(12,zI zbY),(15,zP (.fn 110 [] [.fp [.fp (zaB w) 0] 0]))],[(3,.box 157 (zm (zuJ dt1))),(4,.box 4 [.p (.bool zaF)])],[]⟩
abbrev zGO (K:List PA->Prop) (w:web) (X:St->Prop) (P:Int->Bool->Tab->Bool) (S:Int->Bool->Tab->Bool):Prop:=∀ ⦃zbY:Int⦄ ⦃zaF:Bool⦄ ⦃dt1:Tab⦄,P zbY zaF dt1=true->K (e88 (S zbY zaF dt1))->X (zuS w zbY zaF dt1)
section
variable {K:List PA->Prop}{w:web}{zbX:Int}{dt0:Tab}{X0:St->Prop}{P0:Int->Tab->Bool}{S0:Int->Tab->Bool}{zbY:Int}{zaF:Bool}{dt1:Tab}
def zl3 (S0:Int->Tab->Bool) (w:web) (zbY:Int) (zaF:Bool) (dt1:Tab):Bool :=
  (cond (!zaF)
 false
 (S0 (w64 (zbY+(1:Int))) dt1))
def zl4 (P0:Int->Tab->Bool) (w:web) (zbY:Int) (zaF:Bool) (dt1:Tab):Bool :=
  (cond (!zaF)
 true
 (P0 (w64 (zbY+(1:Int))) dt1))
def zl5 (S0:Int->Tab->Bool) (w:web) (y1:step) (S1:Int->Bool->Tab->Bool) (zbY:Int) (zaF:Bool) (dt1:Tab):Bool :=
  (cond (decide ((w64 ((tg 40 dt1 (0 + y1.from_.toNat * 1 + 0)) + y1.length)) < (tg 40 dt1 (0 + y1.to.toNat * 1 + 0))))
 (S1 zbY true (ts 40 dt1 (0+y1.to.toNat * 1+0) [(w64 ((tg 40 dt1 (0+y1.from_.toNat * 1+0))+y1.length))]))
 (S1 zbY zaF dt1))
def zl6 (P0:Int->Tab->Bool) (w:web) (y1:step) (P1:Int->Bool->Tab->Bool) (zbY:Int) (zaF:Bool) (dt1:Tab):Bool :=
  (decide ((0≤y1.from_/\y1.from_ < (40:Int))) &&
 (decide ((0≤y1.to/\y1.to < (40:Int))) &&
 (cond (decide ((w64 ((tg 40 dt1 (0 + y1.from_.toNat * 1 + 0)) + y1.length)) < (tg 40 dt1 (0 + y1.to.toNat * 1 + 0))))
 (decide ((0≤y1.to/\y1.to < (40:Int))) &&
 (P1 zbY true (ts 40 dt1 (0+y1.to.toNat * 1+0) [(w64 ((tg 40 dt1 (0+y1.from_.toNat * 1+0))+y1.length))])))
 (P1 zbY zaF dt1))))
def zfu (S0:Int->Tab->Bool) (w:web):List step->Int->Bool->Tab->Bool:=lpR (zl3 S0 w) (zl5 S0 w)
def zfv (P0:Int->Tab->Bool) (w:web):List step->Int->Bool->Tab->Bool:=lpR (zl4 P0 w) (zl6 P0 w)
def zoY (S0:Int->Tab->Bool) (w:web) (zbY:Int) (zaF:Bool) (dt1:Tab):Bool:=zfu S0 w (zj3 w) zbY zaF dt1
def zoZ (P0:Int->Tab->Bool) (w:web) (zbY:Int) (zaF:Bool) (dt1:Tab):Bool:=decide ((zsZ w=true)) && zfv P0 w (zj3 w) zbY zaF dt1
theorem zC0 (hX0:zCZ K w X0 P0 S0) (hs:zoZ P0 w zbY zaF dt1=true) (hk:K (e88 (zoY S0 w zbY zaF dt1))):z88 K [1,1,0,1,0,0,1,1,0,0,1,0,1,0] [X0] (zuS w zbY zaF dt1) :=
  zaM hs λ hc hs=>zr (enc:=(λ y:step=>[.agg (zaC y)])) (ys:=zj3 w) (g:=(zuS w zbY zaF dt1)) (x88 K [1,1,0,1,0,0,1,1,0,0,1,0,1,0] [X0]) (y88 K [1,1,0,1,0,0,1,1,0,0,1,0,1,0] [X0]) (by kernel_rfl) (And.intro (zE enc_40 4 w.Net.Ties.get) (And.intro (rfl:((false,1,false,[none]):MQ)=(false,1,false,[none])) hc)) λ X1 hE hR =>
  (show ∀ l : List step, zGO K w (X1 (l.map (λ y : step => [.agg (zaC y)]))) (zfv P0 w l) (zfu S0 w l) from zri (X := X1) (enc := (λ y : step => [.agg (zaC y)])) _ _ (zl6 P0 w) (zl5 S0 w) (λ Z P S => zGO K w Z P S)
 (by intro zbY zaF dt1 hs hk;exact hE _ (za2 (by kernel_rfl) (zc hs hk (λ hs hk=>hk) (λ hs hk=>(hX0 hs hk)))))
 (by intro y1 rest P1 S1 hX1 zbY zaF dt1 hs hk;exact hR _ rest _ (za2 (by kernel_rfl) (zaM hs λ hc hs=>And.intro hc (zaM hs λ hc hs=>And.intro hc (zc hs hk (λ hs hk=>(zaM hs λ hc hs=>And.intro hc (hX1 hs hk))) (λ hs hk=>(hX1 hs hk)))))))) _ hs hk
def zhE (w:web) (S0:Int->Tab->Bool) (zbX:Int) (dt0:Tab):Bool :=
  (cond (decide (zbX < w.Net.Nodes))
 (zoY S0 w zbX false dt0)
 true)
def zhF (w:web) (P0:Int->Tab->Bool) (zbX:Int) (dt0:Tab):Bool :=
  (cond (decide (zbX < w.Net.Nodes))
 (zoZ P0 w zbX false dt0)
 true)
def zhG (w:web):Nat->Int->Tab->Bool:=lpO (λ _ _=>default) (zhE w)
def zhH (w:web):Nat->Int->Tab->Bool:=lpO (λ _ _=>false) (zhF w)
def zuT (w:web) (zbX:Int) (dt0:Tab):Bool:=zhG w Fuel zbX dt0
def zuU (w:web) (zbX:Int) (dt0:Tab):Bool:=zhH w Fuel zbX dt0
theorem zC1 (hs:zuU w zbX dt0=true) (hk:K (e88 (zuT w zbX dt0))):z88 K [1,1,0,1,0] [] (zA5 w zbX dt0) :=
  zl (λ X=>z88 K [1,1,0,1,0,0] [X]) (by kernel_rfl) λ X0 hX =>
  (show ∀ k, zCZ K w X0 (zhH w k) (zhG w k) from zeF _ _ (zhF w) (zhE w) (zCZ K w X0)
 (by intro _ _ hs;exact absurd hs Bool.false_ne_true)
 (by intro P0 S0 hX0 zbX dt0 hs hk;exact hX _ (za2 (by kernel_rfl) (zc hs hk (λ hs hk=>(And.intro (And.intro (zE enc_40 4 w.Net.Ties.get) (rfl:((false,1,false,[none]):MQ)=(false,1,false,[none]))) (zC0 hX0 hs hk))) (λ hs hk=>hk))))) _ hs hk
def s88 (w:web):Bool :=
  (zuT w (0:Int) (λ _=>(0:Int)))
def p88 (w:web):Bool :=
  (zuU w (0:Int) (λ _=>(0:Int)))
end
theorem q88 (w:web) (K:List PA->Prop) (hs:p88 w=true) (hk:K (e88 (s88 w))):vcFun Tryd.prog G88 zuR 88 [.one (.fp (zaB w) 0)] K :=
  za2 (by kernel_rfl) (zC1 hs hk)
def zuV : List PA → COut
  | [.one (.fp [.int .i64 zak,.sl zai zaA zaj,.fm za6 zaG zaH] 0)]=>.det (IsE enc_40 4 zaA zaj/\za6=(false,1,false,[none])/\p88 (⟨(⟨zak,(⟨zai,zan zaj⟩:(Sl Tie))⟩:Net),(⟨zaG,zaH⟩:Mp)⟩:web)=true) [.one (.bool (s88 (⟨(⟨zak,(⟨zai,zan zaj⟩:(Sl Tie))⟩:Net),(⟨zaG,zaH⟩:Mp)⟩:web)))]
  | _=>.no
theorem zGP:zav Tryd.prog 88:=⟨_,rfl,rfl,by kernel_rfl⟩
theorem zJD:Ok Tryd.prog 88 zuV:=zbk zJC zGP λ args K h=>by
  unfold zuV at h
  split at h
  · rename_i zak zai zaA zaj za6 zaG zaH
    obtain⟨⟨⟨rfl,zat,rfl⟩,rfl,hs⟩,hk⟩:=h
    try rw[zal zat] at hs
    try rw[zal zat] at hk
    exact⟨(λ _ _=>[]),(λ _=>false),zuR,q88 (⟨(⟨zak,(⟨zai,zat⟩:(Sl Tie))⟩:Net),(⟨zaG,zaH⟩:Mp)⟩:web) K hs hk⟩
  · exact h.elim
abbrev T74:Tabs:=(((Tabs.nil.addF 67 zuQ).addF 81 zuK).addF 88 zuV)
theorem zJE:TabsOk Tryd.prog T74:=(((TabsOk.nil.addF zJy).addF zJv).addF zJD)
abbrev G74:Ctrs:=csm T74 (λ _ _=>[]) (λ _=>false)
def zzQ:Ann:=⟨31,[(0,zK [1,2] [2]),(1,zK [1,2,6] [2,11]),(2,zK [1,2,6,14] [2,11]),(3,zK [4,5] []),(4,zK [2,6,15,16,17] [2,11]),(5,zK [2,6,15,16,17,18] [2,11]),(6,zK [2,6,8,15,16,17] [2,11]),(7,zK [2,6,15,16,17,26] [2,11]),(8,zK [4,5] []),(9,zK [2,6,15,16,17] [2,11]),(10,zK [6,29] [11]),(11,zK [4,5] []),(12,zK [4,5] [11])],
 [(5,zK [2,6,15,16,17] [2,11])],
 [(3,zK [1,2,6,14] [2,11]),(4,zK [1,2,6] [2,11]),(8,zK [2,6,15,16,17,26] [2,11]),(11,zK [6,29] [11])],
 [],[]⟩
abbrev R74:=(web×Int)
abbrev e74 (r:R74):List PA:=cond (r.2 == 0) [.one (.fp (zaB r.1) 0),.one (.int .i64 (0:Int))] [.one (.nilp),.one (.int .i64 r.2)]
@[irreducible] def z74:=ptF Tryd.prog G74 zzQ Tryd.f74
def zA6 (n:Net) (nodes:(Sl Int)) (zdF:Int):St:=⟨[(2,zp 2 0),(6,zp 11 0),(15,zS zac 1 nodes),(16,zI (nodes.len:Int)),(17,zI zdF)],[(2,.box 24 (zm (enc_24 n))),(11,.box 105 (zm (zaB (⟨n,(⟨0,(λ _=>none)⟩:Mp)⟩:web))))],[]⟩
abbrev zC2 (K:List PA->Prop) (n:Net) (nodes:(Sl Int)) (X:St->Prop) (P:Int->Bool) (S:Int->(web×Int)):Prop:=∀ ⦃zdF:Int⦄,P zdF=true->K (e74 (S zdF))->X (zA6 n nodes zdF)
section
variable {K:List PA->Prop}{n:Net}{nodes:(Sl Int)}{zgA:Bool}{zdF:Int}{X2:St->Prop}{P2:Int->Bool}{S2:Int->(web×Int)}{zo0:Int}{zo1:Bool}{zzR:Bool}
def zo2 (n:Net) (zzR:Bool):(web×Int) :=
  (cond zzR
 ((default:web),(5:Int))
 ((⟨n,(⟨0,(λ _=>none)⟩:Mp)⟩:web),(0:Int)))
theorem zC3 (hk:K (e74 (zo2 n zzR))):z74 K [1,1,1,1,0,1] [] ⟨[(6,zp 11 0),(29,zB zzR)],[(11,.box 105 (zm (zaB (⟨n,(⟨0,(λ _=>none)⟩:Mp)⟩:web))))],[]⟩:=za2 (by kernel_rfl) (zt hk (λ hk=>hk) (λ hk=>hk))
def zo3 (S2:Int->(web×Int)) (n:Net) (nodes:(Sl Int)) (zo0:Int) (zo1:Bool):(web×Int) :=
  (cond zo1
 ((default:web),(2:Int))
 (S2 (w64 (zo0+(1:Int)))))
def zo4 (P2:Int->Bool) (n:Net) (nodes:(Sl Int)) (zo0:Int) (zo1:Bool):Bool :=
  (cond zo1
 true
 (P2 (w64 (zo0+(1:Int)))))
theorem zC4 (hX2:zC2 K n nodes X2 P2 S2) (hs:zo4 P2 n nodes zo0 zo1=true) (hk:K (e74 (zo3 S2 n nodes zo0 zo1))):z74 K [1,1,1,0,1,0,0,1,1,0,0,1,1] [X2] ⟨[(2,zp 2 0),(6,zp 11 0),(15,zS zac 1 nodes),(16,zI (nodes.len:Int)),(17,zI zo0),(26,zB zo1)],[(2,.box 24 (zm (enc_24 n))),(11,.box 105 (zm (zaB (⟨n,(⟨0,(λ _=>none)⟩:Mp)⟩:web))))],[]⟩:=za2 (by kernel_rfl) (zc hs hk (λ hs hk=>hk) (λ hs hk=>(hX2 hs hk)))
def zhI (n:Net) (nodes:(Sl Int)) (S2:Int->(web×Int)) (zdF:Int):(web×Int) :=
  (cond (decide (zdF < (nodes.len : Int)))
 (zo3 S2 n nodes zdF (!(s81 (nodes.get zdF.toNat) (0:Int) (w64 (n.Nodes - (1:Int))))))
 (zo2 n (s88 (⟨n,(⟨0,(λ _=>none)⟩:Mp)⟩:web))))
def zhJ (n:Net) (nodes:(Sl Int)) (P2:Int->Bool) (zdF:Int):Bool :=
  (cond (decide (zdF < (nodes.len : Int)))
 (decide ((0≤zdF/\zdF < (nodes.len:Int))) &&
 (zo4 P2 n nodes zdF (!(s81 (nodes.get zdF.toNat) (0:Int) (w64 (n.Nodes - (1:Int)))))))
 (decide ((p88 (⟨n,(⟨0,(λ _=>none)⟩:Mp)⟩:web)=true)) &&
 true))
def zhK (n:Net) (nodes:(Sl Int)):Nat->Int->(web×Int):=lpO (λ _=>default) (zhI n nodes)
def zhL (n:Net) (nodes:(Sl Int)):Nat->Int->Bool:=lpO (λ _=>false) (zhJ n nodes)
def zo5 (n:Net) (nodes:(Sl Int)) (zdF:Int):(web×Int):=zhK n nodes Fuel zdF
def zo6 (n:Net) (nodes:(Sl Int)) (zdF:Int):Bool:=zhL n nodes Fuel zdF
theorem zC5 (hs:zo6 n nodes zdF=true) (hk:K (e74 (zo5 n nodes zdF))):z74 K [1,1,1,0,1,0] [] (zA6 n nodes zdF) :=
  zl (λ X=>z74 K [1,1,1,0,1,0,0] [X]) (by kernel_rfl) λ X2 hX =>
  (show ∀ k, zC2 K n nodes X2 (zhL n nodes k) (zhK n nodes k) from zeF _ _ (zhJ n nodes) (zhI n nodes) (zC2 K n nodes X2)
 (by intro _ hs;exact absurd hs Bool.false_ne_true)
 (by intro P2 S2 hX2 zdF hs hk;exact hX _ (za2 (by kernel_rfl) (zc hs hk (λ hs hk=>(zaM hs λ hc hs=>And.intro hc (zC4 hX2 hs hk))) (λ hs hk=>(zaM hs λ hc hs=>And.intro (And.intro (zE enc_40 4 n.Ties.get) (And.intro (rfl:((false,1,false,[none]):MQ)=(false,1,false,[none])) hc)) (zC3 hk))))))) _ hs hk
def zo7 (n:Net) (nodes:(Sl Int)):(web×Int) :=
  (zo5 n nodes (0:Int))
def zo8 (n:Net) (nodes:(Sl Int)):Bool :=
  (zo6 n nodes (0:Int))
theorem zC6 (hs:zo8 n nodes=true) (hk:K (e74 (zo7 n nodes))):z74 K [1,1,1] [] ⟨[(1,zS zac 1 nodes),(2,zp 2 0),(6,zp 11 0)],[(2,.box 24 (zm (enc_24 n))),(11,.box 105 (zm (zaB (⟨n,(⟨0,(λ _=>none)⟩:Mp)⟩:web))))],[]⟩:=za2 (by kernel_rfl) (zC5 hs hk)
def zo9 (n:Net) (nodes:(Sl Int)) (zgA:Bool):(web×Int) :=
  (cond zgA
 ((default:web),(2:Int))
 (zo7 n nodes))
def zpa (n:Net) (nodes:(Sl Int)) (zgA:Bool):Bool :=
  (cond zgA
 true
 (zo8 n nodes))
theorem zC7 (hs:zpa n nodes zgA=true) (hk:K (e74 (zo9 n nodes zgA))):z74 K [1,1,0,1] [] ⟨[(1,zS zac 1 nodes),(2,zp 2 0),(6,zp 11 0),(14,zB zgA)],[(2,.box 24 (zm (enc_24 n))),(11,.box 105 (zm (zaB (⟨n,(⟨0,(λ _=>none)⟩:Mp)⟩:web))))],[]⟩:=za2 (by kernel_rfl) (zc hs hk (λ hs hk=>hk) (λ hs hk=>(zC6 hs hk)))
def s74 (n:Net) (nodes:(Sl Int)):(web×Int) :=
  (zo9 n nodes (!(s67 n)))
def p74 (n:Net) (nodes:(Sl Int)):Bool :=
  (decide ((p67 n=true)) &&
 (zpa n nodes (!(s67 n))))
end
theorem q74 (n:Net) (nodes:(Sl Int)) (K:List PA->Prop) (hs:p74 n nodes=true) (hk:K (e74 (s74 n nodes))):vcFun Tryd.prog G74 zzQ 74 [.agg (enc_24 n),.one (.sl nodes.len 1 (λ i=>zac (nodes.get i)))] K :=
  za2 (by kernel_rfl) (zaM hs λ hc hs=>And.intro (And.intro (zE enc_40 4 n.Ties.get) hc) (zC7 hs hk))
def zsN : List PA → COut
  | [.agg [.int .i64 zaf,.sl zae zay zad],.one (.sl zgc zmM zf3)]=>.alt ((s74 (⟨zaf,(⟨zae,zan zad⟩:(Sl Tie))⟩:Net) (⟨zgc,zas zf3⟩:(Sl Int))).2 == 0) (IsE enc_40 4 zay zad/\IsE zac 1 zmM zf3/\p74 (⟨zaf,(⟨zae,zan zad⟩:(Sl Tie))⟩:Net) (⟨zgc,zas zf3⟩:(Sl Int))=true) [.one (.fp (zaB (⟨(s74 (⟨zaf,(⟨zae,zan zad⟩:(Sl Tie))⟩:Net) (⟨zgc,zas zf3⟩:(Sl Int))).1.Net,((s74 (⟨zaf,(⟨zae,zan zad⟩:(Sl Tie))⟩:Net) (⟨zgc,zas zf3⟩:(Sl Int))).1.out)⟩:web)) 0),.one (.int .i64 (0:Int))] (IsE enc_40 4 zay zad/\IsE zac 1 zmM zf3/\p74 (⟨zaf,(⟨zae,zan zad⟩:(Sl Tie))⟩:Net) (⟨zgc,zas zf3⟩:(Sl Int))=true) [.one (.nilp),.one (.int .i64 ((s74 (⟨zaf,(⟨zae,zan zad⟩:(Sl Tie))⟩:Net) (⟨zgc,zas zf3⟩:(Sl Int))).2))]
  | [.agg [.int .i64 zaf,.sl zae zay zad],.one (.nils)]=>.alt ((s74 (⟨zaf,(⟨zae,zan zad⟩:(Sl Tie))⟩:Net) (⟨0,λ _=>default⟩:(Sl Int))).2 == 0) (IsE enc_40 4 zay zad/\p74 (⟨zaf,(⟨zae,zan zad⟩:(Sl Tie))⟩:Net) (⟨0,λ _=>default⟩:(Sl Int))=true) [.one (.fp (zaB (⟨(s74 (⟨zaf,(⟨zae,zan zad⟩:(Sl Tie))⟩:Net) (⟨0,λ _=>default⟩:(Sl Int))).1.Net,((s74 (⟨zaf,(⟨zae,zan zad⟩:(Sl Tie))⟩:Net) (⟨0,λ _=>default⟩:(Sl Int))).1.out)⟩:web)) 0),.one (.int .i64 (0:Int))] (IsE enc_40 4 zay zad/\p74 (⟨zaf,(⟨zae,zan zad⟩:(Sl Tie))⟩:Net) (⟨0,λ _=>default⟩:(Sl Int))=true) [.one (.nilp),.one (.int .i64 ((s74 (⟨zaf,(⟨zae,zan zad⟩:(Sl Tie))⟩:Net) (⟨0,λ _=>default⟩:(Sl Int))).2))]
  | _=>.no
theorem zGQ:zav Tryd.prog 74:=⟨_,rfl,rfl,by kernel_rfl⟩
theorem zI3:Ok Tryd.prog 74 zsN:=zhz zJE zGQ λ args K h=>by
  unfold zsN at h
  split at h
  · rename_i zaf zae zay zad zgc zmM zf3
    have h:=zGu h
    obtain⟨⟨⟨rfl,zaq,rfl⟩,⟨rfl,zj4,rfl⟩,hs⟩,hk⟩:=h
    try rw[zal zaq] at hs
    try rw[zal zaq] at hk
    try rw[zbL zj4] at hs
    try rw[zbL zj4] at hk
    exact⟨_,zfs zgj _,(λ _ _=>[]),(λ _=>false),zzQ,q74 (⟨zaf,(⟨zae,zaq⟩:(Sl Tie))⟩:Net) (⟨zgc,zj4⟩:(Sl Int)) (Wk K) hs (zgk hk)⟩
  · rename_i zaf zae zay zad
    have h:=zGu h
    obtain⟨⟨⟨rfl,zaq,rfl⟩,hs⟩,hk⟩:=h
    try rw[zal zaq] at hs
    try rw[zal zaq] at hk
    exact⟨_,(zhm (zgj _) (zhm (.one (.nil _ _)) znD)),(λ _ _=>[]),(λ _=>false),zzQ,q74 (⟨zaf,(⟨zae,zaq⟩:(Sl Tie))⟩:Net) (⟨0,λ _=>default⟩:(Sl Int)) (Wk K) hs (zgk hk)⟩
  · exact h.elim
abbrev zKZ:Tabs:=Tabs.nil
theorem zGR:TabsOk Tryd.prog zKZ:=TabsOk.nil
abbrev zLy:Ctrs:=csm zKZ (λ _ _=>[]) (λ _=>false)
def zA7:Ann:=⟨24,[(0,zK [2,3] [2,3]),(1,zK [4] [])],
 [],
 [],
 [],[]⟩
abbrev zLz:=Bool
abbrev zLA (r:zLz):List PA:=[.one (.bool r)]
section
variable {K:List PA->Prop}{a:far}{b:far}
def zzS (a:far) (b:far):Bool :=
  (cond (decide (a.length < b.length))
 true
 (cond (a.length == b.length)
 (decide (a.uses < b.uses))
 false))
end
theorem zLB (a:far) (b:far) (K:List PA->Prop) (hk:K (zLA (zzS a b))):vcFun Tryd.prog zLy zA7 105 [.agg (zca a),.agg (zca b)] K :=
  za2 (by kernel_rfl) (zt hk (λ hk=>hk) (λ hk=>(zt hk (λ hk=>hk) (λ hk=>hk))))
def zuW : List PA → COut
  | [.agg [.int .i64 zce,.int .i64 zpb],.agg [.int .i64 zbO,.int .i64 zeY]]=>.tot [.one (.bool (zzS (⟨zce,zpb⟩:far) (⟨zbO,zeY⟩:far)))]
  | _=>.no
theorem zC8:zav Tryd.prog 105:=⟨_,rfl,rfl,by kernel_rfl⟩
theorem zJF:Ok Tryd.prog 105 zuW:=zbk zGR zC8 λ args K h=>by
  unfold zuW at h
  split at h
  · rename_i zce zpb zbO zeY
    have hk:=h
    exact⟨(λ _ _=>[]),(λ _=>false),zA7,zLB (⟨zce,zpb⟩:far) (⟨zbO,zeY⟩:far) K hk⟩
  · exact h.elim
abbrev zK1:Tabs:=(Tabs.nil.addF 105 zuW)
theorem zGS:TabsOk Tryd.prog zK1:=(TabsOk.nil.addF zJF)
abbrev zK2:Ctrs:=csm zK1 (λ _ _=>[]) (λ _=>false)
def zuX:Ann:=⟨22,[(0,zK [0,2,4,6] [4,6]),(1,zK [0,4,6,9,10,11] [4,6]),(2,zK [0,4,6,9,10,11,12] [4,6]),(3,zK [0,4,6,8,9,10,11] [4,6,8]),(4,zK [0,4,6,8,9,10,11,18] [4,6,8]),(5,zK [0,4,6,9,10,11] [4,6]),(6,zK [0,4,6,9,10,11] [4,6]),(7,zK [6] [6])],
 [(2,zK [0,4,6,9,10,11] [4,6])],
 [(5,zK [0,4,6,8,9,10,11,18] [4,6,8])],
 [],[]⟩
abbrev zLC:=far
abbrev zI4 (r:zLC):List PA:=[.agg [.int .i64 r.length,.int .i64 r.uses]]
@[irreducible] def z104:=ptF Tryd.prog zK2 zuX Tryd.f104
def zuY (others:(Sl far)) (zaS:Int) (zbe:Int) (zbf:Int):St:=⟨[(0,zP (.fn 105 [] [])),(4,zp 4 0),(6,zp 6 0),(9,zS zca 2 others),(10,zI (others.len:Int)),(11,zI zaS)],[(4,.box 114 (zm (zca (⟨zbe,zbf⟩:far)))),(6,.box 114 (zm (zca (⟨(0:Int),(0:Int)⟩:far))))],[]⟩
abbrev zuZ (K:List PA->Prop) (others:(Sl far)) (X:St->Prop) (P:Int->Int->Int->Bool) (S:Int->Int->Int->far):Prop:=∀ ⦃zaS:Int⦄ ⦃zbe:Int⦄ ⦃zbf:Int⦄,P zaS zbe zbf=true->K (zI4 (S zaS zbe zbf))->X (zuY others zaS zbe zbf)
section
variable {K:List PA->Prop}{first:far}{others:(Sl far)}{zaS:Int}{zbe:Int}{zbf:Int}{X0:St->Prop}{P0:Int->Int->Int->Bool}{S0:Int->Int->Int->far}{zcC:Int}{zcZ:Bool}{zdW:Int}{zdX:Int}{zpc:Int}{zpd:Int}
def zl7 (S0:Int->Int->Int->far) (others:(Sl far)) (zcC:Int) (zcZ:Bool) (zdW:Int) (zdX:Int) (zpc:Int) (zpd:Int):far :=
  (cond zcZ
 (S0 (w64 (zcC+(1:Int))) zpc zpd)
 (S0 (w64 (zcC+(1:Int))) zdW zdX))
def zl8 (P0:Int->Int->Int->Bool) (others:(Sl far)) (zcC:Int) (zcZ:Bool) (zdW:Int) (zdX:Int) (zpc:Int) (zpd:Int):Bool :=
  (cond zcZ
 (P0 (w64 (zcC+(1:Int))) zpc zpd)
 (P0 (w64 (zcC+(1:Int))) zdW zdX))
theorem zzT (hX0:zuZ K others X0 P0 S0) (hs:zl8 P0 others zcC zcZ zdW zdX zpc zpd=true) (hk:K (zI4 (zl7 S0 others zcC zcZ zdW zdX zpc zpd))):z104 K [1,0,1,0,0,1,1,0,0,1,1] [X0] ⟨[(0,zP (.fn 105 [] [])),(4,zp 4 0),(6,zp 6 0),(8,zp 8 0),(9,zS zca 2 others),(10,zI (others.len:Int)),(11,zI zcC),(18,zB zcZ)],[(4,.box 114 (zm (zca (⟨zdW,zdX⟩:far)))),(6,.box 114 (zm (zca (⟨(0:Int),(0:Int)⟩:far)))),(8,.box 114 (zm (zca (⟨zpc,zpd⟩:far))))],[]⟩:=za2 (by kernel_rfl) (zc hs hk (λ hs hk=>(hX0 hs hk)) (λ hs hk=>(hX0 hs hk)))
def zf4 (others:(Sl far)) (S0:Int->Int->Int->far) (zaS:Int) (zbe:Int) (zbf:Int):far :=
  (cond (decide (zaS < (others.len : Int)))
 (zl7 S0 others zaS (zzS (others.get zaS.toNat) (⟨zbe,zbf⟩:far)) zbe zbf ((others.get zaS.toNat).length) ((others.get zaS.toNat).uses))
 (⟨zbe,zbf⟩:far))
def zf5 (others:(Sl far)) (P0:Int->Int->Int->Bool) (zaS:Int) (zbe:Int) (zbf:Int):Bool :=
  (cond (decide (zaS < (others.len : Int)))
 (decide ((0≤zaS/\zaS < (others.len:Int))) &&
 (zl8 P0 others zaS (zzS (others.get zaS.toNat) (⟨zbe,zbf⟩:far)) zbe zbf ((others.get zaS.toNat).length) ((others.get zaS.toNat).uses)))
 true)
def zf6 (others:(Sl far)):Nat->Int->Int->Int->far:=lpO (λ _ _ _=>default) (zf4 others)
def zf7 (others:(Sl far)):Nat->Int->Int->Int->Bool:=lpO (λ _ _ _=>false) (zf5 others)
def zl9 (others:(Sl far)) (zaS:Int) (zbe:Int) (zbf:Int):far:=zf6 others Fuel zaS zbe zbf
def zma (others:(Sl far)) (zaS:Int) (zbe:Int) (zbf:Int):Bool:=zf7 others Fuel zaS zbe zbf
theorem zzU (hs:zma others zaS zbe zbf=true) (hk:K (zI4 (zl9 others zaS zbe zbf))):z104 K [1,0,1,0] [] (zuY others zaS zbe zbf) :=
  zl (λ X=>z104 K [1,0,1,0,0] [X]) (by kernel_rfl) λ X0 hX =>
  (show ∀ k, zuZ K others X0 (zf7 others k) (zf6 others k) from zeF _ _ (zf5 others) (zf4 others) (zuZ K others X0)
 (by intro _ _ _ hs;exact absurd hs Bool.false_ne_true)
 (by intro P0 S0 hX0 zaS zbe zbf hs hk;exact hX _ (za2 (by kernel_rfl) (zc hs hk (λ hs hk=>(zaM hs λ hc hs=>And.intro hc (zzT hX0 hs hk))) (λ hs hk=>hk))))) _ hs hk
def zcR (first:far) (others:(Sl far)):far :=
  (zl9 others (0:Int) first.length first.uses)
def zzV (first:far) (others:(Sl far)):Bool :=
  (zma others (0:Int) first.length first.uses)
end
theorem zLD (first:far) (others:(Sl far)) (K:List PA->Prop) (hs:zzV first others=true) (hk:K (zI4 (zcR first others))):vcFun Tryd.prog zK2 zuX 104 [.one (.fn 105 [] []),.agg (zca first),.one (.sl others.len 2 (λ i=>zca (others.get i)))] K :=
  za2 (by kernel_rfl) (zzU hs hk)
def znI : List PA → COut
  | [.one (.fn 105 [] []),.agg [.int .i64 zbO,.int .i64 zeY],.one (.sl zGT zK3 zGU)]=>.det (IsE zca 2 zK3 zGU/\zzV (⟨zbO,zeY⟩:far) (⟨zGT,ziT zGU⟩:(Sl far))=true) [.agg [.int .i64 ((zcR (⟨zbO,zeY⟩:far) (⟨zGT,ziT zGU⟩:(Sl far))).length),.int .i64 ((zcR (⟨zbO,zeY⟩:far) (⟨zGT,ziT zGU⟩:(Sl far))).uses)]]
  | _=>.no
theorem zC9:zav Tryd.prog 104:=⟨_,rfl,rfl,by kernel_rfl⟩
theorem zDa:Ok Tryd.prog 104 znI:=zbk zGS zC9 λ args K h=>by
  unfold znI at h
  split at h
  · rename_i zbO zeY zGT zK3 zGU
    obtain⟨⟨⟨rfl,zJG,rfl⟩,hs⟩,hk⟩:=h
    try rw[ziu zJG] at hs
    try rw[ziu zJG] at hk
    exact⟨(λ _ _=>[]),(λ _=>false),zuX,zLD (⟨zbO,zeY⟩:far) (⟨zGT,zJG⟩:(Sl far)) K hs hk⟩
  · exact h.elim
abbrev T75:Tabs:=(((Tabs.nil.addF 93 znF).addF 104 znI).addI 110 znH)
theorem zJH:TabsOk Tryd.prog T75:=(((TabsOk.nil.addF zFP).addF zDa).addI zsM)
abbrev G75:Ctrs:=csm T75 (λ _ _=>[]) (λ _=>false)
def zu0:Ann:=⟨66,[(0,zK [0,1,4] [4]),(1,zK [0,1,4,5] [4,5]),(2,zK [0,1,4,5,10] [4,5]),(3,zK [0,1,4,5,10,11] [4,5]),(4,zK [0,1,4,5,6,10] [4,5]),(5,zK [0,1,4,5,10] [4,5]),(6,zK [0,1,4,5,10] [4,5]),(7,zK [0,4,5] [4,5]),(8,zK [0,4,5,7] [4,5,7]),(9,zK [0,4,5,7,20] [4,5,7]),(10,zK [0,4,5,7] [4,5,7]),(11,zK [0,4,5,7,22] [4,5,7]),(12,zK [0,4,5,7,8,22] [4,5,7,8]),(13,zK [0,4,5,7,8,22,29] [4,5,7,8]),(14,zK [0,4,5,7,8,9,22] [4,5,7,8,9]),(15,zK [0,4,5,7,8,9,22] [4,5,7,8,9]),(16,zK [0,4,5,7,22] [4,5,7]),(17,zK [0,4,5,64] [4,5]),(18,zK [0,4,5,7] [4,5,7]),(19,zK [4] [4])],
 [(3,zK [0,1,4,5,10] [4,5]),(9,zK [0,4,5,7] [4,5,7]),(12,zK [0,4,5,7,22] [4,5,7])],
 [(7,zK [0,1,4,5] [4,5])],
 [],[]⟩
abbrev R75:=Tab
abbrev e75 (r:R75):List PA:=[.agg (zam r)]
@[irreducible] def z75:=ptF Tryd.prog G75 zu0 Tryd.f75
@[irreducible] def x75:=exF Tryd.prog G75 zu0 Tryd.f75
@[irreducible] def y75:=rnF Tryd.prog G75 zu0 Tryd.f75
def zA8 (w:web) (node:Int) (za3:Int) (t4t0:Tab) (dt0:Tab):St:=⟨[(0,zP (.fp (zaB w) 0)),(1,zI node),(4,zp 4 0),(5,zp 5 0),(10,zI za3)],[(4,.box 116 (zm (zam t4t0))),(5,.box 116 (zm (zam dt0)))],[]⟩
abbrev zGV (K:List PA->Prop) (w:web) (node:Int) (X:St->Prop) (P:Int->Tab->Tab->Bool) (S:Int->Tab->Tab->Tab):Prop:=∀ ⦃za3:Int⦄ ⦃t4t0:Tab⦄ ⦃dt0:Tab⦄,P za3 t4t0 dt0=true->K (e75 (S za3 t4t0 dt0))->X (zA8 w node za3 t4t0 dt0)
def zA9 (w:web) (zaw:Bool) (t4t2:Tab) (dt2:Tab):St:=⟨[(0,zP (.fp (zaB w) 0)),(4,zp 4 0),(5,zp 5 0),(7,zp 7 0)],[(4,.box 116 (zm (zam t4t2))),(5,.box 116 (zm (zam dt2))),(7,.box 4 [.p (.bool zaw)])],[]⟩
abbrev zDb (K:List PA->Prop) (w:web) (X:St->Prop) (P:Bool->Tab->Tab->Bool) (S:Bool->Tab->Tab->Tab):Prop:=∀ ⦃zaw:Bool⦄ ⦃t4t2:Tab⦄ ⦃dt2:Tab⦄,P zaw t4t2 dt2=true->K (e75 (S zaw t4t2 dt2))->X (zA9 w zaw t4t2 dt2)
def zu1 (w:web) (zao:Bool) (t4t3:Tab) (dt3:Tab):St:=⟨[(0,zP (.fp (zaB w) 0)),(4,zp 4 0),(5,zp 5 0),(7,zp 7 0),(22,zP (.fn 110 [] [.fp [.fp (zaB w) 0] 0]))],[(4,.box 116 (zm (zam t4t3))),(5,.box 116 (zm (zam dt3))),(7,.box 4 [.p (.bool zao)])],[]⟩
abbrev zGW (K:List PA->Prop) (w:web) (X:St->Prop) (P:Bool->Tab->Tab->Bool) (S:Bool->Tab->Tab->Tab):Prop:=∀ ⦃zao:Bool⦄ ⦃t4t3:Tab⦄ ⦃dt3:Tab⦄,P zao t4t3 dt3=true->K (e75 (S zao t4t3 dt3))->X (zu1 w zao t4t3 dt3)
section
variable {K:List PA->Prop}{w:web}{node:Int}{za3:Int}{t4t0:Tab}{dt0:Tab}{X0:St->Prop}{P0:Int->Tab->Tab->Bool}{S0:Int->Tab->Tab->Tab}{t4t1:Tab}{dt1:Tab}{zaw:Bool}{t4t2:Tab}{dt2:Tab}{X2:St->Prop}{P2:Bool->Tab->Tab->Bool}{S2:Bool->Tab->Tab->Tab}{zao:Bool}{t4t3:Tab}{dt3:Tab}
def zDc (S2:Bool->Tab->Tab->Tab) (w:web) (zao:Bool) (t4t3:Tab) (dt3:Tab):Tab :=
  (S2 zao t4t3 dt3)
def zDd (P2:Bool->Tab->Tab->Bool) (w:web) (zao:Bool) (t4t3:Tab) (dt3:Tab):Bool :=
  (P2 zao t4t3 dt3)
def zmb (S2:Bool->Tab->Tab->Tab) (w:web) (y3:step) (S3:Bool->Tab->Tab->Tab) (zao:Bool) (t4t3:Tab) (dt3:Tab):Tab :=
  (cond (nvr (tL dt3 y3.to) (tU dt3 y3.to))
 (S3 zao t4t3 dt3)
 (cond zao
 (S3 true t4t3 (ts 80 dt3 (0+y3.from_.toNat * 2+0) [(zcR (⟨(tL dt3 y3.from_),(tU dt3 y3.from_)⟩:far) (⟨1,λ _=>(⟨(w64 ((tL dt3 y3.to)+y3.length)),(w64 ((tV dt3 y3.to)+(1:Int)))⟩:far)⟩:(Sl far))).length,(zcR (⟨(tL dt3 y3.from_),(tU dt3 y3.from_)⟩:far) (⟨1,λ _=>(⟨(w64 ((tL dt3 y3.to)+y3.length)),(w64 ((tV dt3 y3.to)+(1:Int)))⟩:far)⟩:(Sl far))).uses]))
 (S3 (!(match ((zcR (⟨(tL dt3 y3.from_),(tU dt3 y3.from_)⟩:far) (⟨1,λ _=>(⟨(w64 ((tL dt3 y3.to)+y3.length)),(w64 ((tV dt3 y3.to)+(1:Int)))⟩:far)⟩:(Sl far))).length == (tL dt3 y3.from_)) with | true=>(match ((zcR (⟨(tL dt3 y3.from_),(tU dt3 y3.from_)⟩:far) (⟨1,λ _=>(⟨(w64 ((tL dt3 y3.to)+y3.length)),(w64 ((tV dt3 y3.to)+(1:Int)))⟩:far)⟩:(Sl far))).uses == (tU dt3 y3.from_)) with | true=>true | false=>false) | false=>false)) t4t3 (ts 80 dt3 (0+y3.from_.toNat * 2+0) [(zcR (⟨(tL dt3 y3.from_),(tU dt3 y3.from_)⟩:far) (⟨1,λ _=>(⟨(w64 ((tL dt3 y3.to)+y3.length)),(w64 ((tV dt3 y3.to)+(1:Int)))⟩:far)⟩:(Sl far))).length,(zcR (⟨(tL dt3 y3.from_),(tU dt3 y3.from_)⟩:far) (⟨1,λ _=>(⟨(w64 ((tL dt3 y3.to)+y3.length)),(w64 ((tV dt3 y3.to)+(1:Int)))⟩:far)⟩:(Sl far))).uses]))))
def zmc (P2:Bool->Tab->Tab->Bool) (w:web) (y3:step) (P3:Bool->Tab->Tab->Bool) (zao:Bool) (t4t3:Tab) (dt3:Tab):Bool :=
  (decide ((0≤y3.to/\y3.to < (40:Int))) &&
 (cond (nvr (tL dt3 y3.to) (tU dt3 y3.to))
 (P3 zao t4t3 dt3)
 (decide ((0≤y3.from_/\y3.from_ < (40:Int))) &&
 (decide ((0≤y3.to/\y3.to < (40:Int))) &&
 (decide ((0≤y3.to/\y3.to < (40:Int))) &&
 (decide ((zzV (⟨(tL dt3 y3.from_),(tU dt3 y3.from_)⟩:far) (⟨1,λ _=>(⟨(w64 ((tL dt3 y3.to)+y3.length)),(w64 ((tV dt3 y3.to)+(1:Int)))⟩:far)⟩:(Sl far))=true)) &&
 (cond zao
 (decide ((0≤y3.from_/\y3.from_ < (40:Int))) &&
 (P3 true t4t3 (ts 80 dt3 (0+y3.from_.toNat * 2+0) [(zcR (⟨(tL dt3 y3.from_),(tU dt3 y3.from_)⟩:far) (⟨1,λ _=>(⟨(w64 ((tL dt3 y3.to)+y3.length)),(w64 ((tV dt3 y3.to)+(1:Int)))⟩:far)⟩:(Sl far))).length,(zcR (⟨(tL dt3 y3.from_),(tU dt3 y3.from_)⟩:far) (⟨1,λ _=>(⟨(w64 ((tL dt3 y3.to)+y3.length)),(w64 ((tV dt3 y3.to)+(1:Int)))⟩:far)⟩:(Sl far))).uses])))
 (decide ((0≤y3.from_/\y3.from_ < (40:Int))) &&
 (decide ((0≤y3.from_/\y3.from_ < (40:Int))) &&
 (P3 (!(match ((zcR (⟨(tL dt3 y3.from_),(tU dt3 y3.from_)⟩:far) (⟨1,λ _=>(⟨(w64 ((tL dt3 y3.to)+y3.length)),(w64 ((tV dt3 y3.to)+(1:Int)))⟩:far)⟩:(Sl far))).length == (tL dt3 y3.from_)) with | true=>(match ((zcR (⟨(tL dt3 y3.from_),(tU dt3 y3.from_)⟩:far) (⟨1,λ _=>(⟨(w64 ((tL dt3 y3.to)+y3.length)),(w64 ((tV dt3 y3.to)+(1:Int)))⟩:far)⟩:(Sl far))).uses == (tU dt3 y3.from_)) with | true=>true | false=>false) | false=>false)) t4t3 (ts 80 dt3 (0+y3.from_.toNat * 2+0) [(zcR (⟨(tL dt3 y3.from_),(tU dt3 y3.from_)⟩:far) (⟨1,λ _=>(⟨(w64 ((tL dt3 y3.to)+y3.length)),(w64 ((tV dt3 y3.to)+(1:Int)))⟩:far)⟩:(Sl far))).length,(zcR (⟨(tL dt3 y3.from_),(tU dt3 y3.from_)⟩:far) (⟨1,λ _=>(⟨(w64 ((tL dt3 y3.to)+y3.length)),(w64 ((tV dt3 y3.to)+(1:Int)))⟩:far)⟩:(Sl far))).uses])))))))))))
def zmd (S2:Bool->Tab->Tab->Tab) (w:web):List step->Bool->Tab->Tab->Tab:=lpR (zDc S2 w) (zmb S2 w)
def zme (P2:Bool->Tab->Tab->Bool) (w:web):List step->Bool->Tab->Tab->Bool:=lpR (zDd P2 w) (zmc P2 w)
def zpe (S2:Bool->Tab->Tab->Tab) (w:web) (zao:Bool) (t4t3:Tab) (dt3:Tab):Tab:=zmd S2 w (zj3 w) zao t4t3 dt3
def zpf (P2:Bool->Tab->Tab->Bool) (w:web) (zao:Bool) (t4t3:Tab) (dt3:Tab):Bool:=decide ((zsZ w=true)) && zme P2 w (zj3 w) zao t4t3 dt3
theorem zDe (hX2:zDb K w X2 P2 S2) (hs:zpf P2 w zao t4t3 dt3=true) (hk:K (e75 (zpe S2 w zao t4t3 dt3))):z75 K [1,1,1,1,0,1,0,0,1,0,0,1,1,0] [X2] (zu1 w zao t4t3 dt3) :=
  zaM hs λ hc hs=>zr (enc:=(λ y:step=>[.agg (zaC y)])) (ys:=zj3 w) (g:=(zu1 w zao t4t3 dt3)) (x75 K [1,1,1,1,0,1,0,0,1,0,0,1,1,0] [X2]) (y75 K [1,1,1,1,0,1,0,0,1,0,0,1,1,0] [X2]) (by kernel_rfl) (And.intro (zE enc_40 4 w.Net.Ties.get) (And.intro (rfl:((false,1,false,[none]):MQ)=(false,1,false,[none])) hc)) λ X3 hE hR =>
  (show ∀ l : List step, zGW K w (X3 (l.map (λ y : step => [.agg (zaC y)]))) (zme P2 w l) (zmd S2 w l) from zri (X := X3) (enc := (λ y : step => [.agg (zaC y)])) _ _ (zmc P2 w) (zmb S2 w) (λ Z P S => zGW K w Z P S)
 (by intro zao t4t3 dt3 hs hk;exact hE _ (za2 (by kernel_rfl) (hX2 hs hk)))
 (by intro y3 rest P3 S3 hX3 zao t4t3 dt3 hs hk;exact hR _ rest _ (za2 (by kernel_rfl) (zaM hs λ hc hs=>And.intro hc (zc hs hk (λ hs hk=>(hX3 hs hk)) (λ hs hk=>(zaM hs λ hc hs=>And.intro hc (zaM hs λ hc hs=>And.intro hc (zaM hs λ hc hs=>And.intro hc (zaM hs λ hc hs=>And.intro (And.intro (zuC:IsE zca 2 2 (λ _=>(zca (⟨(w64 ((tL dt3 y3.to)+y3.length)),(w64 ((tV dt3 y3.to)+(1:Int)))⟩:far)))) hc) (zc hs hk (λ hs hk=>(zaM hs λ hc hs=>And.intro hc (hX3 hs hk))) (λ hs hk=>(zaM hs λ hc hs=>And.intro hc (zaM hs λ hc hs=>And.intro hc (hX3 hs hk))))))))))))))) _ hs hk
def zmf (w:web) (S2:Bool->Tab->Tab->Tab) (zaw:Bool) (t4t2:Tab) (dt2:Tab):Tab :=
  (cond zaw
 (zpe S2 w false t4t2 dt2)
 dt2)
def zmg (w:web) (P2:Bool->Tab->Tab->Bool) (zaw:Bool) (t4t2:Tab) (dt2:Tab):Bool :=
  (cond zaw
 (zpf P2 w false t4t2 dt2)
 true)
def zfw (w:web):Nat->Bool->Tab->Tab->Tab:=lpO (λ _ _ _=>default) (zmf w)
def zfx (w:web):Nat->Bool->Tab->Tab->Bool:=lpO (λ _ _ _=>false) (zmg w)
def zpg (w:web) (zaw:Bool) (t4t2:Tab) (dt2:Tab):Tab:=zfw w Fuel zaw t4t2 dt2
def zph (w:web) (zaw:Bool) (t4t2:Tab) (dt2:Tab):Bool:=zfx w Fuel zaw t4t2 dt2
theorem zDf (hs:zph w zaw t4t2 dt2=true) (hk:K (e75 (zpg w zaw t4t2 dt2))):z75 K [1,1,1,1,0,1,0] [] (zA9 w zaw t4t2 dt2) :=
  zl (λ X=>z75 K [1,1,1,1,0,1,0,0] [X]) (by kernel_rfl) λ X2 hX =>
  (show ∀ k, zDb K w X2 (zfx w k) (zfw w k) from zeF _ _ (zmg w) (zmf w) (zDb K w X2)
 (by intro _ _ _ hs;exact absurd hs Bool.false_ne_true)
 (by intro P2 S2 hX2 zaw t4t2 dt2 hs hk;exact hX _ (za2 (by kernel_rfl) (zc hs hk (λ hs hk=>(And.intro (And.intro (zE enc_40 4 w.Net.Ties.get) (rfl:((false,1,false,[none]):MQ)=(false,1,false,[none]))) (zDe hX2 hs hk))) (λ hs hk=>hk))))) _ hs hk
def zmh (w:web) (node:Int) (t4t1:Tab) (dt1:Tab):Tab :=
  (zpg w true t4t1 (ts 80 dt1 (0+node.toNat * 2+0) [(0:Int),(0:Int)]))
def zmi (w:web) (node:Int) (t4t1:Tab) (dt1:Tab):Bool :=
  (decide ((0≤node/\node < (40:Int))) &&
 (zph w true t4t1 (ts 80 dt1 (0+node.toNat * 2+0) [(0:Int),(0:Int)])))
theorem zDg (hs:zmi w node t4t1 dt1=true) (hk:K (e75 (zmh w node t4t1 dt1))):z75 K [1,1,1] [] ⟨[(0,zP (.fp (zaB w) 0)),(1,zI node),(4,zp 4 0),(5,zp 5 0)],[(4,.box 116 (zm (zam t4t1))),(5,.box 116 (zm (zam dt1)))],[]⟩:=za2 (by kernel_rfl) (zaM hs λ hc hs=>And.intro hc (zDf hs hk))
def zhM (w:web) (node:Int) (S0:Int->Tab->Tab->Tab) (za3:Int) (t4t0:Tab) (dt0:Tab):Tab :=
  (cond (decide (za3 < (40:Int)))
 (S0 (w64 (za3+(1:Int))) t4t0 (ts 80 dt0 (0+za3.toNat * 2+0) [(1000000000000:Int),(0:Int)]))
 (zmh w node t4t0 dt0))
def zhN (w:web) (node:Int) (P0:Int->Tab->Tab->Bool) (za3:Int) (t4t0:Tab) (dt0:Tab):Bool :=
  (cond (decide (za3 < (40:Int)))
 (decide ((0≤za3/\za3 < (40:Int))) &&
 (P0 (w64 (za3+(1:Int))) t4t0 (ts 80 dt0 (0+za3.toNat * 2+0) [(1000000000000:Int),(0:Int)])))
 (zmi w node t4t0 dt0))
def zhO (w:web) (node:Int):Nat->Int->Tab->Tab->Tab:=lpO (λ _ _ _=>default) (zhM w node)
def zhP (w:web) (node:Int):Nat->Int->Tab->Tab->Bool:=lpO (λ _ _ _=>false) (zhN w node)
def zu3 (w:web) (node:Int) (za3:Int) (t4t0:Tab) (dt0:Tab):Tab:=zhO w node Fuel za3 t4t0 dt0
def zu4 (w:web) (node:Int) (za3:Int) (t4t0:Tab) (dt0:Tab):Bool:=zhP w node Fuel za3 t4t0 dt0
theorem zDh (hs:zu4 w node za3 t4t0 dt0=true) (hk:K (e75 (zu3 w node za3 t4t0 dt0))):z75 K [1,1,0,1,0] [] (zA8 w node za3 t4t0 dt0) :=
  zl (λ X=>z75 K [1,1,0,1,0,0] [X]) (by kernel_rfl) λ X0 hX =>
  (show ∀ k, zGV K w node X0 (zhP w node k) (zhO w node k) from zeF _ _ (zhN w node) (zhM w node) (zGV K w node X0)
 (by intro _ _ _ hs;exact absurd hs Bool.false_ne_true)
 (by intro P0 S0 hX0 za3 t4t0 dt0 hs hk;exact hX _ (za2 (by kernel_rfl) (zc hs hk (λ hs hk=>(zaM hs λ hc hs=>And.intro hc (hX0 hs hk))) (λ hs hk=>(zDg hs hk)))))) _ hs hk
def s75 (w:web) (node:Int):Tab :=
  (zu3 w node (0:Int) (λ _=>(0:Int)) (λ _=>(0:Int)))
def p75 (w:web) (node:Int):Bool :=
  (zu4 w node (0:Int) (λ _=>(0:Int)) (λ _=>(0:Int)))
end
theorem q75 (w:web) (node:Int) (K:List PA->Prop) (hs:p75 w node=true) (hk:K (e75 (s75 w node))):vcFun Tryd.prog G75 zu0 75 [.one (.fp (zaB w) 0),.one (.int .i64 node)] K :=
  za2 (by kernel_rfl) (zDh hs hk)
def zsO : List PA → COut
  | [.one (.fp [.int .i64 zak,.sl zai zaA zaj,.fm za6 zaG zaH] 0),.one (.int .i64 a1)]=>.det (IsE enc_40 4 zaA zaj/\za6=(false,1,false,[none])/\p75 (⟨(⟨zak,(⟨zai,zan zaj⟩:(Sl Tie))⟩:Net),(⟨zaG,zaH⟩:Mp)⟩:web) a1=true) [.agg (zam ((s75 (⟨(⟨zak,(⟨zai,zan zaj⟩:(Sl Tie))⟩:Net),(⟨zaG,zaH⟩:Mp)⟩:web) a1)))]
  | _=>.no
theorem zGX:zav Tryd.prog 75:=⟨_,rfl,rfl,by kernel_rfl⟩
theorem zI5:Ok Tryd.prog 75 zsO:=zbk zJH zGX λ args K h=>by
  unfold zsO at h
  split at h
  · rename_i zak zai zaA zaj za6 zaG zaH a1
    obtain⟨⟨⟨rfl,zat,rfl⟩,rfl,hs⟩,hk⟩:=h
    try rw[zal zat] at hs
    try rw[zal zat] at hk
    exact⟨(λ _ _=>[]),(λ _=>false),zu0,q75 (⟨(⟨zak,(⟨zai,zat⟩:(Sl Tie))⟩:Net),(⟨zaG,zaH⟩:Mp)⟩:web) a1 K hs hk⟩
  · exact h.elim
abbrev T76:Tabs:=(((Tabs.nil.addF 93 znF).addF 104 znI).addI 110 znH)
theorem zJI:TabsOk Tryd.prog T76:=(((TabsOk.nil.addF zFP).addF zDa).addI zsM)
abbrev G76:Ctrs:=csm T76 (λ _ _=>[]) (λ _=>false)
def zu5:Ann:=⟨66,[(0,zK [0,1,4] [4]),(1,zK [0,1,4,5] [4,5]),(2,zK [0,1,4,5,10] [4,5]),(3,zK [0,1,4,5,10,11] [4,5]),(4,zK [0,1,4,5,6,10] [4,5]),(5,zK [0,1,4,5,10] [4,5]),(6,zK [0,1,4,5,10] [4,5]),(7,zK [0,4,5] [4,5]),(8,zK [0,4,5,7] [4,5,7]),(9,zK [0,4,5,7,20] [4,5,7]),(10,zK [0,4,5,7] [4,5,7]),(11,zK [0,4,5,7,22] [4,5,7]),(12,zK [0,4,5,7,8,22] [4,5,7,8]),(13,zK [0,4,5,7,8,22,29] [4,5,7,8]),(14,zK [0,4,5,7,8,9,22] [4,5,7,8,9]),(15,zK [0,4,5,7,8,9,22] [4,5,7,8,9]),(16,zK [0,4,5,7,22] [4,5,7]),(17,zK [0,4,5,64] [4,5]),(18,zK [0,4,5,7] [4,5,7]),(19,zK [4] [4])],
 [(3,zK [0,1,4,5,10] [4,5]),(9,zK [0,4,5,7] [4,5,7]),(12,zK [0,4,5,7,22] [4,5,7])],
 [(7,zK [0,1,4,5] [4,5])],
 [],[]⟩
abbrev R76:=Tab
abbrev e76 (r:R76):List PA:=[.agg (zam r)]
@[irreducible] def z76:=ptF Tryd.prog G76 zu5 Tryd.f76
@[irreducible] def x76:=exF Tryd.prog G76 zu5 Tryd.f76
@[irreducible] def y76:=rnF Tryd.prog G76 zu5 Tryd.f76
def zBa (w:web) (node:Int) (za3:Int) (t4t0:Tab) (dt0:Tab):St:=⟨[(0,zP (.fp (zaB w) 0)),(1,zI node),(4,zp 4 0),(5,zp 5 0),(10,zI za3)],[(4,.box 116 (zm (zam t4t0))),(5,.box 116 (zm (zam dt0)))],[]⟩
abbrev zGY (K:List PA->Prop) (w:web) (node:Int) (X:St->Prop) (P:Int->Tab->Tab->Bool) (S:Int->Tab->Tab->Tab):Prop:=∀ ⦃za3:Int⦄ ⦃t4t0:Tab⦄ ⦃dt0:Tab⦄,P za3 t4t0 dt0=true->K (e76 (S za3 t4t0 dt0))->X (zBa w node za3 t4t0 dt0)
def zBb (w:web) (zaw:Bool) (t4t2:Tab) (dt2:Tab):St:=⟨[(0,zP (.fp (zaB w) 0)),(4,zp 4 0),(5,zp 5 0),(7,zp 7 0)],[(4,.box 116 (zm (zam t4t2))),(5,.box 116 (zm (zam dt2))),(7,.box 4 [.p (.bool zaw)])],[]⟩
abbrev zDi (K:List PA->Prop) (w:web) (X:St->Prop) (P:Bool->Tab->Tab->Bool) (S:Bool->Tab->Tab->Tab):Prop:=∀ ⦃zaw:Bool⦄ ⦃t4t2:Tab⦄ ⦃dt2:Tab⦄,P zaw t4t2 dt2=true->K (e76 (S zaw t4t2 dt2))->X (zBb w zaw t4t2 dt2)
def zu6 (w:web) (zao:Bool) (t4t3:Tab) (dt3:Tab):St:=⟨[(0,zP (.fp (zaB w) 0)),(4,zp 4 0),(5,zp 5 0),(7,zp 7 0),(22,zP (.fn 110 [] [.fp [.fp (zaB w) 0] 0]))],[(4,.box 116 (zm (zam t4t3))),(5,.box 116 (zm (zam dt3))),(7,.box 4 [.p (.bool zao)])],[]⟩
abbrev zGZ (K:List PA->Prop) (w:web) (X:St->Prop) (P:Bool->Tab->Tab->Bool) (S:Bool->Tab->Tab->Tab):Prop:=∀ ⦃zao:Bool⦄ ⦃t4t3:Tab⦄ ⦃dt3:Tab⦄,P zao t4t3 dt3=true->K (e76 (S zao t4t3 dt3))->X (zu6 w zao t4t3 dt3)
section
variable {K:List PA->Prop}{w:web}{node:Int}{za3:Int}{t4t0:Tab}{dt0:Tab}{X0:St->Prop}{P0:Int->Tab->Tab->Bool}{S0:Int->Tab->Tab->Tab}{t4t1:Tab}{dt1:Tab}{zaw:Bool}{t4t2:Tab}{dt2:Tab}{X2:St->Prop}{P2:Bool->Tab->Tab->Bool}{S2:Bool->Tab->Tab->Tab}{zao:Bool}{t4t3:Tab}{dt3:Tab}
def zDj (S2:Bool->Tab->Tab->Tab) (w:web) (zao:Bool) (t4t3:Tab) (dt3:Tab):Tab :=
  (S2 zao t4t3 dt3)
def zDk (P2:Bool->Tab->Tab->Bool) (w:web) (zao:Bool) (t4t3:Tab) (dt3:Tab):Bool :=
  (P2 zao t4t3 dt3)
def zmj (S2:Bool->Tab->Tab->Tab) (w:web) (y3:step) (S3:Bool->Tab->Tab->Tab) (zao:Bool) (t4t3:Tab) (dt3:Tab):Tab :=
  (cond (nvr (tL dt3 y3.from_) (tU dt3 y3.from_))
 (S3 zao t4t3 dt3)
 (cond zao
 (S3 true t4t3 (ts 80 dt3 (0+y3.to.toNat * 2+0) [(zcR (⟨(tL dt3 y3.to),(tU dt3 y3.to)⟩:far) (⟨1,λ _=>(⟨(w64 ((tL dt3 y3.from_)+y3.length)),(w64 ((tV dt3 y3.from_)+(1:Int)))⟩:far)⟩:(Sl far))).length,(zcR (⟨(tL dt3 y3.to),(tU dt3 y3.to)⟩:far) (⟨1,λ _=>(⟨(w64 ((tL dt3 y3.from_)+y3.length)),(w64 ((tV dt3 y3.from_)+(1:Int)))⟩:far)⟩:(Sl far))).uses]))
 (S3 (!(match ((zcR (⟨(tL dt3 y3.to),(tU dt3 y3.to)⟩:far) (⟨1,λ _=>(⟨(w64 ((tL dt3 y3.from_)+y3.length)),(w64 ((tV dt3 y3.from_)+(1:Int)))⟩:far)⟩:(Sl far))).length == (tL dt3 y3.to)) with | true=>(match ((zcR (⟨(tL dt3 y3.to),(tU dt3 y3.to)⟩:far) (⟨1,λ _=>(⟨(w64 ((tL dt3 y3.from_)+y3.length)),(w64 ((tV dt3 y3.from_)+(1:Int)))⟩:far)⟩:(Sl far))).uses == (tU dt3 y3.to)) with | true=>true | false=>false) | false=>false)) t4t3 (ts 80 dt3 (0+y3.to.toNat * 2+0) [(zcR (⟨(tL dt3 y3.to),(tU dt3 y3.to)⟩:far) (⟨1,λ _=>(⟨(w64 ((tL dt3 y3.from_)+y3.length)),(w64 ((tV dt3 y3.from_)+(1:Int)))⟩:far)⟩:(Sl far))).length,(zcR (⟨(tL dt3 y3.to),(tU dt3 y3.to)⟩:far) (⟨1,λ _=>(⟨(w64 ((tL dt3 y3.from_)+y3.length)),(w64 ((tV dt3 y3.from_)+(1:Int)))⟩:far)⟩:(Sl far))).uses]))))
def zmk (P2:Bool->Tab->Tab->Bool) (w:web) (y3:step) (P3:Bool->Tab->Tab->Bool) (zao:Bool) (t4t3:Tab) (dt3:Tab):Bool :=
  (decide ((0≤y3.from_/\y3.from_ < (40:Int))) &&
 (cond (nvr (tL dt3 y3.from_) (tU dt3 y3.from_))
 (P3 zao t4t3 dt3)
 (decide ((0≤y3.to/\y3.to < (40:Int))) &&
 (decide ((0≤y3.from_/\y3.from_ < (40:Int))) &&
 (decide ((0≤y3.from_/\y3.from_ < (40:Int))) &&
 (decide ((zzV (⟨(tL dt3 y3.to),(tU dt3 y3.to)⟩:far) (⟨1,λ _=>(⟨(w64 ((tL dt3 y3.from_)+y3.length)),(w64 ((tV dt3 y3.from_)+(1:Int)))⟩:far)⟩:(Sl far))=true)) &&
 (cond zao
 (decide ((0≤y3.to/\y3.to < (40:Int))) &&
 (P3 true t4t3 (ts 80 dt3 (0+y3.to.toNat * 2+0) [(zcR (⟨(tL dt3 y3.to),(tU dt3 y3.to)⟩:far) (⟨1,λ _=>(⟨(w64 ((tL dt3 y3.from_)+y3.length)),(w64 ((tV dt3 y3.from_)+(1:Int)))⟩:far)⟩:(Sl far))).length,(zcR (⟨(tL dt3 y3.to),(tU dt3 y3.to)⟩:far) (⟨1,λ _=>(⟨(w64 ((tL dt3 y3.from_)+y3.length)),(w64 ((tV dt3 y3.from_)+(1:Int)))⟩:far)⟩:(Sl far))).uses])))
 (decide ((0≤y3.to/\y3.to < (40:Int))) &&
 (decide ((0≤y3.to/\y3.to < (40:Int))) &&
 (P3 (!(match ((zcR (⟨(tL dt3 y3.to),(tU dt3 y3.to)⟩:far) (⟨1,λ _=>(⟨(w64 ((tL dt3 y3.from_)+y3.length)),(w64 ((tV dt3 y3.from_)+(1:Int)))⟩:far)⟩:(Sl far))).length == (tL dt3 y3.to)) with | true=>(match ((zcR (⟨(tL dt3 y3.to),(tU dt3 y3.to)⟩:far) (⟨1,λ _=>(⟨(w64 ((tL dt3 y3.from_)+y3.length)),(w64 ((tV dt3 y3.from_)+(1:Int)))⟩:far)⟩:(Sl far))).uses == (tU dt3 y3.to)) with | true=>true | false=>false) | false=>false)) t4t3 (ts 80 dt3 (0+y3.to.toNat * 2+0) [(zcR (⟨(tL dt3 y3.to),(tU dt3 y3.to)⟩:far) (⟨1,λ _=>(⟨(w64 ((tL dt3 y3.from_)+y3.length)),(w64 ((tV dt3 y3.from_)+(1:Int)))⟩:far)⟩:(Sl far))).length,(zcR (⟨(tL dt3 y3.to),(tU dt3 y3.to)⟩:far) (⟨1,λ _=>(⟨(w64 ((tL dt3 y3.from_)+y3.length)),(w64 ((tV dt3 y3.from_)+(1:Int)))⟩:far)⟩:(Sl far))).uses])))))))))))
def zml (S2:Bool->Tab->Tab->Tab) (w:web):List step->Bool->Tab->Tab->Tab:=lpR (zDj S2 w) (zmj S2 w)
def zmm (P2:Bool->Tab->Tab->Bool) (w:web):List step->Bool->Tab->Tab->Bool:=lpR (zDk P2 w) (zmk P2 w)
def zpi (S2:Bool->Tab->Tab->Tab) (w:web) (zao:Bool) (t4t3:Tab) (dt3:Tab):Tab:=zml S2 w (zj3 w) zao t4t3 dt3
def zpj (P2:Bool->Tab->Tab->Bool) (w:web) (zao:Bool) (t4t3:Tab) (dt3:Tab):Bool:=decide ((zsZ w=true)) && zmm P2 w (zj3 w) zao t4t3 dt3
theorem zDl (hX2:zDi K w X2 P2 S2) (hs:zpj P2 w zao t4t3 dt3=true) (hk:K (e76 (zpi S2 w zao t4t3 dt3))):z76 K [1,1,1,1,0,1,0,0,1,0,0,1,1,0] [X2] (zu6 w zao t4t3 dt3) :=
  zaM hs λ hc hs=>zr (enc:=(λ y:step=>[.agg (zaC y)])) (ys:=zj3 w) (g:=(zu6 w zao t4t3 dt3)) (x76 K [1,1,1,1,0,1,0,0,1,0,0,1,1,0] [X2]) (y76 K [1,1,1,1,0,1,0,0,1,0,0,1,1,0] [X2]) (by kernel_rfl) (And.intro (zE enc_40 4 w.Net.Ties.get) (And.intro (rfl:((false,1,false,[none]):MQ)=(false,1,false,[none])) hc)) λ X3 hE hR =>
  (show ∀ l : List step, zGZ K w (X3 (l.map (λ y : step => [.agg (zaC y)]))) (zmm P2 w l) (zml S2 w l) from zri (X := X3) (enc := (λ y : step => [.agg (zaC y)])) _ _ (zmk P2 w) (zmj S2 w) (λ Z P S => zGZ K w Z P S)
 (by intro zao t4t3 dt3 hs hk;exact hE _ (za2 (by kernel_rfl) (hX2 hs hk)))
 (by intro y3 rest P3 S3 hX3 zao t4t3 dt3 hs hk;exact hR _ rest _ (za2 (by kernel_rfl) (zaM hs λ hc hs=>And.intro hc (zc hs hk (λ hs hk=>(hX3 hs hk)) (λ hs hk=>(zaM hs λ hc hs=>And.intro hc (zaM hs λ hc hs=>And.intro hc (zaM hs λ hc hs=>And.intro hc (zaM hs λ hc hs=>And.intro (And.intro (zuC:IsE zca 2 2 (λ _=>(zca (⟨(w64 ((tL dt3 y3.from_)+y3.length)),(w64 ((tV dt3 y3.from_)+(1:Int)))⟩:far)))) hc) (zc hs hk (λ hs hk=>(zaM hs λ hc hs=>And.intro hc (hX3 hs hk))) (λ hs hk=>(zaM hs λ hc hs=>And.intro hc (zaM hs λ hc hs=>And.intro hc (hX3 hs hk))))))))))))))) _ hs hk
def zmn (w:web) (S2:Bool->Tab->Tab->Tab) (zaw:Bool) (t4t2:Tab) (dt2:Tab):Tab :=
  (cond zaw
 (zpi S2 w false t4t2 dt2)
 dt2)
def zmo (w:web) (P2:Bool->Tab->Tab->Bool) (zaw:Bool) (t4t2:Tab) (dt2:Tab):Bool :=
  (cond zaw
 (zpj P2 w false t4t2 dt2)
 true)
def zfy (w:web):Nat->Bool->Tab->Tab->Tab:=lpO (λ _ _ _=>default) (zmn w)
def zfz (w:web):Nat->Bool->Tab->Tab->Bool:=lpO (λ _ _ _=>false) (zmo w)
def zpk (w:web) (zaw:Bool) (t4t2:Tab) (dt2:Tab):Tab:=zfy w Fuel zaw t4t2 dt2
def zpl (w:web) (zaw:Bool) (t4t2:Tab) (dt2:Tab):Bool:=zfz w Fuel zaw t4t2 dt2
theorem zDm (hs:zpl w zaw t4t2 dt2=true) (hk:K (e76 (zpk w zaw t4t2 dt2))):z76 K [1,1,1,1,0,1,0] [] (zBb w zaw t4t2 dt2) :=
  zl (λ X=>z76 K [1,1,1,1,0,1,0,0] [X]) (by kernel_rfl) λ X2 hX =>
  (show ∀ k, zDi K w X2 (zfz w k) (zfy w k) from zeF _ _ (zmo w) (zmn w) (zDi K w X2)
 (by intro _ _ _ hs;exact absurd hs Bool.false_ne_true)
 (by intro P2 S2 hX2 zaw t4t2 dt2 hs hk;exact hX _ (za2 (by kernel_rfl) (zc hs hk (λ hs hk=>(And.intro (And.intro (zE enc_40 4 w.Net.Ties.get) (rfl:((false,1,false,[none]):MQ)=(false,1,false,[none]))) (zDl hX2 hs hk))) (λ hs hk=>hk))))) _ hs hk
def zmp (w:web) (node:Int) (t4t1:Tab) (dt1:Tab):Tab :=
  (zpk w true t4t1 (ts 80 dt1 (0+node.toNat * 2+0) [(0:Int),(0:Int)]))
def zmq (w:web) (node:Int) (t4t1:Tab) (dt1:Tab):Bool :=
  (decide ((0≤node/\node < (40:Int))) &&
 (zpl w true t4t1 (ts 80 dt1 (0+node.toNat * 2+0) [(0:Int),(0:Int)])))
theorem zDn (hs:zmq w node t4t1 dt1=true) (hk:K (e76 (zmp w node t4t1 dt1))):z76 K [1,1,1] [] ⟨[(0,zP (.fp (zaB w) 0)),(1,zI node),(4,zp 4 0),(5,zp 5 0)],[(4,.box 116 (zm (zam t4t1))),(5,.box 116 (zm (zam dt1)))],[]⟩:=za2 (by kernel_rfl) (zaM hs λ hc hs=>And.intro hc (zDm hs hk))
def zhQ (w:web) (node:Int) (S0:Int->Tab->Tab->Tab) (za3:Int) (t4t0:Tab) (dt0:Tab):Tab :=
  (cond (decide (za3 < (40:Int)))
 (S0 (w64 (za3+(1:Int))) t4t0 (ts 80 dt0 (0+za3.toNat * 2+0) [(1000000000000:Int),(0:Int)]))
 (zmp w node t4t0 dt0))
def zhR (w:web) (node:Int) (P0:Int->Tab->Tab->Bool) (za3:Int) (t4t0:Tab) (dt0:Tab):Bool :=
  (cond (decide (za3 < (40:Int)))
 (decide ((0≤za3/\za3 < (40:Int))) &&
 (P0 (w64 (za3+(1:Int))) t4t0 (ts 80 dt0 (0+za3.toNat * 2+0) [(1000000000000:Int),(0:Int)])))
 (zmq w node t4t0 dt0))
def zhS (w:web) (node:Int):Nat->Int->Tab->Tab->Tab:=lpO (λ _ _ _=>default) (zhQ w node)
def zhT (w:web) (node:Int):Nat->Int->Tab->Tab->Bool:=lpO (λ _ _ _=>false) (zhR w node)
def zu7 (w:web) (node:Int) (za3:Int) (t4t0:Tab) (dt0:Tab):Tab:=zhS w node Fuel za3 t4t0 dt0
def zu8 (w:web) (node:Int) (za3:Int) (t4t0:Tab) (dt0:Tab):Bool:=zhT w node Fuel za3 t4t0 dt0
theorem zDo (hs:zu8 w node za3 t4t0 dt0=true) (hk:K (e76 (zu7 w node za3 t4t0 dt0))):z76 K [1,1,0,1,0] [] (zBa w node za3 t4t0 dt0) :=
  zl (λ X=>z76 K [1,1,0,1,0,0] [X]) (by kernel_rfl) λ X0 hX =>
  (show ∀ k, zGY K w node X0 (zhT w node k) (zhS w node k) from zeF _ _ (zhR w node) (zhQ w node) (zGY K w node X0)
 (by intro _ _ _ hs;exact absurd hs Bool.false_ne_true)
 (by intro P0 S0 hX0 za3 t4t0 dt0 hs hk;exact hX _ (za2 (by kernel_rfl) (zc hs hk (λ hs hk=>(zaM hs λ hc hs=>And.intro hc (hX0 hs hk))) (λ hs hk=>(zDn hs hk)))))) _ hs hk
def s76 (w:web) (node:Int):Tab :=
  (zu7 w node (0:Int) (λ _=>(0:Int)) (λ _=>(0:Int)))
def p76 (w:web) (node:Int):Bool :=
  (zu8 w node (0:Int) (λ _=>(0:Int)) (λ _=>(0:Int)))
end
theorem q76 (w:web) (node:Int) (K:List PA->Prop) (hs:p76 w node=true) (hk:K (e76 (s76 w node))):vcFun Tryd.prog G76 zu5 76 [.one (.fp (zaB w) 0),.one (.int .i64 node)] K :=
  za2 (by kernel_rfl) (zDo hs hk)
def zsP : List PA → COut
  | [.one (.fp [.int .i64 zak,.sl zai zaA zaj,.fm za6 zaG zaH] 0),.one (.int .i64 a1)]=>.det (IsE enc_40 4 zaA zaj/\za6=(false,1,false,[none])/\p76 (⟨(⟨zak,(⟨zai,zan zaj⟩:(Sl Tie))⟩:Net),(⟨zaG,zaH⟩:Mp)⟩:web) a1=true) [.agg (zam ((s76 (⟨(⟨zak,(⟨zai,zan zaj⟩:(Sl Tie))⟩:Net),(⟨zaG,zaH⟩:Mp)⟩:web) a1)))]
  | _=>.no
theorem zG0:zav Tryd.prog 76:=⟨_,rfl,rfl,by kernel_rfl⟩
theorem zI6:Ok Tryd.prog 76 zsP:=zbk zJI zG0 λ args K h=>by
  unfold zsP at h
  split at h
  · rename_i zak zai zaA zaj za6 zaG zaH a1
    obtain⟨⟨⟨rfl,zat,rfl⟩,rfl,hs⟩,hk⟩:=h
    try rw[zal zat] at hs
    try rw[zal zat] at hk
    exact⟨(λ _ _=>[]),(λ _=>false),zu5,q76 (⟨(⟨zak,(⟨zai,zat⟩:(Sl Tie))⟩:Net),(⟨zaG,zaH⟩:Mp)⟩:web) a1 K hs hk⟩
  · exact h.elim
abbrev T26:Tabs:=(((Tabs.nil.addF 74 zsN).addF 75 zsO).addF 76 zsP)
theorem zJJ:TabsOk Tryd.prog T26:=(((TabsOk.nil.addF zI3).addF zI5).addF zI6)
abbrev G26:Ctrs:=csm T26 (λ _ _=>[]) (λ _=>false)
def zDp:Ann:=⟨45,[(0,zK [1] [1]),(1,zK [1,4,5] [1]),(2,zK [1,4,5,16] [1]),(3,zK [2,3] []),(4,zK [1,6,7] [1,6,7]),(5,zK [6,7,8] [6,7,24]),(6,zK [6,7,8,26,27] [6,7,24]),(7,zK [6,7,8,26,27,28] [6,7,24]),(8,zK [6,7,8,9,26,27] [6,7,24]),(9,zK [6,7,8,26,27] [6,7,24]),(10,zK [6,7,8,26,27] [6,7,24]),(11,zK [2,3] [24])],
 [(7,zK [6,7,8,26,27] [6,7,24])],
 [],
 [],[]⟩
abbrev R26:=((Sl Span)×Int)
abbrev e26 (r:R26):List PA:=[.one (.sl r.1.len 2 (λ i=>zaT (r.1.get i))),.one (.int .i64 r.2)]
@[irreducible] def z26:=ptF Tryd.prog G26 zDp Tryd.f26
def zBc (n:Net) (zcf:Int) (zc0:(Sl Span)) (tot0:Tab) (fromt0:Tab) (zfA:Nat->List PV):St:=⟨[(6,zp 6 0),(7,zp 7 0),(8,zv 24),(26,zI (n.Nodes.toNat:Int)),(27,zI zcf)],[(6,.box 116 (zm (zam tot0))),(7,.box 116 (zm (zam fromt0))),(24,.vec 43 2 16 zc0.len zfA)],[]⟩
abbrev zG1 (K:List PA->Prop) (n:Net) (X:St->Prop) (P:Int->(Sl Span)->Tab->Tab->Bool) (S:Int->(Sl Span)->Tab->Tab->((Sl Span)×Int)):Prop:=∀ ⦃zcf:Int⦄ ⦃zc0:(Sl Span)⦄ ⦃tot0:Tab⦄ ⦃fromt0:Tab⦄ ⦃zfA:Nat->List PV⦄,P zcf zc0 tot0 fromt0=true->K (e26 (S zcf zc0 tot0 fromt0))->zfA=zg zaT zc0->X (zBc n zcf zc0 tot0 fromt0 zfA)
section
variable {K:List PA->Prop}{n:Net}{zcf:Int}{zc0:(Sl Span)}{tot0:Tab}{fromt0:Tab}{zfA:Nat->List PV}{X0:St->Prop}{P0:Int->(Sl Span)->Tab->Tab->Bool}{S0:Int->(Sl Span)->Tab->Tab->((Sl Span)×Int)}
def zhU (n:Net) (S0:Int->(Sl Span)->Tab->Tab->((Sl Span)×Int)) (zcf:Int) (zc0:(Sl Span)) (tot0:Tab) (fromt0:Tab):((Sl Span)×Int) :=
  (cond (decide (zcf < (n.Nodes.toNat : Int)))
 (S0 (w64 (zcf+(1:Int))) (⟨zc0.len,(setT zcf.toNat (⟨(w64 (0 - (tg 80 tot0 (0+zcf.toNat * 2+0)))),(tg 80 fromt0 (0+zcf.toNat * 2+0))⟩:Span) zc0.get)⟩:Sl Span) tot0 fromt0)
 (zc0,(0:Int)))
def zhV (n:Net) (P0:Int->(Sl Span)->Tab->Tab->Bool) (zcf:Int) (zc0:(Sl Span)) (tot0:Tab) (fromt0:Tab):Bool :=
  (cond (decide (zcf < (n.Nodes.toNat : Int)))
 (decide ((0≤zcf/\zcf < (40:Int))) &&
 (decide ((0≤zcf/\zcf < (40:Int))) &&
 (decide ((0≤zcf/\zcf < (zc0.len:Int))) &&
 (decide ((zcf.toNat < zc0.len)) &&
 (P0 (w64 (zcf+(1:Int))) (⟨zc0.len,(setT zcf.toNat (⟨(w64 (0 - (tg 80 tot0 (0+zcf.toNat * 2+0)))),(tg 80 fromt0 (0+zcf.toNat * 2+0))⟩:Span) zc0.get)⟩:Sl Span) tot0 fromt0)))))
 true)
def zgB (n:Net):Nat->Int->(Sl Span)->Tab->Tab->((Sl Span)×Int):=lpO (λ _ _ _ _=>default) (zhU n)
def zgC (n:Net):Nat->Int->(Sl Span)->Tab->Tab->Bool:=lpO (λ _ _ _ _=>false) (zhV n)
def zu9 (n:Net) (zcf:Int) (zc0:(Sl Span)) (tot0:Tab) (fromt0:Tab):((Sl Span)×Int):=zgB n Fuel zcf zc0 tot0 fromt0
def zpm (n:Net) (zcf:Int) (zc0:(Sl Span)) (tot0:Tab) (fromt0:Tab):Bool:=zgC n Fuel zcf zc0 tot0 fromt0
theorem zDq (hs:zpm n zcf zc0 tot0 fromt0=true) (hk:K (e26 (zu9 n zcf zc0 tot0 fromt0))) (zpn:zfA=zg zaT zc0):z26 (Wk K) [1,1,1,1,1,0,1,0] [] (zBc n zcf zc0 tot0 fromt0 zfA) :=
  zl (λ X=>z26 (Wk K) [1,1,1,1,1,0,1,0,0] [X]) (by kernel_rfl) λ X0 hX =>
  (show ∀ k, zG1 K n X0 (zgC n k) (zgB n k) from zeF _ _ (zhV n) (zhU n) (zG1 K n X0)
 (by intro _ _ _ _ _ hs;exact absurd hs Bool.false_ne_true)
 (by intro P0 S0 hX0 zcf zc0 tot0 fromt0 zfA hs hk zpn;subst zpn;exact hX _ (za2 (by kernel_rfl) (zc hs hk (λ hs hk=>(zaM hs λ hc hs=>And.intro hc (zaM hs λ hc hs=>And.intro hc (zaM hs λ hc hs=>And.intro hc (zaM hs λ hc hs=>And.intro hc (hX0 hs hk (ze9 (enc:=zaT) (i:=zcf.toNat) (k:=0) (f:=zc0.get) (new:=(zaT (⟨(w64 (0 - (tg 80 tot0 (0+zcf.toNat * 2+0)))),(tg 80 fromt0 (0+zcf.toNat * 2+0))⟩:Span))) (v:=(⟨(w64 (0 - (tg 80 tot0 (0+zcf.toNat * 2+0)))),(tg 80 fromt0 (0+zcf.toNat * 2+0))⟩:Span)) rfl rfl))))))) (λ hs hk=>((zgk hk):Wk K [.one (.sl zc0.len 2 (λ i=>zaT (zc0.get i))),.one (.int .i64 (0:Int))])))))) _ hs hk zpn
def s26 (n:Net):((Sl Span)×Int) :=
  (cond ((s74 n (⟨0, λ _ => default⟩ : (Sl Int))).2 == 0)
 (cond ((0:Int) != (0:Int))
 ((⟨0,λ _=>default⟩:(Sl Span)),(0:Int))
 (zu9 n (0:Int) (⟨n.Nodes.toNat,(λ _=>(⟨(0:Int),(0:Int)⟩:Span))⟩:Sl Span) (s75 (⟨(s74 n (⟨0,λ _=>default⟩:(Sl Int))).1.Net,((s74 n (⟨0,λ _=>default⟩:(Sl Int))).1.out)⟩:web) (0:Int)) (s76 (⟨(s74 n (⟨0,λ _=>default⟩:(Sl Int))).1.Net,((s74 n (⟨0,λ _=>default⟩:(Sl Int))).1.out)⟩:web) (0:Int))))
 (cond ((s74 n (⟨0, λ _ => default⟩ : (Sl Int))).2 != (0:Int))
 ((⟨0,λ _=>default⟩:(Sl Span)),(s74 n (⟨0,λ _=>default⟩:(Sl Int))).2)
 default))
def p26 (n:Net):Bool :=
  (cond ((s74 n (⟨0, λ _ => default⟩ : (Sl Int))).2 == 0)
 (decide ((p74 n (⟨0,λ _=>default⟩:(Sl Int))=true)) &&
 (cond ((0:Int) != (0:Int))
 true
 (decide ((p75 (⟨(s74 n (⟨0,λ _=>default⟩:(Sl Int))).1.Net,((s74 n (⟨0,λ _=>default⟩:(Sl Int))).1.out)⟩:web) (0:Int)=true)) &&
 (decide ((p76 (⟨(s74 n (⟨0,λ _=>default⟩:(Sl Int))).1.Net,((s74 n (⟨0,λ _=>default⟩:(Sl Int))).1.out)⟩:web) (0:Int)=true)) &&
 (decide ((0≤n.Nodes/\n.Nodes=n.Nodes/\n.Nodes≤1000000)) &&
 (zpm n (0:Int) (⟨n.Nodes.toNat,(λ _=>(⟨(0:Int),(0:Int)⟩:Span))⟩:Sl Span) (s75 (⟨(s74 n (⟨0,λ _=>default⟩:(Sl Int))).1.Net,((s74 n (⟨0,λ _=>default⟩:(Sl Int))).1.out)⟩:web) (0:Int)) (s76 (⟨(s74 n (⟨0,λ _=>default⟩:(Sl Int))).1.Net,((s74 n (⟨0,λ _=>default⟩:(Sl Int))).1.out)⟩:web) (0:Int))))))))
 (decide ((p74 n (⟨0,λ _=>default⟩:(Sl Int))=true)) &&
 (cond ((s74 n (⟨0, λ _ => default⟩ : (Sl Int))).2 != (0:Int))
 true
 false)))
end
theorem q26 (n:Net) (K:List PA->Prop) (hs:p26 n=true) (hk:K (e26 (s26 n))):vcFun Tryd.prog G26 zDp 26 [.agg (enc_24 n)] (Wk K) :=
  za2 (by kernel_rfl) (zc hs hk (λ hs hk=>(zaM hs λ hc hs=>And.intro (And.intro (zE enc_40 4 n.Ties.get) hc) (zc hs hk (λ hs hk=>((wk hk (zhm (.one (.nil _ _)) (zhm (.one (.rfl _)) znD))):Wk K [.one (.nils),.one (.int .i64 (0:Int))])) (λ hs hk=>(zaM hs λ hc hs=>And.intro (And.intro (zE enc_40 4 ((s74 n (⟨0,λ _=>default⟩:(Sl Int))).1.Net.Ties.get)) (And.intro (rfl:((false,1,false,[none]):MQ)=(false,1,false,[none])) hc)) (zaM hs λ hc hs=>And.intro (And.intro (zE enc_40 4 ((s74 n (⟨0,λ _=>default⟩:(Sl Int))).1.Net.Ties.get)) (And.intro (rfl:((false,1,false,[none]):MQ)=(false,1,false,[none])) hc)) (zaM hs λ hc hs=>And.intro hc (zDq hs hk rfl)))))))) (λ hs hk=>(zaM hs λ hc hs=>And.intro (And.intro (zE enc_40 4 n.Ties.get) hc) (zc hs hk (λ hs hk=>((wk hk (zhm (.one (.nil _ _)) (zhm (.one (.rfl _)) znD))):Wk K [.one (.nils),.one (.int .i64 ((s74 n (⟨0,λ _=>default⟩:(Sl Int))).2))])) (λ hs hk=>(absurd hs Bool.false_ne_true:False))))))
def zzW : List PA → COut
  | [.agg [.int .i64 zaf,.sl zae zay zad]]=>.det (IsE enc_40 4 zay zad/\p26 (⟨zaf,(⟨zae,zan zad⟩:(Sl Tie))⟩:Net)=true) [.one (.sl (((s26 (⟨zaf,(⟨zae,zan zad⟩:(Sl Tie))⟩:Net)).1).len) 2 (λ i=>zaT (((s26 (⟨zaf,(⟨zae,zan zad⟩:(Sl Tie))⟩:Net)).1).get i))),.one (.int .i64 ((s26 (⟨zaf,(⟨zae,zan zad⟩:(Sl Tie))⟩:Net)).2))]
  | _=>.no
theorem zG2:zav Tryd.prog 26:=⟨_,rfl,rfl,by kernel_rfl⟩
theorem zK4:Ok Tryd.prog 26 zzW:=zhz zJJ zG2 λ args K h=>by
  unfold zzW at h
  split at h
  · rename_i zaf zae zay zad
    obtain⟨⟨⟨rfl,zaq,rfl⟩,hs⟩,hk⟩:=h
    try rw[zal zaq] at hs
    try rw[zal zaq] at hk
    exact⟨_,zfs zgj _,(λ _ _=>[]),(λ _=>false),zDp,q26 (⟨zaf,(⟨zae,zaq⟩:(Sl Tie))⟩:Net) K hs hk⟩
  · exact h.elim
abbrev T32:Tabs:=Tabs.nil
theorem zJK:TabsOk Tryd.prog T32:=TabsOk.nil
abbrev G32:Ctrs:=csm T32 (λ _ _=>[]) (λ _=>false)
def zDr:Ann:=⟨26,[(0,zK [0,1] []),(1,zK [0,1,10] []),(2,zK [4] []),(3,zK [0,1,5] []),(4,zK [0,1,5,14] []),(5,zK [0,1,5] []),(6,zK [0,1,5,25] []),(7,zK [4] []),(8,zK [4] [])],
 [(4,zK [0,1,5] [])],
 [(3,zK [0,1] [])],
 [],[]⟩
abbrev R32:=Bool
abbrev e32 (r:R32):List PA:=[.one (.bool r)]
@[irreducible] def z32:=ptF Tryd.prog G32 zDr Tryd.f32
def zBd (a:(Sl Span)) (b:(Sl Span)) (iv1:Int):St:=⟨[(0,zS zaT 2 a),(1,zS zaT 2 b),(5,zI iv1)],[],[]⟩
abbrev zG3 (K:List PA->Prop) (a:(Sl Span)) (b:(Sl Span)) (X:St->Prop) (P:Int->Bool) (S:Int->Bool):Prop:=∀ ⦃iv1:Int⦄,P iv1=true->K (e32 (S iv1))->X (zBd a b iv1)
section
variable {K:List PA->Prop}{a:(Sl Span)}{b:(Sl Span)}{iv1:Int}{X1:St->Prop}{P1:Int->Bool}{S1:Int->Bool}
def zhW (a:(Sl Span)) (b:(Sl Span)) (S1:Int->Bool) (iv1:Int):Bool :=
  (cond (decide (iv1 < (a.len : Int)))
 (cond (!(match ((a.get iv1.toNat).Low == (b.get iv1.toNat).Low) with | true => (match ((a.get iv1.toNat).High == (b.get iv1.toNat).High) with | true => true | false => false) | false => false))
 false
 (S1 (w64 (iv1+(1:Int)))))
 true)
def zhX (a:(Sl Span)) (b:(Sl Span)) (P1:Int->Bool) (iv1:Int):Bool :=
  (cond (decide (iv1 < (a.len : Int)))
 (decide ((0≤iv1/\iv1 < (a.len:Int))) &&
 (decide ((0≤iv1/\iv1 < (b.len:Int))) &&
 (cond (!(match ((a.get iv1.toNat).Low == (b.get iv1.toNat).Low) with | true => (match ((a.get iv1.toNat).High == (b.get iv1.toNat).High) with | true => true | false => false) | false => false))
 true
 (P1 (w64 (iv1+(1:Int)))))))
 true)
def zhY (a:(Sl Span)) (b:(Sl Span)):Nat->Int->Bool:=lpO (λ _=>default) (zhW a b)
def zhZ (a:(Sl Span)) (b:(Sl Span)):Nat->Int->Bool:=lpO (λ _=>false) (zhX a b)
def zva (a:(Sl Span)) (b:(Sl Span)) (iv1:Int):Bool:=zhY a b Fuel iv1
def zvb (a:(Sl Span)) (b:(Sl Span)) (iv1:Int):Bool:=zhZ a b Fuel iv1
theorem zDs (hs:zvb a b iv1=true) (hk:K (e32 (zva a b iv1))):z32 K [1,1,0,1,0] [] (zBd a b iv1) :=
  zl (λ X=>z32 K [1,1,0,1,0,0] [X]) (by kernel_rfl) λ X1 hX =>
  (show ∀ k, zG3 K a b X1 (zhZ a b k) (zhY a b k) from zeF _ _ (zhX a b) (zhW a b) (zG3 K a b X1)
 (by intro _ hs;exact absurd hs Bool.false_ne_true)
 (by intro P1 S1 hX1 iv1 hs hk;exact hX _ (za2 (by kernel_rfl) (zc hs hk (λ hs hk=>(zaM hs λ hc hs=>And.intro hc (zaM hs λ hc hs=>And.intro hc (zc hs hk (λ hs hk=>hk) (λ hs hk=>(hX1 hs hk)))))) (λ hs hk=>hk))))) _ hs hk
def zvc (a:(Sl Span)) (b:(Sl Span)):Bool :=
  (zva a b (0:Int))
def zvd (a:(Sl Span)) (b:(Sl Span)):Bool :=
  (zvb a b (0:Int))
theorem zDt (hs:zvd a b=true) (hk:K (e32 (zvc a b))):z32 K [1,1] [] ⟨[(0,zS zaT 2 a),(1,zS zaT 2 b)],[],[]⟩:=za2 (by kernel_rfl) (zDs hs hk)
def s32 (a:(Sl Span)) (b:(Sl Span)):Bool :=
  (cond ((a.len : Int) != (b.len : Int))
 false
 (zvc a b))
def p32 (a:(Sl Span)) (b:(Sl Span)):Bool :=
  (cond ((a.len : Int) != (b.len : Int))
 true
 (zvd a b))
end
theorem q32 (a:(Sl Span)) (b:(Sl Span)) (K:List PA->Prop) (hs:p32 a b=true) (hk:K (e32 (s32 a b))):vcFun Tryd.prog G32 zDr 32 [.one (.sl a.len 2 (λ i=>zaT (a.get i))),.one (.sl b.len 2 (λ i=>zaT (b.get i)))] K :=
  za2 (by kernel_rfl) (zc hs hk (λ hs hk=>hk) (λ hs hk=>(zDt hs hk)))
def zzX : List PA → COut
  | [.one (.sl zfB zk9 zfC),.one (.sl zgc zmM zf3)]=>.det (IsE zaT 2 zk9 zfC/\IsE zaT 2 zmM zf3/\p32 (⟨zfB,zft zfC⟩:(Sl Span)) (⟨zgc,zft zf3⟩:(Sl Span))=true) [.one (.bool (s32 (⟨zfB,zft zfC⟩:(Sl Span)) (⟨zgc,zft zf3⟩:(Sl Span))))]
  | _=>.no
theorem zG4:zav Tryd.prog 32:=⟨_,rfl,rfl,by kernel_rfl⟩
theorem ok32:Ok Tryd.prog 32 zzX:=zbk zJK zG4 λ args K h=>by
  unfold zzX at h
  split at h
  · rename_i zfB zk9 zfC zgc zmM zf3
    obtain⟨⟨⟨rfl,zh0,rfl⟩,⟨rfl,zj4,rfl⟩,hs⟩,hk⟩:=h
    try rw[zeV zh0] at hs
    try rw[zeV zh0] at hk
    try rw[zeV zj4] at hs
    try rw[zeV zj4] at hk
    exact⟨(λ _ _=>[]),(λ _=>false),zDr,q32 (⟨zfB,zh0⟩:(Sl Span)) (⟨zgc,zj4⟩:(Sl Span)) K hs hk⟩
  · exact h.elim
abbrev zK5:Tabs:=(((Tabs.nil.addF 93 znF).addF 104 znI).addI 110 znH)
theorem zG5:TabsOk Tryd.prog zK5:=(((TabsOk.nil.addF zFP).addF zDa).addI zsM)
abbrev zI7:Ctrs:=csm zK5 (λ _ _=>[]) (λ _=>false)
def znJ:Ann:=⟨91,[(0,zK [0,2,4] [4]),(1,zK [0,2,4,7] [4,7,15]),(2,zK [0,2,4,7,17,18] [4,7,15]),(3,zK [0,2,4,7,17,18,19] [4,7,15]),(4,zK [0,2,4,7,8,17,18] [4,7,15]),(5,zK [0,2,4,7,8,17,18,21] [4,7,15]),(6,zK [0,2,4,7,8,17,18,21,22] [4,7,15]),(7,zK [0,2,4,7,8,9,17,18,21] [4,7,15]),(8,zK [0,2,4,7,8,17,18,21] [4,7,15]),(9,zK [0,2,4,7,8,17,18,21] [4,7,15]),(10,zK [0,2,4,7,17,18] [4,7,15]),(11,zK [0,2,4,7] [4,7,15]),(12,zK [0,2,4,7,10] [4,7,10,15]),(13,zK [0,2,4,7,10,39] [4,7,10,15]),(14,zK [0,2,4,7,10] [4,7,10,15]),(15,zK [0,2,4,7,10,43] [4,7,10,15]),(16,zK [0,2,4,7,10,11,43] [4,7,10,11,15]),(17,zK [0,2,4,7,10,11,12,43] [4,7,10,11,12,15]),(18,zK [0,2,4,7,10,11,12,43,67] [4,7,10,11,12,15]),(19,zK [0,2,4,7,10,43] [4,7,10,15]),(20,zK [0,2,4,7,89] [4,7,15]),(21,zK [0,2,4,7,10] [4,7,10,15]),(22,zK [6] [15])],
 [(3,zK [0,2,4,7,17,18] [4,7,15]),(6,zK [0,2,4,7,8,17,18,21] [4,7,15]),(13,zK [0,2,4,7,10] [4,7,10,15]),(16,zK [0,2,4,7,10,43] [4,7,10,15])],
 [(11,zK [0,2,4,7] [4,7,15])],
 [],[]⟩
abbrev zLE:=(Sl Tab)
abbrev zyN (r:zLE):List PA:=[.one (.sl r.len 80 (λ i=>zam (r.get i)))]
@[irreducible] def z106:=ptF Tryd.prog zI7 znJ Tryd.f106
@[irreducible] def x106:=exF Tryd.prog zI7 znJ Tryd.f106
@[irreducible] def y106:=rnF Tryd.prog zI7 znJ Tryd.f106
def zve (w:web) (node:Int) (uses:Int) (zd5:Int) (zd6:(Sl Tab)) (zfD:Nat->List PV):St:=⟨[(0,zP (.fp (zaB w) 0)),(2,zI uses),(4,zp 4 0),(7,zp 7 0),(17,zI ((w64 (uses+(1:Int))).toNat:Int)),(18,zI zd5)],[(4,.box 3 [zi node]),(7,.box 159 [.vec 15]),(15,.vec 116 80 640 zd6.len zfD)],[]⟩
abbrev zvf (K:List PA->Prop) (w:web) (node:Int) (uses:Int) (X:St->Prop) (P:Int->(Sl Tab)->Bool) (S:Int->(Sl Tab)->(Sl Tab)):Prop:=∀ ⦃zd5:Int⦄ ⦃zd6:(Sl Tab)⦄ ⦃zfD:Nat->List PV⦄,P zd5 zd6=true->K (zyN (S zd5 zd6))->zfD=zg zam zd6->X (zve w node uses zd5 zd6 zfD)
def zvg (w:web) (node:Int) (uses:Int) (iv1:Int) (zcZ:Int) (zdl:Int) (zbq:(Sl Tab)) (zcr:Nat->List PV):St:=⟨[(0,zP (.fp (zaB w) 0)),(2,zI uses),(4,zp 4 0),(7,zp 7 0),(8,zI iv1),(17,zI ((w64 (uses+(1:Int))).toNat:Int)),(18,zI zcZ),(21,zI zdl)],[(4,.box 3 [zi node]),(7,.box 159 [.vec 15]),(15,.vec 116 80 640 zbq.len zcr)],[]⟩
abbrev zBe (K:List PA->Prop) (w:web) (node:Int) (uses:Int) (X:St->Prop) (P:Int->Int->Int->(Sl Tab)->Bool) (S:Int->Int->Int->(Sl Tab)->(Sl Tab)):Prop:=∀ ⦃iv1:Int⦄ ⦃zcZ:Int⦄ ⦃zdl:Int⦄ ⦃zbq:(Sl Tab)⦄ ⦃zcr:Nat->List PV⦄,P iv1 zcZ zdl zbq=true->K (zyN (S iv1 zcZ zdl zbq))->zcr=zg zam zbq->X (zvg w node uses iv1 zcZ zdl zbq zcr)
def zvh (w:web) (node:Int) (uses:Int) (kv3:Int) (zbS:(Sl Tab)) (zcs:Nat->List PV):St:=⟨[(0,zP (.fp (zaB w) 0)),(2,zI uses),(4,zp 4 0),(7,zp 7 0),(10,zp 10 0)],[(4,.box 3 [zi node]),(7,.box 159 [.vec 15]),(10,.box 3 [zi kv3]),(15,.vec 116 80 640 zbS.len zcs)],[]⟩
abbrev zvi (K:List PA->Prop) (w:web) (node:Int) (uses:Int) (X:St->Prop) (P:Int->(Sl Tab)->Bool) (S:Int->(Sl Tab)->(Sl Tab)):Prop:=∀ ⦃kv3:Int⦄ ⦃zbS:(Sl Tab)⦄ ⦃zcs:Nat->List PV⦄,P kv3 zbS=true->K (zyN (S kv3 zbS))->zcs=zg zam zbS->X (zvh w node uses kv3 zbS zcs)
def zpo (w:web) (node:Int) (uses:Int) (kv4:Int) (zaK:(Sl Tab)) (zcb:Nat->List PV):St:=⟨[(0,zP (.fp (zaB w) 0)),(2,zI uses),(4,zp 4 0),(7,zp 7 0),(10,zp 10 0),(43,zP (.fn 110 [] [.fp [.fp (zaB w) 0] 0]))],[(4,.box 3 [zi node]),(7,.box 159 [.vec 15]),(10,.box 3 [zi kv4]),(15,.vec 116 80 640 zaK.len zcb)],[]⟩
abbrev zBf (K:List PA->Prop) (w:web) (node:Int) (uses:Int) (X:St->Prop) (P:Int->(Sl Tab)->Bool) (S:Int->(Sl Tab)->(Sl Tab)):Prop:=∀ ⦃kv4:Int⦄ ⦃zaK:(Sl Tab)⦄ ⦃zcb:Nat->List PV⦄,P kv4 zaK=true->K (zyN (S kv4 zaK))->zcb=zg zam zaK->X (zpo w node uses kv4 zaK zcb)
section
variable {K:List PA->Prop}{w:web}{node:Int}{uses:Int}{zd5:Int}{zd6:(Sl Tab)}{zfD:Nat->List PV}{X0:St->Prop}{P0:Int->(Sl Tab)->Bool}{S0:Int->(Sl Tab)->(Sl Tab)}{iv1:Int}{zcZ:Int}{zdl:Int}{zbq:(Sl Tab)}{zcr:Nat->List PV}{X1:St->Prop}{P1:Int->Int->Int->(Sl Tab)->Bool}{S1:Int->Int->Int->(Sl Tab)->(Sl Tab)}{zcK:(Sl Tab)}{zj5:Nat->List PV}{kv3:Int}{zbS:(Sl Tab)}{zcs:Nat->List PV}{X3:St->Prop}{P3:Int->(Sl Tab)->Bool}{S3:Int->(Sl Tab)->(Sl Tab)}{kv4:Int}{zaK:(Sl Tab)}{zcb:Nat->List PV}
def zzY (S3:Int->(Sl Tab)->(Sl Tab)) (w:web) (node:Int) (uses:Int) (kv4:Int) (zaK:(Sl Tab)):(Sl Tab) :=
  (S3 (w64 (kv4+(1:Int))) zaK)
def zzZ (P3:Int->(Sl Tab)->Bool) (w:web) (node:Int) (uses:Int) (kv4:Int) (zaK:(Sl Tab)):Bool :=
  (P3 (w64 (kv4+(1:Int))) zaK)
def zqX (S3:Int->(Sl Tab)->(Sl Tab)) (w:web) (node:Int) (uses:Int) (y4:step) (S4:Int->(Sl Tab)->(Sl Tab)) (kv4:Int) (zaK:(Sl Tab)):(Sl Tab) :=
  (cond (decide (y4.from_ ≥ node))
 (cond (decide (y4.to ≥ node))
 (cond (!(nvr (tg 80 (zaK.get ((w64 (kv4 - (1:Int))).toNat)) (0 + y4.to.toNat * 2 + 0)) (tg 80 (zaK.get ((w64 (kv4 - (1:Int))).toNat)) (0 + y4.to.toNat * 2 + 0 + 1))))
 (S4 kv4 (⟨zaK.len,(setT kv4.toNat (ts 80 (zaK.get kv4.toNat) (0+y4.from_.toNat * 2+0) [(zcR (⟨(tL (zaK.get kv4.toNat) y4.from_),(tU (zaK.get kv4.toNat) y4.from_)⟩:far) (⟨1,λ _=>(⟨(w64 ((tg 80 (zaK.get ((w64 (kv4 - (1:Int))).toNat)) (0+y4.to.toNat * 2+0))+y4.length)),(0:Int)⟩:far)⟩:(Sl far))).length,(zcR (⟨(tL (zaK.get kv4.toNat) y4.from_),(tU (zaK.get kv4.toNat) y4.from_)⟩:far) (⟨1,λ _=>(⟨(w64 ((tg 80 (zaK.get ((w64 (kv4 - (1:Int))).toNat)) (0+y4.to.toNat * 2+0))+y4.length)),(0:Int)⟩:far)⟩:(Sl far))).uses]) zaK.get)⟩:Sl Tab))
 (S4 kv4 zaK))
 (S4 kv4 zaK))
 (S4 kv4 zaK))
def zqY (P3:Int->(Sl Tab)->Bool) (w:web) (node:Int) (uses:Int) (y4:step) (P4:Int->(Sl Tab)->Bool) (kv4:Int) (zaK:(Sl Tab)):Bool :=
  (decide ((0≤(w64 (kv4 - (1:Int)))/\(w64 (kv4 - (1:Int))) < (zaK.len:Int))) &&
 (decide ((0≤y4.to/\y4.to < (40:Int))) &&
 (decide (((w64 (kv4 - (1:Int))).toNat < zaK.len)) &&
 (cond (decide (y4.from_ ≥ node))
 (cond (decide (y4.to ≥ node))
 (cond (!(nvr (tg 80 (zaK.get ((w64 (kv4 - (1:Int))).toNat)) (0 + y4.to.toNat * 2 + 0)) (tg 80 (zaK.get ((w64 (kv4 - (1:Int))).toNat)) (0 + y4.to.toNat * 2 + 0 + 1))))
 (decide ((0≤kv4/\kv4 < (zaK.len:Int))) &&
 (decide ((0≤y4.from_/\y4.from_ < (40:Int))) &&
 (decide ((kv4.toNat < zaK.len)) &&
 (decide ((zzV (⟨(tL (zaK.get kv4.toNat) y4.from_),(tU (zaK.get kv4.toNat) y4.from_)⟩:far) (⟨1,λ _=>(⟨(w64 ((tg 80 (zaK.get ((w64 (kv4 - (1:Int))).toNat)) (0+y4.to.toNat * 2+0))+y4.length)),(0:Int)⟩:far)⟩:(Sl far))=true)) &&
 (decide ((0≤kv4/\kv4 < (zaK.len:Int))) &&
 (decide ((0≤y4.from_/\y4.from_ < (40:Int))) &&
 (decide ((kv4.toNat < zaK.len)) &&
 (P4 kv4 (⟨zaK.len,(setT kv4.toNat (ts 80 (zaK.get kv4.toNat) (0+y4.from_.toNat * 2+0) [(zcR (⟨(tL (zaK.get kv4.toNat) y4.from_),(tU (zaK.get kv4.toNat) y4.from_)⟩:far) (⟨1,λ _=>(⟨(w64 ((tg 80 (zaK.get ((w64 (kv4 - (1:Int))).toNat)) (0+y4.to.toNat * 2+0))+y4.length)),(0:Int)⟩:far)⟩:(Sl far))).length,(zcR (⟨(tL (zaK.get kv4.toNat) y4.from_),(tU (zaK.get kv4.toNat) y4.from_)⟩:far) (⟨1,λ _=>(⟨(w64 ((tg 80 (zaK.get ((w64 (kv4 - (1:Int))).toNat)) (0+y4.to.toNat * 2+0))+y4.length)),(0:Int)⟩:far)⟩:(Sl far))).uses]) zaK.get)⟩:Sl Tab)))))))))
 (P4 kv4 zaK))
 (P4 kv4 zaK))
 (P4 kv4 zaK)))))
def zqZ (S3:Int->(Sl Tab)->(Sl Tab)) (w:web) (node:Int) (uses:Int):List step->Int->(Sl Tab)->(Sl Tab):=lpR (zzY S3 w node uses) (zqX S3 w node uses)
def zq0 (P3:Int->(Sl Tab)->Bool) (w:web) (node:Int) (uses:Int):List step->Int->(Sl Tab)->Bool:=lpR (zzZ P3 w node uses) (zqY P3 w node uses)
def zq1 (S3:Int->(Sl Tab)->(Sl Tab)) (w:web) (node:Int) (uses:Int) (kv4:Int) (zaK:(Sl Tab)):(Sl Tab):=zqZ S3 w node uses (zj3 w) kv4 zaK
def zq2 (P3:Int->(Sl Tab)->Bool) (w:web) (node:Int) (uses:Int) (kv4:Int) (zaK:(Sl Tab)):Bool:=decide ((zsZ w=true)) && zq0 P3 w node uses (zj3 w) kv4 zaK
theorem zz0 (hX3:zvi K w node uses X3 P3 S3) (hs:zq2 P3 w node uses kv4 zaK=true) (hk:K (zyN (zq1 S3 w node uses kv4 zaK))) (zeZ:zcb=zg zam zaK):z106 K [1,1,1,1,0,1,0,0,1,0,0,1,0] [X3] (zpo w node uses kv4 zaK zcb) :=
  zaM hs λ hc hs=>zr (enc:=(λ y:step=>[.agg (zaC y)])) (ys:=zj3 w) (g:=(zpo w node uses kv4 zaK zcb)) (x106 K [1,1,1,1,0,1,0,0,1,0,0,1,0] [X3]) (y106 K [1,1,1,1,0,1,0,0,1,0,0,1,0] [X3]) (by kernel_rfl) (And.intro (zE enc_40 4 w.Net.Ties.get) (And.intro (rfl:((false,1,false,[none]):MQ)=(false,1,false,[none])) hc)) λ X4 hE hR =>
  (show ∀ l : List step, zBf K w node uses (X4 (l.map (λ y : step => [.agg (zaC y)]))) (zq0 P3 w node uses l) (zqZ S3 w node uses l) from zri (X := X4) (enc := (λ y : step => [.agg (zaC y)])) _ _ (zqY P3 w node uses) (zqX S3 w node uses) (λ Z P S => zBf K w node uses Z P S)
 (by intro kv4 zaK zcb hs hk zeZ;subst zeZ;exact hE _ (za2 (by kernel_rfl) (hX3 hs hk rfl)))
 (by intro y4 rest P4 S4 hX4 kv4 zaK zcb hs hk zeZ;subst zeZ;exact hR _ rest _ (za2 (by kernel_rfl) (zaM hs λ hc hs=>And.intro hc (zaM hs λ hc hs=>And.intro hc (zaM hs λ hc hs=>And.intro hc (zc hs hk (λ hs hk=>(zc hs hk (λ hs hk=>(zc hs hk (λ hs hk=>(zaM hs λ hc hs=>And.intro hc (zaM hs λ hc hs=>And.intro hc (zaM hs λ hc hs=>And.intro hc (zaM hs λ hc hs=>And.intro (And.intro (zuC:IsE zca 2 2 (λ _=>(zca (⟨(w64 ((tg 80 (zaK.get ((w64 (kv4 - (1:Int))).toNat)) (0+y4.to.toNat * 2+0))+y4.length)),(0:Int)⟩:far)))) hc) (zaM hs λ hc hs=>And.intro hc (zaM hs λ hc hs=>And.intro hc (zaM hs λ hc hs=>And.intro hc (hX4 hs hk (ze9 (enc:=zam) (i:=kv4.toNat) (k:=0) (f:=zaK.get) (new:=(zam (ts 80 (zaK.get kv4.toNat) (0+y4.from_.toNat * 2+0) [(zcR (⟨(tL (zaK.get kv4.toNat) y4.from_),(tU (zaK.get kv4.toNat) y4.from_)⟩:far) (⟨1,λ _=>(⟨(w64 ((tg 80 (zaK.get ((w64 (kv4 - (1:Int))).toNat)) (0+y4.to.toNat * 2+0))+y4.length)),(0:Int)⟩:far)⟩:(Sl far))).length,(zcR (⟨(tL (zaK.get kv4.toNat) y4.from_),(tU (zaK.get kv4.toNat) y4.from_)⟩:far) (⟨1,λ _=>(⟨(w64 ((tg 80 (zaK.get ((w64 (kv4 - (1:Int))).toNat)) (0+y4.to.toNat * 2+0))+y4.length)),(0:Int)⟩:far)⟩:(Sl far))).uses]))) (v:=(ts 80 (zaK.get kv4.toNat) (0+y4.from_.toNat * 2+0) [(zcR (⟨(tL (zaK.get kv4.toNat) y4.from_),(tU (zaK.get kv4.toNat) y4.from_)⟩:far) (⟨1,λ _=>(⟨(w64 ((tg 80 (zaK.get ((w64 (kv4 - (1:Int))).toNat)) (0+y4.to.toNat * 2+0))+y4.length)),(0:Int)⟩:far)⟩:(Sl far))).length,(zcR (⟨(tL (zaK.get kv4.toNat) y4.from_),(tU (zaK.get kv4.toNat) y4.from_)⟩:far) (⟨1,λ _=>(⟨(w64 ((tg 80 (zaK.get ((w64 (kv4 - (1:Int))).toNat)) (0+y4.to.toNat * 2+0))+y4.length)),(0:Int)⟩:far)⟩:(Sl far))).uses])) rfl zl0)))))))))) (λ hs hk=>(hX4 hs hk rfl)))) (λ hs hk=>(hX4 hs hk rfl)))) (λ hs hk=>(hX4 hs hk rfl))))))))) _ hs hk zeZ
def zq3 (w:web) (node:Int) (uses:Int) (S3:Int->(Sl Tab)->(Sl Tab)) (kv3:Int) (zbS:(Sl Tab)):(Sl Tab) :=
  (cond (decide (kv3 ≤ uses))
 (zq1 S3 w node uses kv3 zbS)
 zbS)
def zq4 (w:web) (node:Int) (uses:Int) (P3:Int->(Sl Tab)->Bool) (kv3:Int) (zbS:(Sl Tab)):Bool :=
  (cond (decide (kv3 ≤ uses))
 (zq2 P3 w node uses kv3 zbS)
 true)
def zq5 (w:web) (node:Int) (uses:Int):Nat->Int->(Sl Tab)->(Sl Tab):=lpO (λ _ _=>default) (zq3 w node uses)
def zq6 (w:web) (node:Int) (uses:Int):Nat->Int->(Sl Tab)->Bool:=lpO (λ _ _=>false) (zq4 w node uses)
def zq7 (w:web) (node:Int) (uses:Int) (kv3:Int) (zbS:(Sl Tab)):(Sl Tab):=zq5 w node uses Fuel kv3 zbS
def zq8 (w:web) (node:Int) (uses:Int) (kv3:Int) (zbS:(Sl Tab)):Bool:=zq6 w node uses Fuel kv3 zbS
theorem zz1 (hs:zq8 w node uses kv3 zbS=true) (hk:K (zyN (zq7 w node uses kv3 zbS))) (zgD:zcs=zg zam zbS):z106 K [1,1,1,1,0,1,0] [] (zvh w node uses kv3 zbS zcs) :=
  zl (λ X=>z106 K [1,1,1,1,0,1,0,0] [X]) (by kernel_rfl) λ X3 hX =>
  (show ∀ k, zvi K w node uses X3 (zq6 w node uses k) (zq5 w node uses k) from zeF _ _ (zq4 w node uses) (zq3 w node uses) (zvi K w node uses X3)
 (by intro _ _ _ hs;exact absurd hs Bool.false_ne_true)
 (by intro P3 S3 hX3 kv3 zbS zcs hs hk zgD;subst zgD;exact hX _ (za2 (by kernel_rfl) (zc hs hk (λ hs hk=>(And.intro (And.intro (zE enc_40 4 w.Net.Ties.get) (rfl:((false,1,false,[none]):MQ)=(false,1,false,[none]))) (zz0 hX3 hs hk rfl))) (λ hs hk=>hk))))) _ hs hk zgD
def zq9 (w:web) (node:Int) (uses:Int) (zcK:(Sl Tab)):(Sl Tab) :=
  (zq7 w node uses (1:Int) (⟨zcK.len,(setT 0 (ts 80 (zcK.get 0) (0+node.toNat * 2+0) [(0:Int),(0:Int)]) zcK.get)⟩:Sl Tab))
def zra (w:web) (node:Int) (uses:Int) (zcK:(Sl Tab)):Bool :=
  (decide ((0≤(0:Int)/\(0:Int) < (zcK.len:Int))) &&
 (decide ((0≤node/\node < (40:Int))) &&
 (decide ((0 < zcK.len)) &&
 (zq8 w node uses (1:Int) (⟨zcK.len,(setT 0 (ts 80 (zcK.get 0) (0+node.toNat * 2+0) [(0:Int),(0:Int)]) zcK.get)⟩:Sl Tab)))))
theorem zz2 (hs:zra w node uses zcK=true) (hk:K (zyN (zq9 w node uses zcK))) (zpp:zj5=zg zam zcK):z106 K [1,1,1] [] ⟨[(0,zP (.fp (zaB w) 0)),(2,zI uses),(4,zp 4 0),(7,zp 7 0)],[(4,.box 3 [zi node]),(7,.box 159 [.vec 15]),(15,.vec 116 80 640 zcK.len zj5)],[]⟩:=by subst zpp;exact za2 (by kernel_rfl) (zaM hs λ hc hs=>And.intro hc (zaM hs λ hc hs=>And.intro hc (zaM hs λ hc hs=>And.intro hc (zz1 hs hk (ze9 (enc:=zam) (i:=0) (k:=0) (f:=zcK.get) (new:=(zam (ts 80 (zcK.get 0) (0+node.toNat * 2+0) [(0:Int),(0:Int)]))) (v:=(ts 80 (zcK.get 0) (0+node.toNat * 2+0) [(0:Int),(0:Int)])) rfl zl0)))))
def zrb (S0:Int->(Sl Tab)->(Sl Tab)) (w:web) (node:Int) (uses:Int) (S1:Int->Int->Int->(Sl Tab)->(Sl Tab)) (iv1:Int) (zcZ:Int) (zdl:Int) (zbq:(Sl Tab)):(Sl Tab) :=
  (cond (decide (zdl < (40:Int)))
 (S1 iv1 zcZ (w64 (zdl+(1:Int))) (⟨zbq.len,(setT iv1.toNat (ts 80 (zbq.get iv1.toNat) (0+zdl.toNat * 2+0) [(1000000000000:Int),(0:Int)]) zbq.get)⟩:Sl Tab))
 (S0 (w64 (zcZ+(1:Int))) zbq))
def zrd (P0:Int->(Sl Tab)->Bool) (w:web) (node:Int) (uses:Int) (P1:Int->Int->Int->(Sl Tab)->Bool) (iv1:Int) (zcZ:Int) (zdl:Int) (zbq:(Sl Tab)):Bool :=
  (cond (decide (zdl < (40:Int)))
 (decide ((0≤iv1/\iv1 < (zbq.len:Int))) &&
 (decide ((0≤zdl/\zdl < (40:Int))) &&
 (decide ((iv1.toNat < zbq.len)) &&
 (P1 iv1 zcZ (w64 (zdl+(1:Int))) (⟨zbq.len,(setT iv1.toNat (ts 80 (zbq.get iv1.toNat) (0+zdl.toNat * 2+0) [(1000000000000:Int),(0:Int)]) zbq.get)⟩:Sl Tab)))))
 (P0 (w64 (zcZ+(1:Int))) zbq))
def zre (S0:Int->(Sl Tab)->(Sl Tab)) (w:web) (node:Int) (uses:Int):Nat->Int->Int->Int->(Sl Tab)->(Sl Tab):=lpO (λ _ _ _ _=>default) (zrb S0 w node uses)
def zrf (P0:Int->(Sl Tab)->Bool) (w:web) (node:Int) (uses:Int):Nat->Int->Int->Int->(Sl Tab)->Bool:=lpO (λ _ _ _ _=>false) (zrd P0 w node uses)
def zrg (S0:Int->(Sl Tab)->(Sl Tab)) (w:web) (node:Int) (uses:Int) (iv1:Int) (zcZ:Int) (zdl:Int) (zbq:(Sl Tab)):(Sl Tab):=zre S0 w node uses Fuel iv1 zcZ zdl zbq
def zrh (P0:Int->(Sl Tab)->Bool) (w:web) (node:Int) (uses:Int) (iv1:Int) (zcZ:Int) (zdl:Int) (zbq:(Sl Tab)):Bool:=zrf P0 w node uses Fuel iv1 zcZ zdl zbq
theorem zz3 (hX0:zvf K w node uses X0 P0 S0) (hs:zrh P0 w node uses iv1 zcZ zdl zbq=true) (hk:K (zyN (zrg S0 w node uses iv1 zcZ zdl zbq))) (zgE:zcr=zg zam zbq):z106 K [1,1,0,1,0,0,1,1,0,0,1,1,0] [X0] (zvg w node uses iv1 zcZ zdl zbq zcr) :=
  zl (λ X=>z106 K [1,1,0,1,0,0,1,1,0,0,1,1,0,0] [X0,X]) (by kernel_rfl) λ X1 hX =>
  (show ∀ k, zBe K w node uses X1 (zrf P0 w node uses k) (zre S0 w node uses k) from zeF _ _ (zrd P0 w node uses) (zrb S0 w node uses) (zBe K w node uses X1)
 (by intro _ _ _ _ _ hs;exact absurd hs Bool.false_ne_true)
 (by intro P1 S1 hX1 iv1 zcZ zdl zbq zcr hs hk zgE;subst zgE;exact hX _ (za2 (by kernel_rfl) (zc hs hk (λ hs hk=>(zaM hs λ hc hs=>And.intro hc (zaM hs λ hc hs=>And.intro hc (zaM hs λ hc hs=>And.intro hc (hX1 hs hk (ze9 (enc:=zam) (i:=iv1.toNat) (k:=0) (f:=zbq.get) (new:=(zam (ts 80 (zbq.get iv1.toNat) (0+zdl.toNat * 2+0) [(1000000000000:Int),(0:Int)]))) (v:=(ts 80 (zbq.get iv1.toNat) (0+zdl.toNat * 2+0) [(1000000000000:Int),(0:Int)])) rfl zl0)))))) (λ hs hk=>(hX0 hs hk rfl)))))) _ hs hk zgE
def zrj (w:web) (node:Int) (uses:Int) (S0:Int->(Sl Tab)->(Sl Tab)) (zd5:Int) (zd6:(Sl Tab)):(Sl Tab) :=
  (cond (decide (zd5 < ((w64 (uses + (1:Int))).toNat : Int)))
 (zrg S0 w node uses zd5 zd5 (0:Int) zd6)
 (zq9 w node uses zd6))
def zrk (w:web) (node:Int) (uses:Int) (P0:Int->(Sl Tab)->Bool) (zd5:Int) (zd6:(Sl Tab)):Bool :=
  (cond (decide (zd5 < ((w64 (uses + (1:Int))).toNat : Int)))
 (zrh P0 w node uses zd5 zd5 (0:Int) zd6)
 (zra w node uses zd6))
def zrl (w:web) (node:Int) (uses:Int):Nat->Int->(Sl Tab)->(Sl Tab):=lpO (λ _ _=>default) (zrj w node uses)
def zrm (w:web) (node:Int) (uses:Int):Nat->Int->(Sl Tab)->Bool:=lpO (λ _ _=>false) (zrk w node uses)
def zrn (w:web) (node:Int) (uses:Int) (zd5:Int) (zd6:(Sl Tab)):(Sl Tab):=zrl w node uses Fuel zd5 zd6
def zro (w:web) (node:Int) (uses:Int) (zd5:Int) (zd6:(Sl Tab)):Bool:=zrm w node uses Fuel zd5 zd6
theorem zz4 (hs:zro w node uses zd5 zd6=true) (hk:K (zyN (zrn w node uses zd5 zd6))) (zpq:zfD=zg zam zd6):z106 K [1,1,0,1,0] [] (zve w node uses zd5 zd6 zfD) :=
  zl (λ X=>z106 K [1,1,0,1,0,0] [X]) (by kernel_rfl) λ X0 hX =>
  (show ∀ k, zvf K w node uses X0 (zrm w node uses k) (zrl w node uses k) from zeF _ _ (zrk w node uses) (zrj w node uses) (zvf K w node uses X0)
 (by intro _ _ _ hs;exact absurd hs Bool.false_ne_true)
 (by intro P0 S0 hX0 zd5 zd6 zfD hs hk zpq;subst zpq;exact hX _ (za2 (by kernel_rfl) (zc hs hk (λ hs hk=>(zz3 hX0 hs hk rfl)) (λ hs hk=>(zz2 hs hk rfl)))))) _ hs hk zpq
def zDu (w:web) (node:Int) (uses:Int):(Sl Tab) :=
  (zrn w node uses (0:Int) (⟨(w64 (uses+(1:Int))).toNat,(λ _=>(λ _=>(0:Int)))⟩:Sl Tab))
def zJL (w:web) (node:Int) (uses:Int):Bool :=
  (decide ((0≤(w64 (uses+(1:Int)))/\(w64 (uses+(1:Int)))=(w64 (uses+(1:Int)))/\(w64 (uses+(1:Int)))≤1000000)) &&
 (zro w node uses (0:Int) (⟨(w64 (uses+(1:Int))).toNat,(λ _=>(λ _=>(0:Int)))⟩:Sl Tab)))
end
theorem zLF (w:web) (node:Int) (uses:Int) (K:List PA->Prop) (hs:zJL w node uses=true) (hk:K (zyN (zDu w node uses))):vcFun Tryd.prog zI7 znJ 106 [.one (.fp (zaB w) 0),.one (.int .i64 node),.one (.int .i64 uses)] K :=
  za2 (by kernel_rfl) (zaM hs λ hc hs=>And.intro hc (zz4 hs hk rfl))
def zvj : List PA → COut
  | [.one (.fp [.int .i64 zak,.sl zai zaA zaj,.fm za6 zaG zaH] 0),.one (.int .i64 a1),.one (.int .i64 a2)]=>.det (IsE enc_40 4 zaA zaj/\za6=(false,1,false,[none])/\zJL (⟨(⟨zak,(⟨zai,zan zaj⟩:(Sl Tie))⟩:Net),(⟨zaG,zaH⟩:Mp)⟩:web) a1 a2=true) [.one (.sl ((zDu (⟨(⟨zak,(⟨zai,zan zaj⟩:(Sl Tie))⟩:Net),(⟨zaG,zaH⟩:Mp)⟩:web) a1 a2).len) 80 (λ i=>zam ((zDu (⟨(⟨zak,(⟨zai,zan zaj⟩:(Sl Tie))⟩:Net),(⟨zaG,zaH⟩:Mp)⟩:web) a1 a2).get i)))]
  | _=>.no
theorem zDv:zav Tryd.prog 106:=⟨_,rfl,rfl,by kernel_rfl⟩
theorem zJM:Ok Tryd.prog 106 zvj:=zbk zG5 zDv λ args K h=>by
  unfold zvj at h
  split at h
  · rename_i zak zai zaA zaj za6 zaG zaH a1 a2
    obtain⟨⟨⟨rfl,zat,rfl⟩,rfl,hs⟩,hk⟩:=h
    try rw[zal zat] at hs
    try rw[zal zat] at hk
    exact⟨(λ _ _=>[]),(λ _=>false),znJ,zLF (⟨(⟨zak,(⟨zai,zat⟩:(Sl Tie))⟩:Net),(⟨zaG,zaH⟩:Mp)⟩:web) a1 a2 K hs hk⟩
  · exact h.elim
abbrev zK6:Tabs:=Tabs.nil
theorem zG6:TabsOk Tryd.prog zK6:=TabsOk.nil
abbrev zK7:Ctrs:=csm zK6 (λ _ _=>[]) (λ _=>false)
def zvk:Ann:=⟨18,[(0,zK [0] []),(1,zK [0,3] []),(2,zK [3,6,7,8] []),(3,zK [3,6,7,8,9] []),(4,zK [3,5,6,7,8] []),(5,zK [3,5,6,7,8,14] []),(6,zK [2] []),(7,zK [3,6,7,8] []),(8,zK [2] [])],
 [(3,zK [3,6,7,8] [])],
 [],
 [],[]⟩
abbrev zLG:=Int
abbrev zJN (r:zLG):List PA:=[.one (.int .i64 r)]
@[irreducible] def z100:=ptF Tryd.prog zK7 zvk Tryd.f100
def zvl (vals:(Sl Int)) (zdx:Int):St:=⟨[(3,zI (0:Int)),(6,zS zac 1 vals),(7,zI (vals.len:Int)),(8,zI zdx)],[],[]⟩
abbrev zBg (K:List PA->Prop) (vals:(Sl Int)) (X:St->Prop) (P:Int->Bool) (S:Int->Int):Prop:=∀ ⦃zdx:Int⦄,P zdx=true->K (zJN (S zdx))->X (zvl vals zdx)
section
variable {K:List PA->Prop}{vals:(Sl Int)}{zdx:Int}{X0:St->Prop}{P0:Int->Bool}{S0:Int->Int}
def zrp (vals:(Sl Int)) (S0:Int->Int) (zdx:Int):Int :=
  (cond (decide (zdx < (vals.len : Int)))
 (cond ((vals.get zdx.toNat) != (0:Int))
 (vals.get zdx.toNat)
 (S0 (w64 (zdx+(1:Int)))))
 (0:Int))
def zrq (vals:(Sl Int)) (P0:Int->Bool) (zdx:Int):Bool :=
  (cond (decide (zdx < (vals.len : Int)))
 (decide ((0≤zdx/\zdx < (vals.len:Int))) &&
 (cond ((vals.get zdx.toNat) != (0:Int))
 true
 (P0 (w64 (zdx+(1:Int))))))
 true)
def zrr (vals:(Sl Int)):Nat->Int->Int:=lpO (λ _=>default) (zrp vals)
def zrt (vals:(Sl Int)):Nat->Int->Bool:=lpO (λ _=>false) (zrq vals)
def zru (vals:(Sl Int)) (zdx:Int):Int:=zrr vals Fuel zdx
def zrv (vals:(Sl Int)) (zdx:Int):Bool:=zrt vals Fuel zdx
theorem zz5 (hs:zrv vals zdx=true) (hk:K (zJN (zru vals zdx))):z100 K [1,1,0,1,0] [] (zvl vals zdx) :=
  zl (λ X=>z100 K [1,1,0,1,0,0] [X]) (by kernel_rfl) λ X0 hX =>
  (show ∀ k, zBg K vals X0 (zrt vals k) (zrr vals k) from zeF _ _ (zrq vals) (zrp vals) (zBg K vals X0)
 (by intro _ hs;exact absurd hs Bool.false_ne_true)
 (by intro P0 S0 hX0 zdx hs hk;exact hX _ (za2 (by kernel_rfl) (zc hs hk (λ hs hk=>(zaM hs λ hc hs=>And.intro hc (zc hs hk (λ hs hk=>hk) (λ hs hk=>(hX0 hs hk))))) (λ hs hk=>hk))))) _ hs hk
def zJO (vals:(Sl Int)):Int :=
  (zru vals (0:Int))
def zJP (vals:(Sl Int)):Bool :=
  (zrv vals (0:Int))
end
theorem zLH (vals:(Sl Int)) (K:List PA->Prop) (hs:zJP vals=true) (hk:K (zJN (zJO vals))):vcFun Tryd.prog zK7 zvk 100 [.one (.sl vals.len 1 (λ i=>zac (vals.get i)))] K :=
  za2 (by kernel_rfl) (zz5 hs hk)
def zvm : List PA → COut
  | [.one (.sl zfB zk9 zfC)]=>.det (IsE zac 1 zk9 zfC/\zJP (⟨zfB,zas zfC⟩:(Sl Int))=true) [.one (.int .i64 (zJO (⟨zfB,zas zfC⟩:(Sl Int))))]
  | _=>.no
theorem zDw:zav Tryd.prog 100:=⟨_,rfl,rfl,by kernel_rfl⟩
theorem zJQ:Ok Tryd.prog 100 zvm:=zbk zG6 zDw λ args K h=>by
  unfold zvm at h
  split at h
  · rename_i zfB zk9 zfC
    obtain⟨⟨⟨rfl,zh0,rfl⟩,hs⟩,hk⟩:=h
    try rw[zbL zh0] at hs
    try rw[zbL zh0] at hk
    exact⟨(λ _ _=>[]),(λ _=>false),zvk,zLH (⟨zfB,zh0⟩:(Sl Int)) K hs hk⟩
  · exact h.elim
abbrev zK8:Tabs:=Tabs.nil
theorem zG7:TabsOk Tryd.prog zK8:=TabsOk.nil
abbrev zLI:Ctrs:=csm zK8 (λ _ _=>[]) (λ _=>false)
def zBh:Ann:=⟨6,[(0,zK [0] []),(1,zK [2] [])],
 [],
 [],
 [],[]⟩
abbrev zLJ:=Bool
abbrev zLK (r:zLJ):List PA:=[.one (.bool r)]
section
variable {K:List PA->Prop}{x:Int}
def zG8 (x:Int):Bool :=
  (x != x)
end
theorem zLL (x:Int) (K:List PA->Prop) (hk:K (zLK (zG8 x))):vcFun Tryd.prog zLI zBh 114 [.one (.int .i64 x)] K :=
  za2 (by kernel_rfl) hk
def zvn : List PA → COut
  | [.one (.int .i64 a0)]=>.tot [.one (.bool (zG8 a0))]
  | _=>.no
theorem zDx:zav Tryd.prog 114:=⟨_,rfl,rfl,by kernel_rfl⟩
theorem zJR:Ok Tryd.prog 114 zvn:=zbk zG7 zDx λ args K h=>by
  unfold zvn at h
  split at h
  · rename_i a0
    have hk:=h
    exact⟨(λ _ _=>[]),(λ _=>false),zBh,zLL a0 K hk⟩
  · exact h.elim
abbrev zK9:Tabs:=(Tabs.nil.addF 114 zvn)
theorem zG9:TabsOk Tryd.prog zK9:=(TabsOk.nil.addF zJR)
abbrev zLM:Ctrs:=csm zK9 (λ _ _=>[]) (λ _=>false)
def zBi:Ann:=⟨20,[(0,zK [0,1] []),(1,zK [0,1,5] []),(2,zK [0,1,5,6] []),(3,zK [0,1,6,11] []),(4,zK [12] []),(5,zK [4] []),(6,zK [4] []),(7,zK [0,1,13] []),(8,zK [4] []),(9,zK [0,1,16] []),(10,zK [4] []),(11,zK [19] []),(12,zK [4] []),(13,zK [4] [])],
 [],
 [],
 [],[]⟩
abbrev zLN:=Int
abbrev zLO (r:zLN):List PA:=[.one (.int .i64 r)]
section
variable {K:List PA->Prop}{x:Int}{y_a1:Int}
def zyO (x:Int) (y_a1:Int):Int :=
  (cond (zG8 x)
 (cond (zG8 y_a1)
 (0:Int)
 (-1:Int))
 (cond (zG8 y_a1)
 (1:Int)
 (cond (decide (x < y_a1))
 (-1:Int)
 (cond (decide (x > y_a1))
 (1:Int)
 (0:Int)))))
end
theorem zLP (x:Int) (y_a1:Int) (K:List PA->Prop) (hk:K (zLO (zyO x y_a1))):vcFun Tryd.prog zLM zBi 101 [.one (.int .i64 x),.one (.int .i64 y_a1)] K :=
  za2 (by kernel_rfl) (zt hk (λ hk=>(zt hk (λ hk=>hk) (λ hk=>hk))) (λ hk=>(zt hk (λ hk=>hk) (λ hk=>(zt hk (λ hk=>hk) (λ hk=>(zt hk (λ hk=>hk) (λ hk=>hk))))))))
def zrx : List PA → COut
  | [.one (.int .i64 a0),.one (.int .i64 a1)]=>.tot [.one (.int .i64 (zyO a0 a1))]
  | _=>.no
theorem zDy:zav Tryd.prog 101:=⟨_,rfl,rfl,by kernel_rfl⟩
theorem zHa:Ok Tryd.prog 101 zrx:=zbk zG9 zDy λ args K h=>by
  unfold zrx at h
  split at h
  · rename_i a0 a1
    have hk:=h
    exact⟨(λ _ _=>[]),(λ _=>false),zBi,zLP a0 a1 K hk⟩
  · exact h.elim
abbrev zLa:Tabs:=Tabs.nil
theorem zHb:TabsOk Tryd.prog zLa:=TabsOk.nil
abbrev zLQ:Ctrs:=csm zLa (λ _ _=>[]) (λ _=>false)
def zBj:Ann:=⟨6,[(0,zK [1] [1]),(1,zK [5] []),(2,zK [2] []),(3,zK [2] [])],
 [],
 [],
 [],[]⟩
abbrev zLR:=Int
abbrev e118 (r:zLR):List PA:=[.one (.int .i64 r)]
section
variable {K:List PA->Prop}{s:step}
def zBk (s:step):Int :=
  (cond s.Use.Back
 (1:Int)
 (0:Int))
end
theorem zLS (s:step) (K:List PA->Prop) (hk:K (e118 (zBk s))):vcFun Tryd.prog zLQ zBj 118 [.agg (zaC s)] K :=
  za2 (by kernel_rfl) (zt hk (λ hk=>hk) (λ hk=>hk))
def zvo : List PA → COut
  | [.agg [.int .i64 zcO,.bool zct,.int .i64 zek,.int .i64 znK,.int .i64 zce]]=>.tot [.one (.int .i64 (zBk (⟨(⟨zcO,zct⟩:Use),zek,znK,zce⟩:step)))]
  | _=>.no
theorem zDz:zav Tryd.prog 118:=⟨_,rfl,rfl,by kernel_rfl⟩
theorem zJS:Ok Tryd.prog 118 zvo:=zbk zHb zDz λ args K h=>by
  unfold zvo at h
  split at h
  · rename_i zcO zct zek znK zce
    have hk:=h
    exact⟨(λ _ _=>[]),(λ _=>false),zBj,zLS (⟨(⟨zcO,zct⟩:Use),zek,znK,zce⟩:step) K hk⟩
  · exact h.elim
abbrev zLb:Tabs:=(((Tabs.nil.addF 100 zvm).addF 101 zrx).addF 118 zvo)
theorem zHc:TabsOk Tryd.prog zLb:=(((TabsOk.nil.addF zJQ).addF zHa).addF zJS)
abbrev zLT:Ctrs:=csm zLb (λ _ _=>[]) (λ _=>false)
def zBl:Ann:=⟨22,[(0,zK [2,3] [2,3]),(1,zK [2,3,5] [2,3]),(2,zK [4] [])],
 [],
 [],
 [],[]⟩
abbrev zLU:=Int
abbrev e108 (r:zLU):List PA:=[.one (.int .i64 r)]
section
variable {K:List PA->Prop}{a:step}{b:step}
def zI8 (a:step) (b:step):Int :=
  (zJO (⟨2,zas (zbc [(zac (zyO a.Use.Tie b.Use.Tie)),(zac (zyO (zBk a) (zBk b)))])⟩:(Sl Int)))
def zJT (a:step) (b:step):Bool :=
  (decide ((zJP (⟨2,zas (zbc [(zac (zyO a.Use.Tie b.Use.Tie)),(zac (zyO (zBk a) (zBk b)))])⟩:(Sl Int))=true)) &&
 true)
end
theorem zLV (a:step) (b:step) (K:List PA->Prop) (hs:zJT a b=true) (hk:K (e108 (zI8 a b))):vcFun Tryd.prog zLT zBl 108 [.agg (zaC a),.agg (zaC b)] K :=
  za2 (by kernel_rfl) (zaM hs λ hc hs=>And.intro (And.intro ((zdd []):IsE zac 1 1 (zbc [(zac (zyO a.Use.Tie b.Use.Tie)),(zac (zyO (zBk a) (zBk b)))])) hc) hk)
def zvp : List PA → COut
  | [.agg [.int .i64 zcO,.bool zct,.int .i64 zek,.int .i64 znK,.int .i64 zce],.agg [.int .i64 zf8,.bool ze0,.int .i64 ziU,.int .i64 zz6,.int .i64 zbO]]=>.det (zJT (⟨(⟨zcO,zct⟩:Use),zek,znK,zce⟩:step) (⟨(⟨zf8,ze0⟩:Use),ziU,zz6,zbO⟩:step)=true) [.one (.int .i64 (zI8 (⟨(⟨zcO,zct⟩:Use),zek,znK,zce⟩:step) (⟨(⟨zf8,ze0⟩:Use),ziU,zz6,zbO⟩:step)))]
  | _=>.no
theorem zDA:zav Tryd.prog 108:=⟨_,rfl,rfl,by kernel_rfl⟩
theorem zJU:Ok Tryd.prog 108 zvp:=zbk zHc zDA λ args K h=>by
  unfold zvp at h
  split at h
  · rename_i zcO zct zek znK zce zf8 ze0 ziU zz6 zbO
    obtain⟨hs,hk⟩:=h
    exact⟨(λ _ _=>[]),(λ _=>false),zBl,zLV (⟨(⟨zcO,zct⟩:Use),zek,znK,zce⟩:step) (⟨(⟨zf8,ze0⟩:Use),ziU,zz6,zbO⟩:step) K hs hk⟩
  · exact h.elim
abbrev zLc:Tabs:=(Tabs.nil.addF 108 zvp)
theorem zHd:TabsOk Tryd.prog zLc:=(TabsOk.nil.addF zJU)
abbrev zLd:Ctrs:=csm zLc (λ _ _=>[]) (λ _=>false)
def zvq:Ann:=⟨39,[(0,zK [0,1,2] []),(1,zK [0,1,2,11,12,13] []),(2,zK [0,1,2,11,12,13,14] []),(3,zK [0,1,2,7,8,11,12,13] [8]),(4,zK [0,1,2,7,8,11,12,13,21] [8]),(5,zK [6] []),(6,zK [0,1,2,8,9,11,12,13] [8,9]),(7,zK [0,1,2,10,11,12,13] []),(8,zK [0,1,2,10,11,12,13,31] []),(9,zK [6] []),(10,zK [0,1,2,11,12,13] []),(11,zK [38] []),(12,zK [6] []),(13,zK [6] [])],
 [(2,zK [0,1,2,11,12,13] [])],
 [(6,zK [0,1,2,7,8,11,12,13] [8]),(8,zK [0,1,2,10,11,12,13] [])],
 [],[]⟩
abbrev zLW:=Int
abbrev zHe (r:zLW):List PA:=[.one (.int .i64 r)]
@[irreducible] def z107:=ptF Tryd.prog zLd zvq Tryd.f107
def zvr (zer:(Sl step)) (zdY:(Sl step)) (zaS:(Sl step)) (zbX:Int) (zbP:Int) (zdm:Nat->List PV) (zdn:Nat->List PV) (zfE:Nat->List PV):St:=⟨[(0,zP (.sl zer.len 5 zdm)),(1,zP (.sl zdY.len 5 zdn)),(2,zP (.fn 108 [] [])),(11,zP (.sl zaS.len 5 zfE)),(12,zI zbX),(13,zI zbP)],[],[]⟩
abbrev zry (K:List PA->Prop) (X:St->Prop) (P:(Sl step)->(Sl step)->(Sl step)->Int->Int->Bool) (S:(Sl step)->(Sl step)->(Sl step)->Int->Int->Int):Prop:=∀ ⦃zer:(Sl step)⦄ ⦃zdY:(Sl step)⦄ ⦃zaS:(Sl step)⦄ ⦃zbX:Int⦄ ⦃zbP:Int⦄ ⦃zdm:Nat->List PV⦄ ⦃zdn:Nat->List PV⦄ ⦃zfE:Nat->List PV⦄,P zer zdY zaS zbX zbP=true->K (zHe (S zer zdY zaS zbX zbP))->zdm=zg zaC zer->zdn=zg zaC zdY->zfE=zg zaC zaS->X (zvr zer zdY zaS zbX zbP zdm zdn zfE)
section
variable {K:List PA->Prop}{s1_a0:(Sl step)}{s2_a1:(Sl step)}{zer:(Sl step)}{zdY:(Sl step)}{zaS:(Sl step)}{zbX:Int}{zbP:Int}{zdm:Nat->List PV}{zdn:Nat->List PV}{zfE:Nat->List PV}{X0:St->Prop}{P0:(Sl step)->(Sl step)->(Sl step)->Int->Int->Bool}{S0:(Sl step)->(Sl step)->(Sl step)->Int->Int->Int}{znL:(Sl step)}{ziV:(Sl step)}{iv1:Int}{zcC:(Sl step)}{zbY:Int}{zpr:Int}{ziw:Int}{zix:Bool}{ziy:Int}{ziz:Int}{ziA:Int}{znM:Nat->List PV}{znN:Nat->List PV}{zvs:Nat->List PV}{znO:(Sl step)}{znP:(Sl step)}{cv2:Int}{zps:Int}{znQ:Nat->List PV}{znR:Nat->List PV}
def zrz (S0:(Sl step)->(Sl step)->(Sl step)->Int->Int->Int) (zcC:(Sl step)) (zbY:Int) (znO:(Sl step)) (znP:(Sl step)) (cv2:Int) (zps:Int):Int :=
  (cond (cv2 != (0:Int))
 cv2
 (S0 znO znP zcC zbY (w64 (zps+(1:Int)))))
def zrA (P0:(Sl step)->(Sl step)->(Sl step)->Int->Int->Bool) (zcC:(Sl step)) (zbY:Int) (znO:(Sl step)) (znP:(Sl step)) (cv2:Int) (zps:Int):Bool :=
  (cond (cv2 != (0:Int))
 true
 (P0 znO znP zcC zbY (w64 (zps+(1:Int)))))
theorem zz7 (hX0:zry K X0 P0 S0) (hs:zrA P0 zcC zbY znO znP cv2 zps=true) (hk:K (zHe (zrz S0 zcC zbY znO znP cv2 zps))) (zvt:znQ=zg zaC znO) (zvu:znR=zg zaC znP):z107 K [1,0,1,0,0,1,1,0,0,1,1,1,1] [X0] ⟨[(0,zP (.sl znO.len 5 znQ)),(1,zP (.sl znP.len 5 znR)),(2,zP (.fn 108 [] [])),(10,zI cv2),(11,zS zaC 5 zcC),(12,zI zbY),(13,zI zps)],[],[]⟩:=by subst zvt;subst zvu;exact za2 (by kernel_rfl) (zc hs hk (λ hs hk=>hk) (λ hs hk=>(hX0 hs hk rfl rfl rfl)))
def zrB (S0:(Sl step)->(Sl step)->(Sl step)->Int->Int->Int) (znL:(Sl step)) (ziV:(Sl step)) (iv1:Int) (zcC:(Sl step)) (zbY:Int) (zpr:Int) (ziw:Int) (zix:Bool) (ziy:Int) (ziz:Int) (ziA:Int):Int :=
  (zrz S0 zcC zbY znL ziV (zI8 (⟨(⟨ziw,zix⟩:Use),ziy,ziz,ziA⟩:step) (ziV.get iv1.toNat)) zpr)
def zrC (P0:(Sl step)->(Sl step)->(Sl step)->Int->Int->Bool) (znL:(Sl step)) (ziV:(Sl step)) (iv1:Int) (zcC:(Sl step)) (zbY:Int) (zpr:Int) (ziw:Int) (zix:Bool) (ziy:Int) (ziz:Int) (ziA:Int):Bool :=
  (decide ((0≤iv1/\iv1 < (ziV.len:Int))) &&
 (decide ((zJT (⟨(⟨ziw,zix⟩:Use),ziy,ziz,ziA⟩:step) (ziV.get iv1.toNat)=true)) &&
 (zrA P0 zcC zbY znL ziV (zI8 (⟨(⟨ziw,zix⟩:Use),ziy,ziz,ziA⟩:step) (ziV.get iv1.toNat)) zpr)))
theorem zz8 (hX0:zry K X0 P0 S0) (hs:zrC P0 znL ziV iv1 zcC zbY zpr ziw zix ziy ziz ziA=true) (hk:K (zHe (zrB S0 znL ziV iv1 zcC zbY zpr ziw zix ziy ziz ziA))) (zvv:znM=zg zaC znL) (zvw:znN=zg zaC ziV) (zDB:zvs=zg zaC zcC):z107 K [1,0,1,0,0,1,1,0,0,1,1] [X0] ⟨[(0,zP (.sl znL.len 5 znM)),(1,zP (.sl ziV.len 5 znN)),(2,zP (.fn 108 [] [])),(7,zI iv1),(8,zp 8 0),(11,zP (.sl zcC.len 5 zvs)),(12,zI zbY),(13,zI zpr)],[(8,.box 130 (zm (zaC (⟨(⟨ziw,zix⟩:Use),ziy,ziz,ziA⟩:step))))],[]⟩:=by subst zvv;subst zvw;subst zDB;exact za2 (by kernel_rfl) (zaM hs λ hc hs=>And.intro hc (zaM hs λ hc hs=>And.intro hc (zz7 hX0 hs hk rfl rfl)))
def zrD (S0:(Sl step)->(Sl step)->(Sl step)->Int->Int->Int) (zer:(Sl step)) (zdY:(Sl step)) (zaS:(Sl step)) (zbX:Int) (zbP:Int):Int :=
  (cond (decide (zbP < zbX))
 (cond (decide (zbP ≥ (zdY.len : Int)))
 (1:Int)
 (zrB S0 zer zdY zbP zaS zbX zbP ((zaS.get zbP.toNat).Use.Tie) ((zaS.get zbP.toNat).Use.Back) ((zaS.get zbP.toNat).from_) ((zaS.get zbP.toNat).to) ((zaS.get zbP.toNat).length)))
 (cond (decide ((zer.len : Int) < (zdY.len : Int)))
 (-1:Int)
 (0:Int)))
def zrE (P0:(Sl step)->(Sl step)->(Sl step)->Int->Int->Bool) (zer:(Sl step)) (zdY:(Sl step)) (zaS:(Sl step)) (zbX:Int) (zbP:Int):Bool :=
  (cond (decide (zbP < zbX))
 (decide ((0≤zbP/\zbP < (zaS.len:Int))) &&
 (cond (decide (zbP ≥ (zdY.len : Int)))
 true
 (zrC P0 zer zdY zbP zaS zbX zbP ((zaS.get zbP.toNat).Use.Tie) ((zaS.get zbP.toNat).Use.Back) ((zaS.get zbP.toNat).from_) ((zaS.get zbP.toNat).to) ((zaS.get zbP.toNat).length))))
 true)
def zrF:Nat->(Sl step)->(Sl step)->(Sl step)->Int->Int->Int:=lpO (λ _ _ _ _ _=>default) (zrD)
def zrG:Nat->(Sl step)->(Sl step)->(Sl step)->Int->Int->Bool:=lpO (λ _ _ _ _ _=>false) (zrE)
def zrH (zer:(Sl step)) (zdY:(Sl step)) (zaS:(Sl step)) (zbX:Int) (zbP:Int):Int:=zrF Fuel zer zdY zaS zbX zbP
def zrI (zer:(Sl step)) (zdY:(Sl step)) (zaS:(Sl step)) (zbX:Int) (zbP:Int):Bool:=zrG Fuel zer zdY zaS zbX zbP
theorem zz9 (hs:zrI zer zdY zaS zbX zbP=true) (hk:K (zHe (zrH zer zdY zaS zbX zbP))) (zj6:zdm=zg zaC zer) (zj7:zdn=zg zaC zdY) (zpt:zfE=zg zaC zaS):z107 K [1,0,1,0] [] (zvr zer zdY zaS zbX zbP zdm zdn zfE) :=
  zl (λ X=>z107 K [1,0,1,0,0] [X]) (by kernel_rfl) λ X0 hX =>
  (show ∀ k, zry K X0 (zrG k) (zrF k) from zeF _ _ (zrE) (zrD) (zry K X0)
 (by intro _ _ _ _ _ _ _ _ hs;exact absurd hs Bool.false_ne_true)
 (by intro P0 S0 hX0 zer zdY zaS zbX zbP zdm zdn zfE hs hk zj6 zj7 zpt;subst zj6;subst zj7;subst zpt;exact hX _ (za2 (by kernel_rfl) (zc hs hk (λ hs hk=>(zaM hs λ hc hs=>And.intro hc (zc hs hk (λ hs hk=>hk) (λ hs hk=>(zz8 hX0 hs hk rfl rfl rfl))))) (λ hs hk=>(zt hk (λ hk=>hk) (λ hk=>hk))))))) _ hs hk zj6 zj7 zpt
def zI9 (s1_a0:(Sl step)) (s2_a1:(Sl step)):Int :=
  (zrH s1_a0 s2_a1 s1_a0 (s1_a0.len:Int) (0:Int))
def zJV (s1_a0:(Sl step)) (s2_a1:(Sl step)):Bool :=
  (zrI s1_a0 s2_a1 s1_a0 (s1_a0.len:Int) (0:Int))
end
theorem zLX (s1_a0:(Sl step)) (s2_a1:(Sl step)) (K:List PA->Prop) (hs:zJV s1_a0 s2_a1=true) (hk:K (zHe (zI9 s1_a0 s2_a1))):vcFun Tryd.prog zLd zvq 107 [.one (.sl s1_a0.len 5 (λ i=>zaC (s1_a0.get i))),.one (.sl s2_a1.len 5 (λ i=>zaC (s2_a1.get i))),.one (.fn 108 [] [])] K :=
  za2 (by kernel_rfl) (zz9 hs hk rfl rfl rfl)
def zvx : List PA → COut
  | [.one (.sl zfB zk9 zfC),.one (.sl zgc zmM zf3),.one (.fn 108 [] [])]=>.det (IsE zaC 5 zk9 zfC/\IsE zaC 5 zmM zf3/\zJV (⟨zfB,zha zfC⟩:(Sl step)) (⟨zgc,zha zf3⟩:(Sl step))=true) [.one (.int .i64 (zI9 (⟨zfB,zha zfC⟩:(Sl step)) (⟨zgc,zha zf3⟩:(Sl step))))]
  | _=>.no
theorem zDC:zav Tryd.prog 107:=⟨_,rfl,rfl,by kernel_rfl⟩
theorem zJW:Ok Tryd.prog 107 zvx:=zbk zHd zDC λ args K h=>by
  unfold zvx at h
  split at h
  · rename_i zfB zk9 zfC zgc zmM zf3
    obtain⟨⟨⟨rfl,zh0,rfl⟩,⟨rfl,zj4,rfl⟩,hs⟩,hk⟩:=h
    try rw[zeh zh0] at hs
    try rw[zeh zh0] at hk
    try rw[zeh zj4] at hs
    try rw[zeh zj4] at hk
    exact⟨(λ _ _=>[]),(λ _=>false),zvq,zLX (⟨zfB,zh0⟩:(Sl step)) (⟨zgc,zj4⟩:(Sl step)) K hs hk⟩
  · exact h.elim
abbrev T89:Tabs:=((((Tabs.nil.addF 93 znF).addF 106 zvj).addF 107 zvx).addI 110 znH)
theorem zJX:TabsOk Tryd.prog T89:=((((TabsOk.nil.addF zFP).addF zJM).addF zJW).addI zsM)
abbrev G89:Ctrs:=csm T89 (λ _ _=>[]) (λ _=>false)
def zvy:Ann:=⟨148,[(0,zK [0] []),(1,zK [0,3] [21]),(2,zK [0,3,23,24] [21]),(3,zK [0,3,23,24,25] [21]),(4,zK [0,3,4,23,24] [21]),(5,zK [0,3,23,24] [21]),(6,zK [0,3,23,24] [21]),(7,zK [0,3] [21]),(8,zK [0,3,5] [21]),(9,zK [0,3,5,45] [21]),(10,zK [0,3,5] [21]),(11,zK [0,3,5,48,49,50] [21]),(12,zK [0,3,5,48,49,50,51] [21]),(13,zK [0,3,5,6,7,48,49,50] [21]),(14,zK [0,3,5,48,49,50,62] [21]),(15,zK [0,3,5,48,49,50] [21]),(16,zK [0,3,5,8] [21]),(17,zK [0,5,8,64,65,66] [21]),(18,zK [0,5,8,64,65,66,67] [21]),(19,zK [0,5,8,9,10,64,65,66] [9,10,21]),(20,zK [0,5,8,9,10,64,65,66,78] [9,10,21]),(21,zK [0,5,8,9,10,11,64,65,66] [9,10,11,21]),(22,zK [0,5,8,9,10,11,12,13,64,65,66] [9,10,11,12,13,21]),(23,zK [0,5,8,9,10,11,12,13,14,64,65,66] [9,10,11,12,13,14,21]),(24,zK [0,5,8,9,10,11,12,13,14,64,65,66,83] [9,10,11,12,13,14,21,129]),(25,zK [0,5,8,9,10,11,12,13,14,64,65,66] [9,10,11,12,13,14,21,129]),(26,zK [0,5,8,9,10,11,12,13,14,64,65,66,87] [9,10,11,12,13,14,21,129]),(27,zK [0,5,8,9,10,11,12,13,14,15,64,65,66,87] [9,10,11,12,13,14,15,21,129]),(28,zK [0,5,8,9,10,11,12,13,14,15,64,65,66,87,125] [9,10,11,12,13,14,15,21,129]),(29,zK [0,5,8,9,10,11,12,13,14,15,64,65,66] [9,10,11,12,13,14,15,21,129]),(30,zK [0,5,8,9,10,11,12,13,14,64,65,66] [9,10,11,12,13,14,21,129]),(31,zK [0,5,8,9,10,11,12,13,64,65,66,136] [9,10,11,12,13,21,129]),(32,zK [0,5,8,9,10,11,12,13,14,64,65,66] [9,10,11,12,13,14,21,129]),(33,zK [0,5,8,11,64,65,66,144] [11,21,129]),(34,zK [0,5,8,64,65,66] [21,129]),(35,zK [0,5,8,64,65,66] [21,129]),(36,zK [2] [])],
 [(3,zK [0,3,23,24] [21]),(9,zK [0,3,5] [21]),(12,zK [0,3,5,48,49,50] [21]),(18,⟨[0,5,8,64,65,66],[21],[],[],[],[],[(8,1005,λ _=>zaC default)]⟩),(24,⟨[0,5,8,9,10,11,12,13,14,64,65,66],[9,10,11,12,13,14,21,129],[],[(11,0,129,130,λ _=>zaC default)],[],[],[]⟩),(27,zK [0,5,8,9,10,11,12,13,14,64,65,66,87] [9,10,11,12,13,14,21,129])],
 [(7,zK [0,3] [21]),(16,zK [0,3,5] [21]),(34,zK [0,5,8,11,64,65,66,144] [11,21,129])],
 [],[]⟩
abbrev R89:=(Sl step)
abbrev e89 (r:R89):List PA:=[.one (.sl r.len 5 (λ i=>zaC (r.get i)))]
@[irreducible] def z89:=ptF Tryd.prog G89 zvy Tryd.f89
@[irreducible] def x89:=exF Tryd.prog G89 zvy Tryd.f89
@[irreducible] def y89:=rnF Tryd.prog G89 zvy Tryd.f89
def zBm (w:web) (zcL:Int) (zc8:(Sl (Sl Tab))) (zfF:Nat->List PV):St:=⟨[(0,zP (.fp (zaB w) 0)),(3,zv 21),(23,zI (w.Net.Nodes.toNat:Int)),(24,zI zcL)],[(21,.vec 159 1 24 zc8.len zfF)],[]⟩
abbrev zHf (K:List PA->Prop) (w:web) (X:St->Prop) (P:Int->(Sl (Sl Tab))->Bool) (S:Int->(Sl (Sl Tab))->(Sl step)):Prop:=∀ ⦃zcL:Int⦄ ⦃zc8:(Sl (Sl Tab))⦄ ⦃zfF:Nat->List PV⦄,P zcL zc8=true->K (e89 (S zcL zc8))->zfF=zg zcJ zc8->X (zBm w zcL zc8 zfF)
def zBn (w:web) (za9:(Sl (Sl Tab))) (zcy:Int):St:=⟨[(0,zP (.fp (zaB w) 0)),(3,zv 21),(5,zI zcy)],[(21,.vec 159 1 24 za9.len (λ i=>zcJ (za9.get i)))],[]⟩
abbrev zDD (K:List PA->Prop) (w:web) (za9:(Sl (Sl Tab))) (X:St->Prop) (P:Int->Bool) (S:Int->(Sl step)):Prop:=∀ ⦃zcy:Int⦄,P zcy=true->K (e89 (S zcy))->X (zBn w za9 zcy)
def zBo (w:web) (za9:(Sl (Sl Tab))) (zb6:Int) (zcS:Int):St:=⟨[(0,zP (.fp (zaB w) 0)),(3,zv 21),(5,zI zb6),(48,zv 21),(49,zI (za9.len:Int)),(50,zI zcS)],[(21,.vec 159 1 24 za9.len (λ i=>zcJ (za9.get i)))],[]⟩
abbrev zHg (K:List PA->Prop) (w:web) (za9:(Sl (Sl Tab))) (X:St->Prop) (P:Int->Int->Bool) (S:Int->Int->(Sl step)):Prop:=∀ ⦃zb6:Int⦄ ⦃zcS:Int⦄,P zb6 zcS=true->K (e89 (S zb6 zcS))->X (zBo w za9 zb6 zcS)
def zBp (w:web) (zaO:(Sl (Sl Tab))) (zb7:Int) (zbC:Bool) (zcu:(Sl step)) (zcg:Int) (zcW:(Sl (Sl Tab))) (zel:Nat->List PV) (zfG:Nat->List PV):St:=⟨[(0,zP (.fp (zaB w) 0)),(5,zI zb7),(8,zP (.ns zbC zcu.len 5 zel)),(64,zv 21),(65,zI (zaO.len:Int)),(66,zI zcg)],[(21,.vec 159 1 24 zcW.len zfG)],[]⟩
abbrev zvz (K:List PA->Prop) (w:web) (zaO:(Sl (Sl Tab))) (X:St->Prop) (P:Int->Bool->(Sl step)->Int->(Sl (Sl Tab))->Bool) (S:Int->Bool->(Sl step)->Int->(Sl (Sl Tab))->(Sl step)):Prop:=∀ ⦃zb7:Int⦄ ⦃zbC:Bool⦄ ⦃zcu:(Sl step)⦄ ⦃zcg:Int⦄ ⦃zcW:(Sl (Sl Tab))⦄ ⦃zel:Nat->List PV⦄ ⦃zfG:Nat->List PV⦄,P zb7 zbC zcu zcg zcW=true->K (e89 (S zb7 zbC zcu zcg zcW))->zel=zg zaC zcu->zfG=zg zcJ zcW->X (zBp w zaO zb7 zbC zcu zcg zcW zel zfG)
def zBq (w:web) (zaO:(Sl (Sl Tab))) (zcz:Int) (zbj:Bool) (zbQ:(Sl step)) (zd7:Int) (iv6:Int) (hv6:(Sl Tab)) (zmr:Int) (zbF:Int) (kv6:Int) (zdG:(Sl (Sl Tab))) (zbU:(Sl step)) (zem:Nat->List PV) (znS:Nat->List PV) (zfH:Nat->List PV) (zen:Nat->List PV):St:=⟨[(0,zP (.fp (zaB w) 0)),(5,zI zcz),(8,zP (.ns zbj zbQ.len 5 zem)),(9,zp 9 0),(10,zp 10 0),(11,zp 11 0),(12,zp 12 0),(13,zp 13 0),(14,zp 14 0),(64,zv 21),(65,zI (zaO.len:Int)),(66,zI zd7)],[(9,.box 3 [zi iv6]),(10,.box 159 [.p (.sl hv6.len 80 znS)]),(11,.box 127 [.vec 129]),(12,.box 3 [zi zmr]),(13,.box 3 [zi zbF]),(14,.box 3 [zi kv6]),(21,.vec 159 1 24 zdG.len zfH),(129,.vec 130 5 40 zbU.len zen)],[]⟩
abbrev zDE (K:List PA->Prop) (w:web) (zaO:(Sl (Sl Tab))) (X:St->Prop) (P:Int->Bool->(Sl step)->Int->Int->(Sl Tab)->Int->Int->Int->(Sl (Sl Tab))->(Sl step)->Bool) (S:Int->Bool->(Sl step)->Int->Int->(Sl Tab)->Int->Int->Int->(Sl (Sl Tab))->(Sl step)->(Sl step)):Prop:=∀ ⦃zcz:Int⦄ ⦃zbj:Bool⦄ ⦃zbQ:(Sl step)⦄ ⦃zd7:Int⦄ ⦃iv6:Int⦄ ⦃hv6:(Sl Tab)⦄ ⦃zmr:Int⦄ ⦃zbF:Int⦄ ⦃kv6:Int⦄ ⦃zdG:(Sl (Sl Tab))⦄ ⦃zbU:(Sl step)⦄ ⦃zem:Nat->List PV⦄ ⦃znS:Nat->List PV⦄ ⦃zfH:Nat->List PV⦄ ⦃zen:Nat->List PV⦄,P zcz zbj zbQ zd7 iv6 hv6 zmr zbF kv6 zdG zbU=true->K (e89 (S zcz zbj zbQ zd7 iv6 hv6 zmr zbF kv6 zdG zbU))->zem=zg zaC zbQ->znS=zg zam hv6->zfH=zg zcJ zdG->zen=zg zaC zbU->X (zBq w zaO zcz zbj zbQ zd7 iv6 hv6 zmr zbF kv6 zdG zbU zem znS zfH zen)
def zvA (w:web) (zaO:(Sl (Sl Tab))) (zbG:Int) (zaZ:Bool) (zbD:(Sl step)) (zcE:Int) (iv7:Int) (hv7:(Sl Tab)) (zgl:Int) (zaW:Int) (kv7:Int) (zcx:(Sl (Sl Tab))) (zbn:(Sl step)) (zde:Nat->List PV) (zkx:Nat->List PV) (zes:Nat->List PV) (zdf:Nat->List PV):St:=⟨[(0,zP (.fp (zaB w) 0)),(5,zI zbG),(8,zP (.ns zaZ zbD.len 5 zde)),(9,zp 9 0),(10,zp 10 0),(11,zp 11 0),(12,zp 12 0),(13,zp 13 0),(14,zp 14 0),(64,zv 21),(65,zI (zaO.len:Int)),(66,zI zcE),(87,zP (.fn 110 [] [.fp [.fp (zaB w) 0] 0]))],[(9,.box 3 [zi iv7]),(10,.box 159 [.p (.sl hv7.len 80 zkx)]),(11,.box 127 [.vec 129]),(12,.box 3 [zi zgl]),(13,.box 3 [zi zaW]),(14,.box 3 [zi kv7]),(21,.vec 159 1 24 zcx.len zes),(129,.vec 130 5 40 zbn.len zdf)],[]⟩
abbrev zHh (K:List PA->Prop) (w:web) (zaO:(Sl (Sl Tab))) (X:St->Prop) (P:Int->Bool->(Sl step)->Int->Int->(Sl Tab)->Int->Int->Int->(Sl (Sl Tab))->(Sl step)->Bool) (S:Int->Bool->(Sl step)->Int->Int->(Sl Tab)->Int->Int->Int->(Sl (Sl Tab))->(Sl step)->(Sl step)):Prop:=∀ ⦃zbG:Int⦄ ⦃zaZ:Bool⦄ ⦃zbD:(Sl step)⦄ ⦃zcE:Int⦄ ⦃iv7:Int⦄ ⦃hv7:(Sl Tab)⦄ ⦃zgl:Int⦄ ⦃zaW:Int⦄ ⦃kv7:Int⦄ ⦃zcx:(Sl (Sl Tab))⦄ ⦃zbn:(Sl step)⦄ ⦃zde:Nat->List PV⦄ ⦃zkx:Nat->List PV⦄ ⦃zes:Nat->List PV⦄ ⦃zdf:Nat->List PV⦄,P zbG zaZ zbD zcE iv7 hv7 zgl zaW kv7 zcx zbn=true->K (e89 (S zbG zaZ zbD zcE iv7 hv7 zgl zaW kv7 zcx zbn))->zde=zg zaC zbD->zkx=zg zam hv7->zes=zg zcJ zcx->zdf=zg zaC zbn->X (zvA w zaO zbG zaZ zbD zcE iv7 hv7 zgl zaW kv7 zcx zbn zde zkx zes zdf)
section
variable {K:List PA->Prop}{w:web}{zcL:Int}{zc8:(Sl (Sl Tab))}{zfF:Nat->List PV}{X0:St->Prop}{P0:Int->(Sl (Sl Tab))->Bool}{S0:Int->(Sl (Sl Tab))->(Sl step)}{za9:(Sl (Sl Tab))}{zvB:Nat->List PV}{zcy:Int}{X2:St->Prop}{P2:Int->Bool}{S2:Int->(Sl step)}{zb6:Int}{zcS:Int}{X3:St->Prop}{P3:Int->Int->Bool}{S3:Int->Int->(Sl step)}{zj8:Int}{zaO:(Sl (Sl Tab))}{zvC:Nat->List PV}{zb7:Int}{zbC:Bool}{zcu:(Sl step)}{zcg:Int}{zcW:(Sl (Sl Tab))}{zel:Nat->List PV}{zfG:Nat->List PV}{X5:St->Prop}{P5:Int->Bool->(Sl step)->Int->(Sl (Sl Tab))->Bool}{S5:Int->Bool->(Sl step)->Int->(Sl (Sl Tab))->(Sl step)}{zcz:Int}{zbj:Bool}{zbQ:(Sl step)}{zd7:Int}{iv6:Int}{hv6:(Sl Tab)}{zmr:Int}{zbF:Int}{kv6:Int}{zdG:(Sl (Sl Tab))}{zbU:(Sl step)}{zem:Nat->List PV}{znS:Nat->List PV}{zfH:Nat->List PV}{zen:Nat->List PV}{X6:St->Prop}{P6:Int->Bool->(Sl step)->Int->Int->(Sl Tab)->Int->Int->Int->(Sl (Sl Tab))->(Sl step)->Bool}{S6:Int->Bool->(Sl step)->Int->Int->(Sl Tab)->Int->Int->Int->(Sl (Sl Tab))->(Sl step)->(Sl step)}{zbG:Int}{zaZ:Bool}{zbD:(Sl step)}{zcE:Int}{iv7:Int}{hv7:(Sl Tab)}{zgl:Int}{zaW:Int}{kv7:Int}{zcx:(Sl (Sl Tab))}{zbn:(Sl step)}{zde:Nat->List PV}{zkx:Nat->List PV}{zes:Nat->List PV}{zdf:Nat->List PV}{zhc:Int}{ze1:Bool}{ziB:(Sl step)}{zms:Int}{zj9:Bool}{zky:(Sl (Sl Tab))}{ziC:(Sl step)}{zrJ:Nat->List PV}{zvD:Nat->List PV}{zrK:Nat->List PV}
def zpu (S5:Int->Bool->(Sl step)->Int->(Sl (Sl Tab))->(Sl step)) (w:web) (zaO:(Sl (Sl Tab))) (zhc:Int) (ze1:Bool) (ziB:(Sl step)) (zms:Int) (zj9:Bool) (zky:(Sl (Sl Tab))) (ziC:(Sl step)):(Sl step) :=
  (cond zj9
 (S5 zhc false ziC (w64 (zms+(1:Int))) zky)
 (S5 zhc ze1 ziB (w64 (zms+(1:Int))) zky))
def zpv (P5:Int->Bool->(Sl step)->Int->(Sl (Sl Tab))->Bool) (w:web) (zaO:(Sl (Sl Tab))) (zhc:Int) (ze1:Bool) (ziB:(Sl step)) (zms:Int) (zj9:Bool) (zky:(Sl (Sl Tab))) (ziC:(Sl step)):Bool :=
  (cond zj9
 (P5 zhc false ziC (w64 (zms+(1:Int))) zky)
 (P5 zhc ze1 ziB (w64 (zms+(1:Int))) zky))
theorem zvE (hX5:zvz K w zaO X5 P5 S5) (hs:zpv P5 w zaO zhc ze1 ziB zms zj9 zky ziC=true) (hk:K (e89 (zpu S5 w zaO zhc ze1 ziB zms zj9 zky ziC))) (zAa:zrJ=zg zaC ziB) (zDF:zvD=zg zcJ zky) (zAb:zrK=zg zaC ziC):z89 K [1,0,1,1,1,1,1,1,0,1,0,0,1,1,0,0,1,1,1,1,1,1] [X5] ⟨[(0,zP (.fp (zaB w) 0)),(5,zI zhc),(8,zP (.ns ze1 ziB.len 5 zrJ)),(11,zp 11 0),(64,zv 21),(65,zI (zaO.len:Int)),(66,zI zms),(144,zB zj9)],[(11,.box 127 [.vec 129]),(21,.vec 159 1 24 zky.len zvD),(129,.vec 130 5 40 ziC.len zrK)],[]⟩:=by subst zAa;subst zDF;subst zAb;exact za2 (by kernel_rfl) (zc hs hk (λ hs hk=>(hX5 hs hk rfl rfl)) (λ hs hk=>(hX5 hs hk rfl rfl)))
def zDG (S5:Int->Bool->(Sl step)->Int->(Sl (Sl Tab))->(Sl step)) (S6:Int->Bool->(Sl step)->Int->Int->(Sl Tab)->Int->Int->Int->(Sl (Sl Tab))->(Sl step)->(Sl step)) (w:web) (zaO:(Sl (Sl Tab))) (zbG:Int) (zaZ:Bool) (zbD:(Sl step)) (zcE:Int) (iv7:Int) (hv7:(Sl Tab)) (zgl:Int) (zaW:Int) (kv7:Int) (zcx:(Sl (Sl Tab))) (zbn:(Sl step)):(Sl step) :=
  (S6 zbG zaZ zbD zcE iv7 hv7 zgl zaW (w64 (kv7 - (1:Int))) zcx zbn)
def zDH (P5:Int->Bool->(Sl step)->Int->(Sl (Sl Tab))->Bool) (P6:Int->Bool->(Sl step)->Int->Int->(Sl Tab)->Int->Int->Int->(Sl (Sl Tab))->(Sl step)->Bool) (w:web) (zaO:(Sl (Sl Tab))) (zbG:Int) (zaZ:Bool) (zbD:(Sl step)) (zcE:Int) (iv7:Int) (hv7:(Sl Tab)) (zgl:Int) (zaW:Int) (kv7:Int) (zcx:(Sl (Sl Tab))) (zbn:(Sl step)):Bool :=
  (P6 zbG zaZ zbD zcE iv7 hv7 zgl zaW (w64 (kv7 - (1:Int))) zcx zbn)
def zvF (S5:Int->Bool->(Sl step)->Int->(Sl (Sl Tab))->(Sl step)) (S6:Int->Bool->(Sl step)->Int->Int->(Sl Tab)->Int->Int->Int->(Sl (Sl Tab))->(Sl step)->(Sl step)) (w:web) (zaO:(Sl (Sl Tab))) (y7:step) (S7:Int->Bool->(Sl step)->Int->Int->(Sl Tab)->Int->Int->Int->(Sl (Sl Tab))->(Sl step)->(Sl step)) (zbG:Int) (zaZ:Bool) (zbD:(Sl step)) (zcE:Int) (iv7:Int) (hv7:(Sl Tab)) (zgl:Int) (zaW:Int) (kv7:Int) (zcx:(Sl (Sl Tab))) (zbn:(Sl step)):(Sl step) :=
  (cond (y7.from_ == zgl)
 (cond (decide (y7.to ≥ iv7))
 (cond (!(nvr (tL (hv7.get kv7.toNat) y7.to) (tU (hv7.get kv7.toNat) y7.to)))
 (cond (decide ((w64 ((w64 (zaW + y7.length)) + (tL (hv7.get kv7.toNat) y7.to))) < (0:Int)))
 (S6 zbG zaZ zbD zcE iv7 hv7 y7.to (w64 (zaW+y7.length)) (w64 (kv7 - (1:Int))) zcx (⟨(zbn.len+1),(zf2 zbn.len zbn.get (λ _=>y7))⟩:Sl step))
 (S7 zbG zaZ zbD zcE iv7 hv7 zgl zaW kv7 zcx zbn))
 (S7 zbG zaZ zbD zcE iv7 hv7 zgl zaW kv7 zcx zbn))
 (S7 zbG zaZ zbD zcE iv7 hv7 zgl zaW kv7 zcx zbn))
 (S7 zbG zaZ zbD zcE iv7 hv7 zgl zaW kv7 zcx zbn))
def zvG (P5:Int->Bool->(Sl step)->Int->(Sl (Sl Tab))->Bool) (P6:Int->Bool->(Sl step)->Int->Int->(Sl Tab)->Int->Int->Int->(Sl (Sl Tab))->(Sl step)->Bool) (w:web) (zaO:(Sl (Sl Tab))) (y7:step) (P7:Int->Bool->(Sl step)->Int->Int->(Sl Tab)->Int->Int->Int->(Sl (Sl Tab))->(Sl step)->Bool) (zbG:Int) (zaZ:Bool) (zbD:(Sl step)) (zcE:Int) (iv7:Int) (hv7:(Sl Tab)) (zgl:Int) (zaW:Int) (kv7:Int) (zcx:(Sl (Sl Tab))) (zbn:(Sl step)):Bool :=
  (cond (y7.from_ == zgl)
 (cond (decide (y7.to ≥ iv7))
 (decide ((0≤kv7/\kv7 < (hv7.len:Int))) &&
 (decide ((0≤y7.to/\y7.to < (40:Int))) &&
 (cond (!(nvr (tL (hv7.get kv7.toNat) y7.to) (tU (hv7.get kv7.toNat) y7.to)))
 (decide ((0≤kv7/\kv7 < (hv7.len:Int))) &&
 (decide ((0≤y7.to/\y7.to < (40:Int))) &&
 (cond (decide ((w64 ((w64 (zaW + y7.length)) + (tL (hv7.get kv7.toNat) y7.to))) < (0:Int)))
 (decide (((zbn.len+1) * 40≤140737488355328/\zbn.len+1≤9223372036854775807)) &&
 (P6 zbG zaZ zbD zcE iv7 hv7 y7.to (w64 (zaW+y7.length)) (w64 (kv7 - (1:Int))) zcx (⟨(zbn.len+1),(zf2 zbn.len zbn.get (λ _=>y7))⟩:Sl step)))
 (P7 zbG zaZ zbD zcE iv7 hv7 zgl zaW kv7 zcx zbn))))
 (P7 zbG zaZ zbD zcE iv7 hv7 zgl zaW kv7 zcx zbn))))
 (P7 zbG zaZ zbD zcE iv7 hv7 zgl zaW kv7 zcx zbn))
 (P7 zbG zaZ zbD zcE iv7 hv7 zgl zaW kv7 zcx zbn))
def zvH (S5:Int->Bool->(Sl step)->Int->(Sl (Sl Tab))->(Sl step)) (S6:Int->Bool->(Sl step)->Int->Int->(Sl Tab)->Int->Int->Int->(Sl (Sl Tab))->(Sl step)->(Sl step)) (w:web) (zaO:(Sl (Sl Tab))):List step->Int->Bool->(Sl step)->Int->Int->(Sl Tab)->Int->Int->Int->(Sl (Sl Tab))->(Sl step)->(Sl step):=lpR (zDG S5 S6 w zaO) (zvF S5 S6 w zaO)
def zvI (P5:Int->Bool->(Sl step)->Int->(Sl (Sl Tab))->Bool) (P6:Int->Bool->(Sl step)->Int->Int->(Sl Tab)->Int->Int->Int->(Sl (Sl Tab))->(Sl step)->Bool) (w:web) (zaO:(Sl (Sl Tab))):List step->Int->Bool->(Sl step)->Int->Int->(Sl Tab)->Int->Int->Int->(Sl (Sl Tab))->(Sl step)->Bool:=lpR (zDH P5 P6 w zaO) (zvG P5 P6 w zaO)
def zvJ (S5:Int->Bool->(Sl step)->Int->(Sl (Sl Tab))->(Sl step)) (S6:Int->Bool->(Sl step)->Int->Int->(Sl Tab)->Int->Int->Int->(Sl (Sl Tab))->(Sl step)->(Sl step)) (w:web) (zaO:(Sl (Sl Tab))) (zbG:Int) (zaZ:Bool) (zbD:(Sl step)) (zcE:Int) (iv7:Int) (hv7:(Sl Tab)) (zgl:Int) (zaW:Int) (kv7:Int) (zcx:(Sl (Sl Tab))) (zbn:(Sl step)):(Sl step):=zvH S5 S6 w zaO (zj3 w) zbG zaZ zbD zcE iv7 hv7 zgl zaW kv7 zcx zbn
def zvK (P5:Int->Bool->(Sl step)->Int->(Sl (Sl Tab))->Bool) (P6:Int->Bool->(Sl step)->Int->Int->(Sl Tab)->Int->Int->Int->(Sl (Sl Tab))->(Sl step)->Bool) (w:web) (zaO:(Sl (Sl Tab))) (zbG:Int) (zaZ:Bool) (zbD:(Sl step)) (zcE:Int) (iv7:Int) (hv7:(Sl Tab)) (zgl:Int) (zaW:Int) (kv7:Int) (zcx:(Sl (Sl Tab))) (zbn:(Sl step)):Bool:=decide ((zsZ w=true)) && zvI P5 P6 w zaO (zj3 w) zbG zaZ zbD zcE iv7 hv7 zgl zaW kv7 zcx zbn
theorem zDI (hX5:zvz K w zaO X5 P5 S5) (hX6:zDE K w zaO X6 P6 S6) (hs:zvK P5 P6 w zaO zbG zaZ zbD zcE iv7 hv7 zgl zaW kv7 zcx zbn=true) (hk:K (e89 (zvJ S5 S6 w zaO zbG zaZ zbD zcE iv7 hv7 zgl zaW kv7 zcx zbn))) (zhd:zde=zg zaC zbD) (zvL:zkx=zg zam hv7) (zka:zes=zg zcJ zcx) (zhe:zdf=zg zaC zbn):z89 K [1,0,1,1,1,1,1,1,0,1,0,0,1,1,0,0,1,1,1,1,0,1,0,0,1,0,0,1,0] [X5,X6] (zvA w zaO zbG zaZ zbD zcE iv7 hv7 zgl zaW kv7 zcx zbn zde zkx zes zdf) :=
  zaM hs λ hc hs=>zr (enc:=(λ y:step=>[.agg (zaC y)])) (ys:=zj3 w) (g:=(zvA w zaO zbG zaZ zbD zcE iv7 hv7 zgl zaW kv7 zcx zbn zde zkx zes zdf)) (x89 K [1,0,1,1,1,1,1,1,0,1,0,0,1,1,0,0,1,1,1,1,0,1,0,0,1,0,0,1,0] [X5,X6]) (y89 K [1,0,1,1,1,1,1,1,0,1,0,0,1,1,0,0,1,1,1,1,0,1,0,0,1,0,0,1,0] [X5,X6]) (by kernel_rfl) (And.intro (zE enc_40 4 w.Net.Ties.get) (And.intro (rfl:((false,1,false,[none]):MQ)=(false,1,false,[none])) hc)) λ X7 hE hR =>
  (show ∀ l : List step, zHh K w zaO (X7 (l.map (λ y : step => [.agg (zaC y)]))) (zvI P5 P6 w zaO l) (zvH S5 S6 w zaO l) from zri (X := X7) (enc := (λ y : step => [.agg (zaC y)])) _ _ (zvG P5 P6 w zaO) (zvF S5 S6 w zaO) (λ Z P S => zHh K w zaO Z P S)
 (by intro zbG zaZ zbD zcE iv7 hv7 zgl zaW kv7 zcx zbn zde zkx zes zdf hs hk zhd zvL zka zhe;subst zhd;subst zvL;subst zka;subst zhe;exact hE _ (za2 (by kernel_rfl) (hX6 hs hk rfl rfl rfl rfl)))
 (by intro y7 rest P7 S7 hX7 zbG zaZ zbD zcE iv7 hv7 zgl zaW kv7 zcx zbn zde zkx zes zdf hs hk zhd zvL zka zhe;subst zhd;subst zvL;subst zka;subst zhe;exact hR _ rest _ (za2 (by kernel_rfl) (zc hs hk (λ hs hk=>(zc hs hk (λ hs hk=>(zaM hs λ hc hs=>And.intro hc (zaM hs λ hc hs=>And.intro hc (zc hs hk (λ hs hk=>(zaM hs λ hc hs=>And.intro hc (zaM hs λ hc hs=>And.intro hc (zc hs hk (λ hs hk=>(zaM hs λ hc hs=>And.intro hc (hX6 hs hk rfl rfl rfl (zit (enc:=zaC) (f:=zbn.get) (h:=(λ _=>y7)) rfl rfl)))) (λ hs hk=>(hX7 hs hk rfl rfl rfl rfl)))))) (λ hs hk=>(hX7 hs hk rfl rfl rfl rfl)))))) (λ hs hk=>(hX7 hs hk rfl rfl rfl rfl)))) (λ hs hk=>(hX7 hs hk rfl rfl rfl rfl)))))) _ hs hk zhd zvL zka zhe
def zvM (S5:Int->Bool->(Sl step)->Int->(Sl (Sl Tab))->(Sl step)) (w:web) (zaO:(Sl (Sl Tab))) (S6:Int->Bool->(Sl step)->Int->Int->(Sl Tab)->Int->Int->Int->(Sl (Sl Tab))->(Sl step)->(Sl step)) (zcz:Int) (zbj:Bool) (zbQ:(Sl step)) (zd7:Int) (iv6:Int) (hv6:(Sl Tab)) (zmr:Int) (zbF:Int) (kv6:Int) (zdG:(Sl (Sl Tab))) (zbU:(Sl step)):(Sl step) :=
  (cond (decide (kv6 ≥ (0:Int)))
 (zvJ S5 S6 w zaO zcz zbj zbQ zd7 iv6 hv6 zmr zbF kv6 zdG zbU)
 (cond zbj
 (zpu S5 w zaO zcz zbj zbQ zd7 true zdG zbU)
 (zpu S5 w zaO zcz zbj zbQ zd7 (decide ((zI9 zbU zbQ) < (0:Int))) zdG zbU)))
def zvN (P5:Int->Bool->(Sl step)->Int->(Sl (Sl Tab))->Bool) (w:web) (zaO:(Sl (Sl Tab))) (P6:Int->Bool->(Sl step)->Int->Int->(Sl Tab)->Int->Int->Int->(Sl (Sl Tab))->(Sl step)->Bool) (zcz:Int) (zbj:Bool) (zbQ:(Sl step)) (zd7:Int) (iv6:Int) (hv6:(Sl Tab)) (zmr:Int) (zbF:Int) (kv6:Int) (zdG:(Sl (Sl Tab))) (zbU:(Sl step)):Bool :=
  (cond (decide (kv6 ≥ (0:Int)))
 (zvK P5 P6 w zaO zcz zbj zbQ zd7 iv6 hv6 zmr zbF kv6 zdG zbU)
 (decide ((zbj=true∨zbQ.len ≠ 0)) &&
 (cond zbj
 (zpv P5 w zaO zcz zbj zbQ zd7 true zdG zbU)
 (decide ((zJV zbU zbQ=true)) &&
 (zpv P5 w zaO zcz zbj zbQ zd7 (decide ((zI9 zbU zbQ) < (0:Int))) zdG zbU)))))
def zvO (S5:Int->Bool->(Sl step)->Int->(Sl (Sl Tab))->(Sl step)) (w:web) (zaO:(Sl (Sl Tab))):Nat->Int->Bool->(Sl step)->Int->Int->(Sl Tab)->Int->Int->Int->(Sl (Sl Tab))->(Sl step)->(Sl step):=lpO (λ _ _ _ _ _ _ _ _ _ _ _=>default) (zvM S5 w zaO)
def zvP (P5:Int->Bool->(Sl step)->Int->(Sl (Sl Tab))->Bool) (w:web) (zaO:(Sl (Sl Tab))):Nat->Int->Bool->(Sl step)->Int->Int->(Sl Tab)->Int->Int->Int->(Sl (Sl Tab))->(Sl step)->Bool:=lpO (λ _ _ _ _ _ _ _ _ _ _ _=>false) (zvN P5 w zaO)
def zvQ (S5:Int->Bool->(Sl step)->Int->(Sl (Sl Tab))->(Sl step)) (w:web) (zaO:(Sl (Sl Tab))) (zcz:Int) (zbj:Bool) (zbQ:(Sl step)) (zd7:Int) (iv6:Int) (hv6:(Sl Tab)) (zmr:Int) (zbF:Int) (kv6:Int) (zdG:(Sl (Sl Tab))) (zbU:(Sl step)):(Sl step):=zvO S5 w zaO Fuel zcz zbj zbQ zd7 iv6 hv6 zmr zbF kv6 zdG zbU
def zvR (P5:Int->Bool->(Sl step)->Int->(Sl (Sl Tab))->Bool) (w:web) (zaO:(Sl (Sl Tab))) (zcz:Int) (zbj:Bool) (zbQ:(Sl step)) (zd7:Int) (iv6:Int) (hv6:(Sl Tab)) (zmr:Int) (zbF:Int) (kv6:Int) (zdG:(Sl (Sl Tab))) (zbU:(Sl step)):Bool:=zvP P5 w zaO Fuel zcz zbj zbQ zd7 iv6 hv6 zmr zbF kv6 zdG zbU
theorem zDJ (hX5:zvz K w zaO X5 P5 S5) (hs:zvR P5 w zaO zcz zbj zbQ zd7 iv6 hv6 zmr zbF kv6 zdG zbU=true) (hk:K (e89 (zvQ S5 w zaO zcz zbj zbQ zd7 iv6 hv6 zmr zbF kv6 zdG zbU))) (zmt:zem=zg zaC zbQ) (zDK:znS=zg zam hv6) (zpw:zfH=zg zcJ zdG) (zmu:zen=zg zaC zbU):z89 K [1,0,1,1,1,1,1,1,0,1,0,0,1,1,0,0,1,1,1,1,0,1,0] [X5] (zBq w zaO zcz zbj zbQ zd7 iv6 hv6 zmr zbF kv6 zdG zbU zem znS zfH zen) :=
  zl (λ X=>z89 K [1,0,1,1,1,1,1,1,0,1,0,0,1,1,0,0,1,1,1,1,0,1,0,0] [X5,X]) (by kernel_rfl) λ X6 hX =>
  (show ∀ k, zDE K w zaO X6 (zvP P5 w zaO k) (zvO S5 w zaO k) from zeF _ _ (zvN P5 w zaO) (zvM S5 w zaO) (zDE K w zaO X6)
 (by intro _ _ _ _ _ _ _ _ _ _ _ _ _ _ _ hs;exact absurd hs Bool.false_ne_true)
 (by intro P6 S6 hX6 zcz zbj zbQ zd7 iv6 hv6 zmr zbF kv6 zdG zbU zem znS zfH zen hs hk zmt zDK zpw zmu;subst zmt;subst zDK;subst zpw;subst zmu;exact hX _ (za2 (by kernel_rfl) (zc hs hk (λ hs hk=>(And.intro (And.intro (zE enc_40 4 w.Net.Ties.get) (rfl:((false,1,false,[none]):MQ)=(false,1,false,[none]))) (zDI hX5 hX6 hs hk rfl rfl rfl rfl))) (λ hs hk=>(zaM hs λ hc hs=>And.intro hc (zc hs hk (λ hs hk=>(zvE hX5 hs hk rfl rfl rfl)) (λ hs hk=>(zaM hs λ hc hs=>And.intro (And.intro (zE zaC 5 zbU.get) (And.intro (zE zaC 5 zbQ.get) hc)) (zvE hX5 hs hk rfl rfl rfl)))))))))) _ hs hk zmt zDK zpw zmu
def zvS (w:web) (zaO:(Sl (Sl Tab))) (S5:Int->Bool->(Sl step)->Int->(Sl (Sl Tab))->(Sl step)) (zb7:Int) (zbC:Bool) (zcu:(Sl step)) (zcg:Int) (zcW:(Sl (Sl Tab))):(Sl step) :=
  (cond (decide (zcg < (zaO.len : Int)))
 (cond (decide ((tL ((zcW.get zcg.toNat).get zb7.toNat) zcg) ≥ (0:Int)))
 (S5 zb7 zbC zcu (w64 (zcg+(1:Int))) zcW)
 (zvQ S5 w zaO zb7 zbC zcu zcg zcg (zcW.get zcg.toNat) zcg (0:Int) (w64 (zb7 - (1:Int))) zcW (⟨0,(λ _=>default)⟩:Sl step)))
 zcu)
def zvT (w:web) (zaO:(Sl (Sl Tab))) (P5:Int->Bool->(Sl step)->Int->(Sl (Sl Tab))->Bool) (zb7:Int) (zbC:Bool) (zcu:(Sl step)) (zcg:Int) (zcW:(Sl (Sl Tab))):Bool :=
  (cond (decide (zcg < (zaO.len : Int)))
 (decide ((0≤zcg/\zcg < (zcW.len:Int))) &&
 (decide ((zcg.toNat < zcW.len)) &&
 (decide ((0≤zb7/\zb7 < ((zcW.get zcg.toNat).len:Int))) &&
 (decide ((0≤zcg/\zcg < (40:Int))) &&
 (cond (decide ((tL ((zcW.get zcg.toNat).get zb7.toNat) zcg) ≥ (0:Int)))
 (P5 zb7 zbC zcu (w64 (zcg+(1:Int))) zcW)
 (zvR P5 w zaO zb7 zbC zcu zcg zcg (zcW.get zcg.toNat) zcg (0:Int) (w64 (zb7 - (1:Int))) zcW (⟨0,(λ _=>default)⟩:Sl step)))))))
 true)
def zvU (w:web) (zaO:(Sl (Sl Tab))):Nat->Int->Bool->(Sl step)->Int->(Sl (Sl Tab))->(Sl step):=lpO (λ _ _ _ _ _=>default) (zvS w zaO)
def zvV (w:web) (zaO:(Sl (Sl Tab))):Nat->Int->Bool->(Sl step)->Int->(Sl (Sl Tab))->Bool:=lpO (λ _ _ _ _ _=>false) (zvT w zaO)
def zvW (w:web) (zaO:(Sl (Sl Tab))) (zb7:Int) (zbC:Bool) (zcu:(Sl step)) (zcg:Int) (zcW:(Sl (Sl Tab))):(Sl step):=zvU w zaO Fuel zb7 zbC zcu zcg zcW
def zvX (w:web) (zaO:(Sl (Sl Tab))) (zb7:Int) (zbC:Bool) (zcu:(Sl step)) (zcg:Int) (zcW:(Sl (Sl Tab))):Bool:=zvV w zaO Fuel zb7 zbC zcu zcg zcW
theorem zDL (hs:zvX w zaO zb7 zbC zcu zcg zcW=true) (hk:K (e89 (zvW w zaO zb7 zbC zcu zcg zcW))) (zmv:zel=zg zaC zcu) (zpx:zfG=zg zcJ zcW):z89 K [1,0,1,1,1,1,1,1,0,1,0] [] (zBp w zaO zb7 zbC zcu zcg zcW zel zfG) :=
  zl (λ X=>z89 K [1,0,1,1,1,1,1,1,0,1,0,0] [X]) (by kernel_rfl) λ X5 hX =>
  (show ∀ k, zvz K w zaO X5 (zvV w zaO k) (zvU w zaO k) from zeF _ _ (zvT w zaO) (zvS w zaO) (zvz K w zaO X5)
 (by intro _ _ _ _ _ _ _ hs;exact absurd hs Bool.false_ne_true)
 (by intro P5 S5 hX5 zb7 zbC zcu zcg zcW zel zfG hs hk zmv zpx;subst zmv;subst zpx;exact hX _ (za2 (by kernel_rfl) (zc hs hk (λ hs hk=>(zaM hs λ hc hs=>And.intro hc (zaM hs λ hc hs=>And.intro hc (zaM hs λ hc hs=>And.intro hc (zaM hs λ hc hs=>And.intro hc (zc hs hk (λ hs hk=>(hX5 hs hk rfl rfl)) (λ hs hk=>(zDJ hX5 hs hk rfl rfl rfl rfl)))))))) (λ hs hk=>hk))))) _ hs hk zmv zpx
def zpy (w:web) (zj8:Int) (zaO:(Sl (Sl Tab))):(Sl step) :=
  (zvW w zaO zj8 true (⟨0,(λ _=>default)⟩:Sl step) (0:Int) zaO)
def zpz (w:web) (zj8:Int) (zaO:(Sl (Sl Tab))):Bool :=
  (zvX w zaO zj8 true (⟨0,(λ _=>default)⟩:Sl step) (0:Int) zaO)
theorem zvY (hs:zpz w zj8 zaO=true) (hk:K (e89 (zpy w zj8 zaO))) (zDM:zvC=zg zcJ zaO):z89 K [1,0,1,1,1,1,1] [] ⟨[(0,zP (.fp (zaB w) 0)),(3,zv 21),(5,zI zj8)],[(21,.vec 159 1 24 zaO.len zvC)],[]⟩:=by subst zDM;exact za2 (by kernel_rfl) (zDL hs hk rfl rfl)
def zvZ (S2:Int->(Sl step)) (w:web) (za9:(Sl (Sl Tab))) (S3:Int->Int->(Sl step)) (zb6:Int) (zcS:Int):(Sl step) :=
  (cond (decide (zcS < (za9.len : Int)))
 (cond (decide ((tL ((za9.get zcS.toNat).get zb6.toNat) zcS) < (0:Int)))
 (zpy w zb6 za9)
 (S3 zb6 (w64 (zcS+(1:Int)))))
 (S2 (w64 (zb6+(1:Int)))))
def zv0 (P2:Int->Bool) (w:web) (za9:(Sl (Sl Tab))) (P3:Int->Int->Bool) (zb6:Int) (zcS:Int):Bool :=
  (cond (decide (zcS < (za9.len : Int)))
 (decide ((0≤zcS/\zcS < (za9.len:Int))) &&
 (decide ((zcS.toNat < za9.len)) &&
 (decide ((0≤zb6/\zb6 < ((za9.get zcS.toNat).len:Int))) &&
 (decide ((0≤zcS/\zcS < (40:Int))) &&
 (cond (decide ((tL ((za9.get zcS.toNat).get zb6.toNat) zcS) < (0:Int)))
 (zpz w zb6 za9)
 (P3 zb6 (w64 (zcS+(1:Int)))))))))
 (P2 (w64 (zb6+(1:Int)))))
def zv1 (S2:Int->(Sl step)) (w:web) (za9:(Sl (Sl Tab))):Nat->Int->Int->(Sl step):=lpO (λ _ _=>default) (zvZ S2 w za9)
def zv2 (P2:Int->Bool) (w:web) (za9:(Sl (Sl Tab))):Nat->Int->Int->Bool:=lpO (λ _ _=>false) (zv0 P2 w za9)
def zv3 (S2:Int->(Sl step)) (w:web) (za9:(Sl (Sl Tab))) (zb6:Int) (zcS:Int):(Sl step):=zv1 S2 w za9 Fuel zb6 zcS
def zv4 (P2:Int->Bool) (w:web) (za9:(Sl (Sl Tab))) (zb6:Int) (zcS:Int):Bool:=zv2 P2 w za9 Fuel zb6 zcS
theorem zDN (hX2:zDD K w za9 X2 P2 S2) (hs:zv4 P2 w za9 zb6 zcS=true) (hk:K (e89 (zv3 S2 w za9 zb6 zcS))):z89 K [1,0,1,1,1,1,0,1,0,0,1,0,0,1,0] [X2] (zBo w za9 zb6 zcS) :=
  zl (λ X=>z89 K [1,0,1,1,1,1,0,1,0,0,1,0,0,1,0,0] [X2,X]) (by kernel_rfl) λ X3 hX =>
  (show ∀ k, zHg K w za9 X3 (zv2 P2 w za9 k) (zv1 S2 w za9 k) from zeF _ _ (zv0 P2 w za9) (zvZ S2 w za9) (zHg K w za9 X3)
 (by intro _ _ hs;exact absurd hs Bool.false_ne_true)
 (by intro P3 S3 hX3 zb6 zcS hs hk;exact hX _ (za2 (by kernel_rfl) (zc hs hk (λ hs hk=>(zaM hs λ hc hs=>And.intro hc (zaM hs λ hc hs=>And.intro hc (zaM hs λ hc hs=>And.intro hc (zaM hs λ hc hs=>And.intro hc (zc hs hk (λ hs hk=>(zvY hs hk rfl)) (λ hs hk=>(hX3 hs hk)))))))) (λ hs hk=>(hX2 hs hk)))))) _ hs hk
def zv5 (w:web) (za9:(Sl (Sl Tab))) (S2:Int->(Sl step)) (zcy:Int):(Sl step) :=
  (cond (decide (zcy < w.Net.Nodes))
 (zv3 S2 w za9 zcy (0:Int))
 (zpy w zcy za9))
def zv6 (w:web) (za9:(Sl (Sl Tab))) (P2:Int->Bool) (zcy:Int):Bool :=
  (cond (decide (zcy < w.Net.Nodes))
 (zv4 P2 w za9 zcy (0:Int))
 (zpz w zcy za9))
def zv7 (w:web) (za9:(Sl (Sl Tab))):Nat->Int->(Sl step):=lpO (λ _=>default) (zv5 w za9)
def zv8 (w:web) (za9:(Sl (Sl Tab))):Nat->Int->Bool:=lpO (λ _=>false) (zv6 w za9)
def zv9 (w:web) (za9:(Sl (Sl Tab))) (zcy:Int):(Sl step):=zv7 w za9 Fuel zcy
def zwa (w:web) (za9:(Sl (Sl Tab))) (zcy:Int):Bool:=zv8 w za9 Fuel zcy
theorem zDO (hs:zwa w za9 zcy=true) (hk:K (e89 (zv9 w za9 zcy))):z89 K [1,0,1,1,1,1,0,1,0] [] (zBn w za9 zcy) :=
  zl (λ X=>z89 K [1,0,1,1,1,1,0,1,0,0] [X]) (by kernel_rfl) λ X2 hX =>
  (show ∀ k, zDD K w za9 X2 (zv8 w za9 k) (zv7 w za9 k) from zeF _ _ (zv6 w za9) (zv5 w za9) (zDD K w za9 X2)
 (by intro _ hs;exact absurd hs Bool.false_ne_true)
 (by intro P2 S2 hX2 zcy hs hk;exact hX _ (za2 (by kernel_rfl) (zc hs hk (λ hs hk=>(zDN hX2 hs hk)) (λ hs hk=>(zvY hs hk rfl)))))) _ hs hk
def zwb (w:web) (za9:(Sl (Sl Tab))):(Sl step) :=
  (zv9 w za9 (1:Int))
def zwc (w:web) (za9:(Sl (Sl Tab))):Bool :=
  (zwa w za9 (1:Int))
theorem zDP (hs:zwc w za9=true) (hk:K (e89 (zwb w za9))) (zDQ:zvB=zg zcJ za9):z89 K [1,0,1,1] [] ⟨[(0,zP (.fp (zaB w) 0)),(3,zv 21)],[(21,.vec 159 1 24 za9.len zvB)],[]⟩:=by subst zDQ;exact za2 (by kernel_rfl) (zDO hs hk)
def zwd (w:web) (S0:Int->(Sl (Sl Tab))->(Sl step)) (zcL:Int) (zc8:(Sl (Sl Tab))):(Sl step) :=
  (cond (decide (zcL < (w.Net.Nodes.toNat : Int)))
 (S0 (w64 (zcL+(1:Int))) (⟨zc8.len,(setT zcL.toNat (zDu w zcL w.Net.Nodes) zc8.get)⟩:Sl (Sl Tab)))
 (zwb w zc8))
def zwe (w:web) (P0:Int->(Sl (Sl Tab))->Bool) (zcL:Int) (zc8:(Sl (Sl Tab))):Bool :=
  (cond (decide (zcL < (w.Net.Nodes.toNat : Int)))
 (decide ((zJL w zcL w.Net.Nodes=true)) &&
 (decide ((0≤zcL/\zcL < (zc8.len:Int))) &&
 (decide ((zcL.toNat < zc8.len)) &&
 (P0 (w64 (zcL+(1:Int))) (⟨zc8.len,(setT zcL.toNat (zDu w zcL w.Net.Nodes) zc8.get)⟩:Sl (Sl Tab))))))
 (zwc w zc8))
def zwf (w:web):Nat->Int->(Sl (Sl Tab))->(Sl step):=lpO (λ _ _=>default) (zwd w)
def zwg (w:web):Nat->Int->(Sl (Sl Tab))->Bool:=lpO (λ _ _=>false) (zwe w)
def zwh (w:web) (zcL:Int) (zc8:(Sl (Sl Tab))):(Sl step):=zwf w Fuel zcL zc8
def zwi (w:web) (zcL:Int) (zc8:(Sl (Sl Tab))):Bool:=zwg w Fuel zcL zc8
theorem zDR (hs:zwi w zcL zc8=true) (hk:K (e89 (zwh w zcL zc8))) (zpA:zfF=zg zcJ zc8):z89 K [1,0,1,0,1,0] [] (zBm w zcL zc8 zfF) :=
  zl (λ X=>z89 K [1,0,1,0,1,0,0] [X]) (by kernel_rfl) λ X0 hX =>
  (show ∀ k, zHf K w X0 (zwg w k) (zwf w k) from zeF _ _ (zwe w) (zwd w) (zHf K w X0)
 (by intro _ _ _ hs;exact absurd hs Bool.false_ne_true)
 (by intro P0 S0 hX0 zcL zc8 zfF hs hk zpA;subst zpA;exact hX _ (za2 (by kernel_rfl) (zc hs hk (λ hs hk=>(zaM hs λ hc hs=>And.intro (And.intro (zE enc_40 4 w.Net.Ties.get) (And.intro (rfl:((false,1,false,[none]):MQ)=(false,1,false,[none])) hc)) (zaM hs λ hc hs=>And.intro hc (zaM hs λ hc hs=>And.intro hc (hX0 hs hk (ze9 (enc:=zcJ) (i:=zcL.toNat) (k:=0) (f:=zc8.get) (new:=(zcJ (zDu w zcL w.Net.Nodes))) (v:=(zDu w zcL w.Net.Nodes)) rfl rfl)))))) (λ hs hk=>(zDP hs hk rfl)))))) _ hs hk zpA
def s89 (w:web):(Sl step) :=
  (zwh w (0:Int) (⟨w.Net.Nodes.toNat,(λ _=>(⟨0,λ _=>(λ _=>(0:Int))⟩:(Sl Tab)))⟩:Sl (Sl Tab)))
def p89 (w:web):Bool :=
  (decide ((0≤w.Net.Nodes/\w.Net.Nodes=w.Net.Nodes/\w.Net.Nodes≤1000000)) &&
 (zwi w (0:Int) (⟨w.Net.Nodes.toNat,(λ _=>(⟨0,λ _=>(λ _=>(0:Int))⟩:(Sl Tab)))⟩:Sl (Sl Tab))))
end
theorem q89 (w:web) (K:List PA->Prop) (hs:p89 w=true) (hk:K (e89 (s89 w))):vcFun Tryd.prog G89 zvy 89 [.one (.fp (zaB w) 0)] K :=
  za2 (by kernel_rfl) (zaM hs λ hc hs=>And.intro hc (zDR hs hk rfl))
def zAc : List PA → COut
  | [.one (.fp [.int .i64 zak,.sl zai zaA zaj,.fm za6 zaG zaH] 0)]=>.det (IsE enc_40 4 zaA zaj/\za6=(false,1,false,[none])/\p89 (⟨(⟨zak,(⟨zai,zan zaj⟩:(Sl Tie))⟩:Net),(⟨zaG,zaH⟩:Mp)⟩:web)=true) [.one (.sl ((s89 (⟨(⟨zak,(⟨zai,zan zaj⟩:(Sl Tie))⟩:Net),(⟨zaG,zaH⟩:Mp)⟩:web)).len) 5 (λ i=>zaC ((s89 (⟨(⟨zak,(⟨zai,zan zaj⟩:(Sl Tie))⟩:Net),(⟨zaG,zaH⟩:Mp)⟩:web)).get i)))]
  | _=>.no
theorem zHi:zav Tryd.prog 89:=⟨_,rfl,rfl,by kernel_rfl⟩
theorem zLe:Ok Tryd.prog 89 zAc:=zbk zJX zHi λ args K h=>by
  unfold zAc at h
  split at h
  · rename_i zak zai zaA zaj za6 zaG zaH
    obtain⟨⟨⟨rfl,zat,rfl⟩,rfl,hs⟩,hk⟩:=h
    try rw[zal zat] at hs
    try rw[zal zat] at hk
    exact⟨(λ _ _=>[]),(λ _=>false),zvy,q89 (⟨(⟨zak,(⟨zai,zat⟩:(Sl Tie))⟩:Net),(⟨zaG,zaH⟩:Mp)⟩:web) K hs hk⟩
  · exact h.elim
end Go.Proofs
/-
  DERIVED: THE SHELF's CONTRACTS AT THIS DUMP,IN PLAIN WORDS (tools/lay-plain.mjs out of 'YtedhjaaikeakoaaDoorPmLk.lean',which tools/lay-shelf.mjs wrote): THE SAME DECLARATIONS UNDER THE SAME NAMES: 'import','namespace','open','def','theorem' AND NOTHING ELSE: no command of the shelf's: FOR A HAND-IN. Each laying: the table of numbers ('.._ren') and one theorem,a field a fact of the dump's own or the kernel's comparison;each contract: ONE APPLICATION.
-/
namespace Go.Proofs
open Go.Shelf
def Tryd.keysA_ren:Go.Shelf.Ren:=⟨fun | 7=>103 | 10=>117 | n=>n,fun | 23=>103 | 26=>3 | 3=>4 | 28=>152 | 0=>0 | 27=>151 | 33=>169 | 4=>4 | n=>n,fun | n=>n⟩
theorem Tryd.keysA : Go.Proofs.SlLaysZI.n7 Tryd.prog Tryd.keysA_ren := {
  mixed:=by kernel_rfl
  f7:=⟨Tryd.f103.name,by decide,Tryd.func103.trans (congrArg some (by kernel_rfl))⟩
  f10:=⟨Tryd.f117.name,by decide,Tryd.func117.trans (congrArg some (by kernel_rfl))⟩
  t0:=Tryd.underlying0
  a0:=Tryd.isAgg0
  z0:=Tryd.sizeOf0
  v0:=Tryd.zeroValue0
  t4:=Tryd.underlying4
  a4:=Tryd.isAgg4
  z4:=Tryd.sizeOf4
  v4:=Tryd.zeroValue4
  t23:=Tryd.underlying103
  a23:=Tryd.isAgg103
  z23:=Tryd.sizeOf103
  v23:=Tryd.zeroValue103
  t26:=Tryd.underlying3
  a26:=Tryd.isAgg3
  z26:=Tryd.sizeOf3
  v26:=Tryd.zeroValue3
  t27:=Tryd.underlying151
  a27:=Tryd.isAgg151
  z27:=Tryd.sizeOf151
  v27:=Tryd.zeroValue151
  t28:=Tryd.underlying152
  a28:=Tryd.isAgg152
  z28:=Tryd.sizeOf152
  v28:=Tryd.zeroValue152
  t33:=Tryd.underlying169
  a33:=Tryd.isAgg169
  z33:=Tryd.sizeOf169
  v33:=Tryd.zeroValue169 }
def Tryd.sortedA_ren:Go.Shelf.Ren:=⟨fun | 6=>102 | 8=>115 | 9=>116 | 11=>129 | 13=>113 | 12=>130 | 23=>127 | 24=>128 | 14=>136 | 15=>137 | 16=>138 | 17=>139 | 18=>140 | 19=>141 | 20=>142 | 21=>143 | 22=>144 | 25=>146 | 26=>132 | 27=>133 | 28=>147 | 29=>148 | 30=>114 | 31=>149 | n=>n,fun | 26=>3 | 28=>152 | 24=>27 | 0=>0 | 3=>3 | 37=>168 | 48=>182 | 50=>184 | 4=>4 | 40=>175 | 39=>174 | 45=>179 | 5=>5 | 9=>9 | 51=>187 | 55=>191 | 57=>199 | 58=>200 | 33=>169 | n=>n,fun | n=>n⟩
theorem Tryd.sortedA : Go.Proofs.SlLaysZI.n6 Tryd.prog Tryd.sortedA_ren := {
  mixed:=by kernel_rfl
  f6:=⟨Tryd.f102.name,by decide,Tryd.func102.trans (congrArg some (by kernel_rfl))⟩
  f8:=⟨Tryd.f115.name,by decide,Tryd.func115.trans (congrArg some (by kernel_rfl))⟩
  f11:=⟨Tryd.f129.name,by decide,Tryd.func129.trans (congrArg some (by kernel_rfl))⟩
  t0:=Tryd.underlying0
  a0:=Tryd.isAgg0
  z0:=Tryd.sizeOf0
  v0:=Tryd.zeroValue0
  t24:=Tryd.underlying27
  a24:=Tryd.isAgg27
  z24:=Tryd.sizeOf27
  v24:=Tryd.zeroValue27
  t26:=Tryd.underlying3
  a26:=Tryd.isAgg3
  z26:=Tryd.sizeOf3
  v26:=Tryd.zeroValue3
  t28:=Tryd.underlying152
  a28:=Tryd.isAgg152
  z28:=Tryd.sizeOf152
  v28:=Tryd.zeroValue152
  i26:=by kernel_rfl }
def Tryd.sortA_ren:Go.Shelf.Ren:=⟨fun | 5=>116 | 8=>113 | 7=>130 | 19=>127 | 20=>128 | 10=>136 | 11=>137 | 12=>138 | 13=>139 | 14=>140 | 15=>141 | 16=>142 | 17=>143 | 18=>144 | 30=>146 | 31=>132 | 32=>133 | 33=>147 | 34=>148 | 35=>114 | 40=>149 | n=>n,fun | 23=>27 | 25=>3 | 3=>3 | 32=>168 | 22=>27 | 0=>0 | 44=>182 | 46=>184 | 4=>4 | 36=>175 | 35=>174 | 41=>179 | 5=>5 | 9=>9 | 53=>187 | 57=>191 | 63=>199 | 64=>200 | n=>n,fun | n=>n⟩
theorem Tryd.sortA : Go.Proofs.SlLaysM.n5 Tryd.prog Tryd.sortA_ren := {
  mixed:=by kernel_rfl
  f5:=⟨Tryd.f116.name,by decide,Tryd.func116.trans (congrArg some (by kernel_rfl))⟩
  f7:=⟨Tryd.f130.name,by decide,Tryd.func130.trans (congrArg some (by kernel_rfl))⟩
  f8:=Tryd.func113.trans (congrArg some (by kernel_rfl))
  f10:=⟨Tryd.f136.name,by decide,Tryd.func136.trans (congrArg some (by kernel_rfl))⟩
  f11:=⟨Tryd.f137.name,by decide,Tryd.func137.trans (congrArg some (by kernel_rfl))⟩
  f12:=⟨Tryd.f138.name,by decide,Tryd.func138.trans (congrArg some (by kernel_rfl))⟩
  f13:=⟨Tryd.f139.name,by decide,Tryd.func139.trans (congrArg some (by kernel_rfl))⟩
  f14:=⟨Tryd.f140.name,by decide,Tryd.func140.trans (congrArg some (by kernel_rfl))⟩
  f15:=⟨Tryd.f141.name,by decide,Tryd.func141.trans (congrArg some (by kernel_rfl))⟩
  f16:=⟨Tryd.f142.name,by decide,Tryd.func142.trans (congrArg some (by kernel_rfl))⟩
  f17:=⟨Tryd.f143.name,by decide,Tryd.func143.trans (congrArg some (by kernel_rfl))⟩
  f18:=⟨Tryd.f144.name,by decide,Tryd.func144.trans (congrArg some (by kernel_rfl))⟩
  f19:=Tryd.func127.trans (congrArg some (by kernel_rfl))
  f20:=Tryd.func128.trans (congrArg some (by kernel_rfl))
  f30:=⟨Tryd.f146.name,by decide,Tryd.func146.trans (congrArg some (by kernel_rfl))⟩
  f31:=Tryd.func132.trans (congrArg some (by kernel_rfl))
  f32:=Tryd.func133.trans (congrArg some (by kernel_rfl))
  f33:=⟨Tryd.f147.name,by decide,Tryd.func147.trans (congrArg some (by kernel_rfl))⟩
  f34:=⟨Tryd.f148.name,by decide,Tryd.func148.trans (congrArg some (by kernel_rfl))⟩
  f35:=⟨Tryd.f114.name,by decide,Tryd.func114.trans (congrArg some (by kernel_rfl))⟩
  f40:=⟨Tryd.f149.name,by decide,Tryd.func149.trans (congrArg some (by kernel_rfl))⟩
  t0:=Tryd.underlying0
  a0:=Tryd.isAgg0
  z0:=Tryd.sizeOf0
  v0:=Tryd.zeroValue0
  t3:=Tryd.underlying3
  a3:=Tryd.isAgg3
  z3:=Tryd.sizeOf3
  v3:=Tryd.zeroValue3
  t4:=Tryd.underlying4
  a4:=Tryd.isAgg4
  z4:=Tryd.sizeOf4
  v4:=Tryd.zeroValue4
  t5:=Tryd.underlying5
  a5:=Tryd.isAgg5
  z5:=Tryd.sizeOf5
  v5:=Tryd.zeroValue5
  t9:=Tryd.underlying9
  a9:=Tryd.isAgg9
  z9:=Tryd.sizeOf9
  v9:=Tryd.zeroValue9
  t22:=Tryd.underlying27
  a22:=Tryd.isAgg27
  z22:=Tryd.sizeOf27
  v22:=Tryd.zeroValue27
  t23:=Tryd.underlying27
  a23:=Tryd.isAgg27
  z23:=Tryd.sizeOf27
  v23:=Tryd.zeroValue27
  t25:=Tryd.underlying3
  a25:=Tryd.isAgg3
  z25:=Tryd.sizeOf3
  v25:=Tryd.zeroValue3
  t32:=Tryd.underlying168
  a32:=Tryd.isAgg168
  z32:=Tryd.sizeOf168
  v32:=Tryd.zeroValue168
  t35:=Tryd.underlying174
  a35:=Tryd.isAgg174
  z35:=Tryd.sizeOf174
  v35:=Tryd.zeroValue174
  t36:=Tryd.underlying175
  a36:=Tryd.isAgg175
  z36:=Tryd.sizeOf175
  v36:=Tryd.zeroValue175
  t41:=Tryd.underlying179
  a41:=Tryd.isAgg179
  z41:=Tryd.sizeOf179
  v41:=Tryd.zeroValue179
  t44:=Tryd.underlying182
  a44:=Tryd.isAgg182
  z44:=Tryd.sizeOf182
  v44:=Tryd.zeroValue182
  t46:=Tryd.underlying184
  a46:=Tryd.isAgg184
  z46:=Tryd.sizeOf184
  v46:=Tryd.zeroValue184
  t53:=Tryd.underlying187
  a53:=Tryd.isAgg187
  z53:=Tryd.sizeOf187
  v53:=Tryd.zeroValue187
  t57:=Tryd.underlying191
  a57:=Tryd.isAgg191
  z57:=Tryd.sizeOf191
  v57:=Tryd.zeroValue191
  t63:=Tryd.underlying199
  a63:=Tryd.isAgg199
  z63:=Tryd.sizeOf199
  v63:=Tryd.zeroValue199
  t64:=Tryd.underlying200
  a64:=Tryd.isAgg200
  z64:=Tryd.sizeOf200
  v64:=Tryd.zeroValue200 }
end Go.Proofs
namespace Go.Pm
open Go.RowKit Go.Maps Go.Sort Go.Shelf Go.Proofs
set_option maxRecDepth 100000

theorem zkb {F : List Int → Option (List Int)} : ∀ (f : Nat) (i : Int) (n : Nat) (l : List Int), zsX F f i n = some l → l.length = n ∧ (∀ x ∈ l, F [x] ≠ none ∧ i ≤ x ∧ x < i + f) ∧ l.Pairwise (· < ·)
  | _,_,0,l,h=>by simp[zsX] at h;subst h;exact⟨rfl,λ x hx=>by simp at hx,List.Pairwise.nil⟩
  | 0,_,n+1,l,h=>by simp[zsX] at h
  | f+1,i,n+1,l,h=>by
    simp only[zsX] at h
    split at h
    · rename_i v hv
      split at h
      · rename_i r hr
        simp only[Option.some.injEq] at h;subst h
        obtain⟨h1,h2,h3⟩:=zkb f (i+1) n r hr
        refine⟨by simp[h1],λ x hx=>?_,List.pairwise_cons.2 ⟨λ x hx=>by have:=h2 x hx;omega,h3⟩⟩
        rcases List.mem_cons.1 hx with rfl | hx
        · exact⟨by rw[hv];simp,by omega,by omega⟩
        · have:=h2 x hx;exact⟨this.1,by omega,by omega⟩
      · cases h
    · obtain ⟨h1, h2, h3⟩ := zkb f (i + 1) (n + 1) l h
      exact⟨h1,λ x hx=>by have:=h2 x hx;exact⟨this.1,by omega,by omega⟩,h3⟩
theorem zkc {α : Type} [DecidableEq α] : ∀ {l m : List α}, l.Nodup → (∀ x ∈ l, x ∈ m) → m.length ≤ l.length → l.Perm m
  | [],m,_,_,h=>by
    have:m=[]:=List.eq_nil_of_length_eq_zero (by simpa using h)
    subst this;exact .refl _
  | a :: l,m,hn,hs,h=>by
    obtain⟨h1,h2⟩:=List.nodup_cons.1 hn
    have ha:=hs a List.mem_cons_self
    have hp:=List.perm_cons_erase ha
    refine (List.Perm.cons a (zkc h2 (λ x hx=>?_) ?_)).trans hp.symm
    · exact (List.mem_erase_of_ne (λ e=>h1 (by rw[← e];exact hx))).2 (hs x (List.mem_cons_of_mem _ hx))
    · have := hp.length_eq
      simp at this h
      omega

theorem zAd:zmU Tryd.prog 103 (.keys 117):=λ w mb=>by
 refine⟨⟨_,rfl,rfl,by kernel_rfl⟩,?_⟩
 have c:CallsIn Fence.wide 5 Tryd.prog 103 #[.map (some mb)] w λ e w'=>e=.returned (.func (.func 117) #[] #[.pointer (some ⟨w.heap.size,0,none⟩)])/\w'=w.alloc (.cells #[.map (some mb)] 103):=AnyZI.keys_in Tryd.keysA Fence.wide 5 trivial rfl (some mb) w
 refine ((callsIn_wide (n:=5)).1 c).mono ?_
 rintro e w' ⟨rfl,rfl⟩
 exact⟨rfl,_,rfl⟩
theorem sortsA (m:Nat):AnyZI.SortsIn Tryd.prog Tryd.sortedA_ren Fence.wide m :=
  ⟨λ blk off cap ss W hH hblk hsz=>callsIn_wide.2 (AnyM.slices_Sort_int Tryd.sortA blk off cap ss W hH hblk hsz),
   λ p cap W=>callsIn_wide.2 (AnyM.slices_Sort_int_none Tryd.sortA p cap W)⟩

def rdN:Value->Option (DataW Unit×List MemPlace):=λ _=>some (.nil,[])
theorem zsQ:zmU Tryd.prog 102 (.sorted 117):=λ w h k mb C ty fr es clock vt q n F hw hk hC hb hE hm hn hky=>by
 refine⟨⟨_,rfl,rfl,by kernel_rfl⟩,?_⟩
 obtain⟨en,M⟩:=hm
 have E:=zgg hE
 have hq1:q.1=false:=by
  have e:=E.kag
  rw[show zev Tryd.prog 3=some false by kernel_rfl] at e
  exact (Option.some.inj e).symm
 have hq2:q.2.1=1:=by
  have e:=E.key
  rw[show zdz Tryd.prog 8 3=some 1 by kernel_rfl] at e
  exact (Option.some.inj e).symm
 obtain⟨l,hl⟩:=Option.isSome_iff_exists.1 hky
 have hll:zsY F n=l:=by unfold zsY;rw[hl];rfl
 obtain⟨l1,l2,l3⟩:=zkb _ _ _ _ hl
 rw[hll]
 have one:∀ x∈en,x.1=[x.1.headD 0]:=λ x hx=>by
  have:=(M.len x hx).1
  rw[hq2] at this
  match x.1,this with
  | [a],_=>rfl
 have hkeys:es.toList.map (·.key)=(en.map λ x=>x.1.headD 0).map encZ:=by
  have:=congrArg (List.map Prod.fst) M.ents
  simp only[List.map_map] at this ⊢
  refine (show es.toList.map (·.key)=_ from this).trans (List.map_congr_left λ x hx=>?_)
  show zbt q.1 x.1=encZ (x.1.headD 0)
  rw[hq1];rfl
 have hkn:(en.map λ x=>x.1.headD 0).Nodup:=by
  have:(en.map (·.1))=(en.map λ x=>x.1.headD 0).map λ a=>[a]:=by
   rw[List.map_map];exact List.map_congr_left λ x hx=>one x hx
  have hd:=M.nodup
  rw[this] at hd
  exact (List.pairwise_map.1 hd).imp λ h e=>h (by rw[e])
 have hperm:l.Perm (en.map λ x=>x.1.headD 0):=by
  refine zkc (l3.imp λ h=>Int.ne_of_lt h) (λ x hx=>?_) (by rw[List.length_map,← M.size,l1];exact Nat.le_refl _)
  have h1:=(l2 x hx).1
  rw[M.find [x] (by rw[hq2];rfl)] at h1
  by_cases hex:∃ y∈en,y.1=[x]
  ·obtain ⟨y, hy, e⟩ := hex
   exact List.mem_map.2 ⟨y,hy,by rw[e];rfl⟩
  ·exact absurd (zfZ λ y hy e=>hex ⟨y,hy,e⟩) h1
 have hread:∀ x∈es.toList,∃ a:Int,x.key=encZ a/\keyOf Tryd.prog 3 x.key=some (.int .i64 a):=λ x hx=>by
  have hm:x.key∈es.toList.map (·.key):=List.mem_map.2 ⟨x,hx,rfl⟩
  rw[hkeys] at hm
  obtain⟨a,ha,e⟩:=List.mem_map.1 hm
  have hb:=(l2 a (hperm.mem_iff.2 ha)).2
  refine⟨a,e.symm,?_⟩
  rw[← e]
  have hu:Tryd.prog.underlying 3=some (.int .i64):=Tryd.underlying3
  have hwf:(Lit.int .i64 a).wf=true:=by
   simp only[Lit.wf,Bool.and_eq_true,decide_eq_true_eq]
   have e1:IntKind.i64.min = -9223372036854775808:=by decide
   have e2:IntKind.i64.max=9223372036854775807:=by decide
   rw[e1,e2]
   have:=hb.2
   omega
  simp[keyOf,mapKey,hu,hwf]
 have hsize:es.size=n:=by
  have:=congrArg List.length M.ents
  simp at this
  rw[this,M.size]
 have hst:MapKept.Stamped es clock:=⟨M.born,M.bornN,by rw[hkeys];exact List.pairwise_map.2 (hkn.imp λ h e=>h (encZ_inj e))⟩
 have hown:w.ownsMap Tryd.prog 3 rdN mb n (.map ((es.toList.map (WideElems.rg Tryd.prog 3 rdN)).foldr DataW.insert [])) :=
  ⟨es,clock,hb,⟨by rw[hsize];exact Nat.le_trans hn (by decide),hst,λ x hx=>by
   obtain⟨a,e1,e2⟩:=hread x hx
   exact⟨(.int .i64 a,.nil),by simp only[WideElems.rd,e2,rdN,Option.bind_some,Option.map_some]⟩⟩,by omega,rfl⟩
 have hik:(intKeys (.map ((es.toList.map (WideElems.rg Tryd.prog 3 rdN)).foldr DataW.insert []))).Perm l:=by
  show (((es.toList.map (WideElems.rg Tryd.prog 3 rdN)).foldr DataW.insert []).map λ p=>intOf p.1).Perm l
  refine ((WideShapes.sorted_perm _).map _).trans (List.Perm.trans (List.Perm.of_eq ?_) hperm.symm)
  rw[List.map_map]
  have e:(en.map λ x=>x.1.headD 0)=es.toList.map λ x=>intOf ((keyOf Tryd.prog 3 x.key).getD (.bool false)):=by
   have h1:(en.map λ x=>x.1.headD 0)=((en.map λ x=>x.1.headD 0).map encZ).map λ v=>match v with | .int _ a=>a | _=>0:=by
    rw[List.map_map];exact (List.map_id _).symm
   rw[h1,← hkeys,List.map_map]
   refine List.map_congr_left λ x hx=>?_
   obtain⟨a,e1,e2⟩:=hread x hx
   simp only[Function.comp,e2]
   rw[e1];rfl
  rw[e]
  refine List.map_congr_left λ x hx=>?_
  obtain⟨a,e1,e2⟩:=hread x hx
  simp only[Function.comp,WideElems.rg,WideElems.rd,e2,rdN,Option.bind_some,Option.map_some,Option.getD_some]
 have hsz:Maps.size (DataW.map ((es.toList.map (WideElems.rg Tryd.prog 3 rdN)).foldr DataW.insert []):DataW Unit)=n:=by
  show List.length _=n
  rw[(WideShapes.sorted_perm _).length_eq];simp[hsize]
 have hlt:k < w.heap.size:=hw.lt hk
 have hcell:w.cell? ⟨k,0,none⟩=some (.map (some mb)):=by
  have:=hw.fz hk
  simp[World.cell?,this,hC]
 have hseq:SeqGives Fence.wide 2 Tryd.prog 117 #[.pointer (some ⟨k,0,none⟩)] encZ (λ ss=>ss.Perm (intKeys _)) (Maps.size _) w :=
  AnyZI.keys_gives (ρ:=Tryd.keysA_ren) { Tryd.keysA with } Fence.wide _ trivial rfl (by omega) k mb n _ w hlt hcell hown
 have cS:=AnyZI.sorted_in Tryd.sortedA Fence.wide 5 trivial trivial trivial trivial rfl (by omega) (sortsA _) (enters_of Tryd.func116 (by kernel_rfl) rfl) 117 #[.pointer (some ⟨k,0,none⟩)] trivial (enters_of Tryd.func117 (by kernel_rfl) rfl) _ _ (by rw[hsz];exact Nat.le_trans hn (by decide)) (by rw[hsz];omega) _ hseq
 change CallsIn _ _ Tryd.prog 102 _ _ _ at cS
 refine ((callsIn_wide (n:=5)).1 cS).mono ?_
 rintro e w' ⟨v,ss,rfl,hS,hrow,_,hbel⟩
 refine⟨v,rfl,?_,⟨hbel,Nat.zero_le _⟩⟩
 have hsl:ss.mergeSort (λ x y=>decide (x≤y))=l:=by
  rw[show ss.mergeSort (λ x y=>decide (x≤y))=l.mergeSort leI from mergeSort_of_perm_i (hS.trans hik)]
  exact List.mergeSort_of_pairwise (l3.imp λ h=>by simp only[leI,decide_eq_true_eq];exact Int.le_of_lt h)
 have hlen:ss.length=n:=by rw[(hS.trans hik).length_eq,l1]
 rw[hsl,hlen] at hrow
 exact hrow
end Go.Pm
namespace Go.Proofs
open Go Go.Pm
set_option maxRecDepth 100000
set_option linter.unusedVariables false
attribute [local irreducible] Go.Pm.vcFun Go.Pm.vc Go.Pm.vcIter
abbrev zBr:OwnK:=.sorted 117
theorem zJY:zmU Tryd.prog 102 zBr:=zsQ
abbrev zBs:OwnK:=.keys 117
theorem zJZ:zmU Tryd.prog 103 zBs:=zAd
structure Rec69 where
  S:web->Int->((Sl (Sl Int))×web)
  P:web->Int->Bool
class Slf69 where
  r:Rec69
section
variable [Slf69]
def zwj : MK
  | [.box 105 [.p (.int .i64 zax),.p (.sl zau zby zar),.mo 3 4 zdg zaP zaQ],.d (.one (.int .i64 b1))]=>some (IsE enc_40 4 zby zar/\zdg=(false,1,false,[none])/\Slf69.r.P (⟨(⟨zax,(⟨zau,zan zar⟩:(Sl Tie))⟩:Net),(⟨zaP,zaQ⟩:Mp)⟩:web) b1=true,[.one (.sl (((Slf69.r.S (⟨(⟨zax,(⟨zau,zan zar⟩:(Sl Tie))⟩:Net),(⟨zaP,zaQ⟩:Mp)⟩:web) b1).1).len) 1 (λ i=>zbW (((Slf69.r.S (⟨(⟨zax,(⟨zau,zan zar⟩:(Sl Tie))⟩:Net),(⟨zaP,zaQ⟩:Mp)⟩:web) b1).1).get i)))],[.box 105 [.p (.int .i64 (((Slf69.r.S (⟨(⟨zax,(⟨zau,zan zar⟩:(Sl Tie))⟩:Net),(⟨zaP,zaQ⟩:Mp)⟩:web) b1).2).Net.Nodes)),.p (.sl (((Slf69.r.S (⟨(⟨zax,(⟨zau,zan zar⟩:(Sl Tie))⟩:Net),(⟨zaP,zaQ⟩:Mp)⟩:web) b1).2).Net.Ties.len) 4 (λ i=>enc_40 (((Slf69.r.S (⟨(⟨zax,(⟨zau,zan zar⟩:(Sl Tie))⟩:Net),(⟨zaP,zaQ⟩:Mp)⟩:web) b1).2).Net.Ties.get i))),.mo 3 4 (false,1,false,[none]) ((((Slf69.r.S (⟨(⟨zax,(⟨zau,zan zar⟩:(Sl Tie))⟩:Net),(⟨zaP,zaQ⟩:Mp)⟩:web) b1).2).out).n) ((((Slf69.r.S (⟨(⟨zax,(⟨zau,zan zar⟩:(Sl Tie))⟩:Net),(⟨zaP,zaQ⟩:Mp)⟩:web) b1).2).out).F)],.d (.one (.int .i64 b1))])
  | _=>none
abbrev T69:Tabs:=(((((Tabs.nil.addF 88 zuV).addF 89 zAc).addO 102 zBr).addO 103 zBs).addM 69 zwj)
theorem zJ0 (hself:ziH Tryd.prog 69 zwj):TabsOk Tryd.prog T69:=(((((TabsOk.nil.addF zJD).addF zLe).addO zJY).addO zJZ).addM hself)
abbrev zAe:Ctrs:=csm T69 (λ _ _=>[]) (λ _=>false)
def zfa:Ann:=⟨57,[(0,zK [0,1] [0,12288]),(1,zK [0,1,10] [0,12288]),(2,zK [0,4] [0,17,12288]),(3,zK [0,1,19] [0,12288]),(4,zK [0,4] [0,12288]),(5,zK [0,1,5] [0,12288]),(6,zK [0,1,5,21,22,23] [0,12288]),(7,zK [0,1,5,21,22,23,24] [0,47,12288]),(8,zK [0,1,5,7,21,22,23] [0,7,47,12288]),(9,zK [0,1,5,7,21,22,23,34] [0,7,47,12288]),(10,zK [0,1,5,7,21,22,23] [0,7,47,12288]),(11,zK [0,1,5,7,21,22,23] [0,7,47,12288]),(12,zK [0,1,5,21,22,23] [0,47,12288]),(13,zK [0,1,5,21,22,23] [0,47,12288]),(14,zK [0,4] [0,47,12288])],
 [(7,⟨[0,1,5,21,22,23],[0,47,12288],[(5,47,27,λ _=>zbW default)],[],[],[],[]⟩)],
 [],
 [],[]⟩
def zfI (w:web) (left:Int) (zaD:Int) (zaY:Int) (zfJ:Nat) (zcj:Nat->List PV) (zfK:Nat) (zck:Nat->List PV) (zah:Nat) (zab:(List Int->Option (List Int))):St:=⟨[(0,.one (.c (.ptr 0 0))),(1,.one (.c (.p (.int .i64 left)))),(5,.one (.c (.vec 47))),(21,.one (.c (.p (.sl ((s89 w).len) 5 (λ i=>zaC ((s89 w).get i)))))),(22,.one (.c (.p (.int .i64 ((s89 w).len:Int))))),(23,.one (.c (.p (.int .i64 zaD))))],[(0,.box 105 [.p (.int .i64 zaY),.p (.sl zfJ 4 zcj),.mo 12288]),(47,.vec 27 1 24 zfK zck),(12288,.mo 3 4 (false,1,false,[none]) zah zab)],[]⟩
def zhf (K:List PA×List XA->Prop) (w:web) (left:Int) (zaD:Int) (zaY:Int) (zfJ:Nat) (zcj:Nat->List PV) (zfK:Nat) (zck:Nat->List PV) (zah:Nat) (zab:(List Int->Option (List Int))):Prop:=vc Tryd.prog zAe zfa (cdF Tryd.f69 [1,1,1,1,0,1,0]) (ze6 0 (sqK Tryd.prog zAe zfa (cdF Tryd.f69 [1,1,1,1,1]) (zkw Tryd.prog Tryd.f69 [.box 105 [.p (.int .i64 w.Net.Nodes),.p (.sl w.Net.Ties.len 4 (λ i=>enc_40 (w.Net.Ties.get i))),.mo 3 4 (false,1,false,[none]) w.out.n w.out.F],.d (.one (.int .i64 left))] (λ a b=>K (a,b))))) (zfI w left zaD zaY zfJ zcj zfK zck zah zab)
theorem zAf (w : web) (left : Int) (K : List PA × List XA → Prop) :
  zjW Tryd.prog zAe zfa 69 [.box 105 [.p (.int .i64 w.Net.Nodes),.p (.sl w.Net.Ties.len 4 (λ i=>enc_40 (w.Net.Ties.get i))),.mo 3 4 (false,1,false,[none]) w.out.n w.out.F],.d (.one (.int .i64 left))] (λ a b=>K (a,b)) =
  ((IsE enc_40 4 4 (λ i=>enc_40 (w.Net.Ties.get i))/\((false,1,false,[none]):MQ)=(false,1,false,[none])/\(p88 w=true)) /\
 (zc4 (!(s88 w))
 (((w.out.n≤1000000/\(zsX w.out.F 9223372036854775808 0 w.out.n).isSome=true)) /\
 (K ([.one (.sl 1 1 (λ _=>(zbW (⟨w.out.n,(λ i=>(zsY w.out.F w.out.n).getD i 0)⟩:(Sl Int)))))],[.box 105 [.p (.int .i64 w.Net.Nodes),.p (.sl w.Net.Ties.len 4 (λ i=>enc_40 (w.Net.Ties.get i))),.mo 3 4 (false,1,false,[none]) w.out.n w.out.F],.d (.one (.int .i64 left))])))
 (zc4 (left == (0:Int))
 (K ([.one (.nils)],[.box 105 [.p (.int .i64 w.Net.Nodes),.p (.sl w.Net.Ties.len 4 (λ i=>enc_40 (w.Net.Ties.get i))),.mo 3 4 (false,1,false,[none]) w.out.n w.out.F],.d (.one (.int .i64 left))]))
 (((∀ i,sc2 ((λ i=>zaC ((s89 w).get i)) i)=true)/\IsE enc_40 4 4 (λ i=>enc_40 (w.Net.Ties.get i))/\((false,1,false,[none]):MQ)=(false,1,false,[none])/\(p89 w=true)) /\
 (zhf K w left (0:Int) w.Net.Nodes w.Net.Ties.len (λ i=>enc_40 (w.Net.Ties.get i)) 0 (λ i=>zbW ((λ _=>default) i)) w.out.n w.out.F))))):=by kernel_rfl
def zla (K:List PA×List XA->Prop) (X0:St->Prop) (w:web) (left:Int) (zaD:Int) (zaY:Int) (za0:(Sl Tie)) (zbo:(Sl (Sl Int))) (zah:Nat) (zab:(List Int->Option (List Int))):Prop :=
  (zc4 (decide (zaD < ((s89 w).len : Int)))
 (((0≤zaD/\zaD < ((s89 w).len:Int))) /\
 (zc4 ((zsf (zab [((s89 w).get zaD.toNat).Use.Tie]) 0) != 0)
 (X0 (zfI w left (w64 (zaD+(1:Int))) zaY za0.len (λ i=>enc_40 (za0.get i)) zbo.len (λ i=>zbW (zbo.get i)) zah zab))
 ((IsE enc_40 4 4 (λ i=>enc_40 (za0.get i))/\((false,1,false,[none]):MQ)=(false,1,false,[none])/\(Slf69.r.P (⟨(⟨zaY,za0⟩:Net),(⟨(addN (zab [((s89 w).get zaD.toNat).Use.Tie]) zah),(zdI [((s89 w).get zaD.toNat).Use.Tie] [1] zab)⟩:Mp)⟩:web) (w64 (left - (1:Int)))=true)) /\
 ((((zbo.len+((Slf69.r.S (⟨(⟨zaY,za0⟩:Net),(⟨(addN (zab [((s89 w).get zaD.toNat).Use.Tie]) zah),(zdI [((s89 w).get zaD.toNat).Use.Tie] [1] zab)⟩:Mp)⟩:web) (w64 (left - (1:Int)))).1).len) * 24≤140737488355328/\zbo.len+((Slf69.r.S (⟨(⟨zaY,za0⟩:Net),(⟨(addN (zab [((s89 w).get zaD.toNat).Use.Tie]) zah),(zdI [((s89 w).get zaD.toNat).Use.Tie] [1] zab)⟩:Mp)⟩:web) (w64 (left - (1:Int)))).1).len≤9223372036854775807)) /\
 (X0 (zfI w left (w64 (zaD+(1:Int))) (((Slf69.r.S (⟨(⟨zaY,za0⟩:Net),(⟨(addN (zab [((s89 w).get zaD.toNat).Use.Tie]) zah),(zdI [((s89 w).get zaD.toNat).Use.Tie] [1] zab)⟩:Mp)⟩:web) (w64 (left - (1:Int)))).2).Net.Nodes) (((Slf69.r.S (⟨(⟨zaY,za0⟩:Net),(⟨(addN (zab [((s89 w).get zaD.toNat).Use.Tie]) zah),(zdI [((s89 w).get zaD.toNat).Use.Tie] [1] zab)⟩:Mp)⟩:web) (w64 (left - (1:Int)))).2).Net.Ties.len) (λ i=>enc_40 (((Slf69.r.S (⟨(⟨zaY,za0⟩:Net),(⟨(addN (zab [((s89 w).get zaD.toNat).Use.Tie]) zah),(zdI [((s89 w).get zaD.toNat).Use.Tie] [1] zab)⟩:Mp)⟩:web) (w64 (left - (1:Int)))).2).Net.Ties.get i)) (zbo.len+((Slf69.r.S (⟨(⟨zaY,za0⟩:Net),(⟨(addN (zab [((s89 w).get zaD.toNat).Use.Tie]) zah),(zdI [((s89 w).get zaD.toNat).Use.Tie] [1] zab)⟩:Mp)⟩:web) (w64 (left - (1:Int)))).1).len) (appG zbo.len (λ i=>zbW (zbo.get i)) (λ i=>zbW (((Slf69.r.S (⟨(⟨zaY,za0⟩:Net),(⟨(addN (zab [((s89 w).get zaD.toNat).Use.Tie]) zah),(zdI [((s89 w).get zaD.toNat).Use.Tie] [1] zab)⟩:Mp)⟩:web) (w64 (left - (1:Int)))).1).get i))) (zAK (((((Slf69.r.S (⟨(⟨zaY,za0⟩:Net),(⟨(addN (zab [((s89 w).get zaD.toNat).Use.Tie]) zah),(zdI [((s89 w).get zaD.toNat).Use.Tie] [1] zab)⟩:Mp)⟩:web) (w64 (left - (1:Int)))).2).out).F) [((s89 w).get zaD.toNat).Use.Tie]) ((((Slf69.r.S (⟨(⟨zaY,za0⟩:Net),(⟨(addN (zab [((s89 w).get zaD.toNat).Use.Tie]) zah),(zdI [((s89 w).get zaD.toNat).Use.Tie] [1] zab)⟩:Mp)⟩:web) (w64 (left - (1:Int)))).2).out).n)) (zyS [((s89 w).get zaD.toNat).Use.Tie] ((((Slf69.r.S (⟨(⟨zaY,za0⟩:Net),(⟨(addN (zab [((s89 w).get zaD.toNat).Use.Tie]) zah),(zdI [((s89 w).get zaD.toNat).Use.Tie] [1] zab)⟩:Mp)⟩:web) (w64 (left - (1:Int)))).2).out).F))))))))
 (K ([.one (.sl zbo.len 1 (λ i=>zbW (zbo.get i)))],[.box 105 [.p (.int .i64 zaY),.p (.sl za0.len 4 (λ i=>enc_40 (za0.get i))),.mo 3 4 (false,1,false,[none]) zah zab],.d (.one (.int .i64 left))])))
theorem znT (K : List PA × List XA → Prop) (X0 : St → Prop) (w : web) (left : Int) (zaD : Int) (zaY : Int) (za0 : (Sl Tie)) (zbo : (Sl (Sl Int))) (zah : Nat) (zab : (List Int → Option (List Int))) :
  vc Tryd.prog zAe zfa (cd (cdF Tryd.f69 [1,1,1,1,0,1,0]) [0]) (zsk Tryd.prog zfa 7 X0 (ze6 0 (sqK Tryd.prog zAe zfa (cdF Tryd.f69 [1,1,1,1,1]) (zkw Tryd.prog Tryd.f69 [.box 105 [.p (.int .i64 w.Net.Nodes),.p (.sl w.Net.Ties.len 4 (λ i=>enc_40 (w.Net.Ties.get i))),.mo 3 4 (false,1,false,[none]) w.out.n w.out.F],.d (.one (.int .i64 left))] (λ a b=>K (a,b)))))) (zfI w left zaD zaY za0.len (λ i=>enc_40 (za0.get i)) zbo.len (λ i=>zbW (zbo.get i)) zah zab) =
  zla K X0 w left zaD zaY za0 zbo zah zab:=by kernel_rfl
theorem zsR (K : List PA × List XA → Prop) (w : web) (left : Int) (zaD : Int) (zaY : Int) (zfJ : Nat) (zcj : Nat → List PV) (zfK : Nat) (zck : Nat → List PV) (zah : Nat) (zab : (List Int → Option (List Int)))
  (h:∀ X0:St->Prop,(∀ (zaD:Int) (zaY:Int) (za0:(Sl Tie)) (zbo:(Sl (Sl Int))) (zah:Nat) (zab:(List Int->Option (List Int))),zla K X0 w left zaD zaY za0 zbo zah zab->X0 (zfI w left zaD zaY za0.len (λ i=>enc_40 (za0.get i)) zbo.len (λ i=>zbW (zbo.get i)) zah zab))->X0 (zfI w left zaD zaY zfJ zcj zfK zck zah zab)) :
  zhf K w left zaD zaY zfJ zcj zfK zck zah zab:=by
  have e:zhf K w left zaD zaY zfJ zcj zfK zck zah zab=(∀ X:St->Prop,(∀ s,vc Tryd.prog zAe zfa (cd (cdF Tryd.f69 [1,1,1,1,0,1,0]) [0]) (zsk Tryd.prog zfa 7 X (ze6 0 (sqK Tryd.prog zAe zfa (cdF Tryd.f69 [1,1,1,1,1]) (zkw Tryd.prog Tryd.f69 [.box 105 [.p (.int .i64 w.Net.Nodes),.p (.sl w.Net.Ties.len 4 (λ i=>enc_40 (w.Net.Ties.get i))),.mo 3 4 (false,1,false,[none]) w.out.n w.out.F],.d (.one (.int .i64 left))] (λ a b=>K (a,b)))))) s->X s)->X (zfI w left zaD zaY zfJ zcj zfK zck zah zab)):=by kernel_rfl
  refine za2 e ?_
  intro X hX
  refine h X ?_
  intro zaD zaY za0 zbo zah zab hs
  refine hX _ ?_
  have e2:=znT K X w left zaD zaY za0 zbo zah zab
  rw[e2]
  exact hs
abbrev zBt (left:Int) (r:((Sl (Sl Int))×web)):List PA×List XA:=([.one (.sl r.1.len 1 (λ i=>zbW (r.1.get i)))],[.box 105 [.p (.int .i64 r.2.Net.Nodes),.p (.sl r.2.Net.Ties.len 4 (λ i=>enc_40 (r.2.Net.Ties.get i))),.mo 3 4 (false,1,false,[none]) r.2.out.n r.2.out.F],.d (.one (.int .i64 left))])
attribute [irreducible] zhf
def zmw (w:web) (left:Int) (S0:Int->Int->(Sl Tie)->(Sl (Sl Int))->Nat->(List Int->Option (List Int))->((Sl (Sl Int))×web)) (zaD:Int) (zaY:Int) (za0:(Sl Tie)) (zbo:(Sl (Sl Int))) (zah:Nat) (zab:(List Int->Option (List Int))):((Sl (Sl Int))×web) :=
  (cond (decide (zaD < ((s89 w).len : Int)))
 (cond ((zsf (zab [((s89 w).get zaD.toNat).Use.Tie]) 0) != 0)
 (S0 (w64 (zaD+(1:Int))) zaY za0 zbo zah zab)
 (S0 (w64 (zaD+(1:Int))) (((Slf69.r.S (⟨(⟨zaY,za0⟩:Net),(⟨(addN (zab [((s89 w).get zaD.toNat).Use.Tie]) zah),(zdI [((s89 w).get zaD.toNat).Use.Tie] [1] zab)⟩:Mp)⟩:web) (w64 (left - (1:Int)))).2).Net.Nodes) (((Slf69.r.S (⟨(⟨zaY,za0⟩:Net),(⟨(addN (zab [((s89 w).get zaD.toNat).Use.Tie]) zah),(zdI [((s89 w).get zaD.toNat).Use.Tie] [1] zab)⟩:Mp)⟩:web) (w64 (left - (1:Int)))).2).Net.Ties) (⟨(zbo.len+((Slf69.r.S (⟨(⟨zaY,za0⟩:Net),(⟨(addN (zab [((s89 w).get zaD.toNat).Use.Tie]) zah),(zdI [((s89 w).get zaD.toNat).Use.Tie] [1] zab)⟩:Mp)⟩:web) (w64 (left - (1:Int)))).1).len),(zf2 zbo.len zbo.get ((Slf69.r.S (⟨(⟨zaY,za0⟩:Net),(⟨(addN (zab [((s89 w).get zaD.toNat).Use.Tie]) zah),(zdI [((s89 w).get zaD.toNat).Use.Tie] [1] zab)⟩:Mp)⟩:web) (w64 (left - (1:Int)))).1).get)⟩:Sl (Sl Int)) (zAK (((((Slf69.r.S (⟨(⟨zaY,za0⟩:Net),(⟨(addN (zab [((s89 w).get zaD.toNat).Use.Tie]) zah),(zdI [((s89 w).get zaD.toNat).Use.Tie] [1] zab)⟩:Mp)⟩:web) (w64 (left - (1:Int)))).2).out).F) [((s89 w).get zaD.toNat).Use.Tie]) ((((Slf69.r.S (⟨(⟨zaY,za0⟩:Net),(⟨(addN (zab [((s89 w).get zaD.toNat).Use.Tie]) zah),(zdI [((s89 w).get zaD.toNat).Use.Tie] [1] zab)⟩:Mp)⟩:web) (w64 (left - (1:Int)))).2).out).n)) (zyS [((s89 w).get zaD.toNat).Use.Tie] ((((Slf69.r.S (⟨(⟨zaY,za0⟩:Net),(⟨(addN (zab [((s89 w).get zaD.toNat).Use.Tie]) zah),(zdI [((s89 w).get zaD.toNat).Use.Tie] [1] zab)⟩:Mp)⟩:web) (w64 (left - (1:Int)))).2).out).F))))
 (zbo,(⟨(⟨zaY,za0⟩:Net),(⟨zah,zab⟩:Mp)⟩:web)))
def zmx (w:web) (left:Int) (P0:Int->Int->(Sl Tie)->(Sl (Sl Int))->Nat->(List Int->Option (List Int))->Bool) (zaD:Int) (zaY:Int) (za0:(Sl Tie)) (zbo:(Sl (Sl Int))) (zah:Nat) (zab:(List Int->Option (List Int))):Bool :=
  (cond (decide (zaD < ((s89 w).len : Int)))
 (decide ((0≤zaD/\zaD < ((s89 w).len:Int))) &&
 (cond ((zsf (zab [((s89 w).get zaD.toNat).Use.Tie]) 0) != 0)
 (P0 (w64 (zaD+(1:Int))) zaY za0 zbo zah zab)
 (decide ((Slf69.r.P (⟨(⟨zaY,za0⟩:Net),(⟨(addN (zab [((s89 w).get zaD.toNat).Use.Tie]) zah),(zdI [((s89 w).get zaD.toNat).Use.Tie] [1] zab)⟩:Mp)⟩:web) (w64 (left - (1:Int)))=true)) &&
 (decide (((zbo.len+((Slf69.r.S (⟨(⟨zaY,za0⟩:Net),(⟨(addN (zab [((s89 w).get zaD.toNat).Use.Tie]) zah),(zdI [((s89 w).get zaD.toNat).Use.Tie] [1] zab)⟩:Mp)⟩:web) (w64 (left - (1:Int)))).1).len) * 24≤140737488355328/\zbo.len+((Slf69.r.S (⟨(⟨zaY,za0⟩:Net),(⟨(addN (zab [((s89 w).get zaD.toNat).Use.Tie]) zah),(zdI [((s89 w).get zaD.toNat).Use.Tie] [1] zab)⟩:Mp)⟩:web) (w64 (left - (1:Int)))).1).len≤9223372036854775807)) &&
 (P0 (w64 (zaD+(1:Int))) (((Slf69.r.S (⟨(⟨zaY,za0⟩:Net),(⟨(addN (zab [((s89 w).get zaD.toNat).Use.Tie]) zah),(zdI [((s89 w).get zaD.toNat).Use.Tie] [1] zab)⟩:Mp)⟩:web) (w64 (left - (1:Int)))).2).Net.Nodes) (((Slf69.r.S (⟨(⟨zaY,za0⟩:Net),(⟨(addN (zab [((s89 w).get zaD.toNat).Use.Tie]) zah),(zdI [((s89 w).get zaD.toNat).Use.Tie] [1] zab)⟩:Mp)⟩:web) (w64 (left - (1:Int)))).2).Net.Ties) (⟨(zbo.len+((Slf69.r.S (⟨(⟨zaY,za0⟩:Net),(⟨(addN (zab [((s89 w).get zaD.toNat).Use.Tie]) zah),(zdI [((s89 w).get zaD.toNat).Use.Tie] [1] zab)⟩:Mp)⟩:web) (w64 (left - (1:Int)))).1).len),(zf2 zbo.len zbo.get ((Slf69.r.S (⟨(⟨zaY,za0⟩:Net),(⟨(addN (zab [((s89 w).get zaD.toNat).Use.Tie]) zah),(zdI [((s89 w).get zaD.toNat).Use.Tie] [1] zab)⟩:Mp)⟩:web) (w64 (left - (1:Int)))).1).get)⟩:Sl (Sl Int)) (zAK (((((Slf69.r.S (⟨(⟨zaY,za0⟩:Net),(⟨(addN (zab [((s89 w).get zaD.toNat).Use.Tie]) zah),(zdI [((s89 w).get zaD.toNat).Use.Tie] [1] zab)⟩:Mp)⟩:web) (w64 (left - (1:Int)))).2).out).F) [((s89 w).get zaD.toNat).Use.Tie]) ((((Slf69.r.S (⟨(⟨zaY,za0⟩:Net),(⟨(addN (zab [((s89 w).get zaD.toNat).Use.Tie]) zah),(zdI [((s89 w).get zaD.toNat).Use.Tie] [1] zab)⟩:Mp)⟩:web) (w64 (left - (1:Int)))).2).out).n)) (zyS [((s89 w).get zaD.toNat).Use.Tie] ((((Slf69.r.S (⟨(⟨zaY,za0⟩:Net),(⟨(addN (zab [((s89 w).get zaD.toNat).Use.Tie]) zah),(zdI [((s89 w).get zaD.toNat).Use.Tie] [1] zab)⟩:Mp)⟩:web) (w64 (left - (1:Int)))).2).out).F)))))))
 true)
def zhg (w : web) (left : Int) : Nat → Int → Int → (Sl Tie) → (Sl (Sl Int)) → Nat → (List Int → Option (List Int)) → ((Sl (Sl Int)) × web)
  | 0=>λ _ _ _ _ _ _=>default
  | k+1=>zmw w left (zhg w left k)
def zhh (w : web) (left : Int) : Nat → Int → Int → (Sl Tie) → (Sl (Sl Int)) → Nat → (List Int → Option (List Int)) → Bool
  | 0=>λ _ _ _ _ _ _=>false
  | k+1=>zmx w left (zhh w left k)
def zrL (w:web) (left:Int) (zaD:Int) (zaY:Int) (za0:(Sl Tie)) (zbo:(Sl (Sl Int))) (zah:Nat) (zab:(List Int->Option (List Int))):((Sl (Sl Int))×web):=zhg w left Fuel zaD zaY za0 zbo zah zab
def zrM (w:web) (left:Int) (zaD:Int) (zaY:Int) (za0:(Sl Tie)) (zbo:(Sl (Sl Int))) (zah:Nat) (zab:(List Int->Option (List Int))):Bool:=zhh w left Fuel zaD zaY za0 zbo zah zab
theorem zAg (K:List PA×List XA->Prop) (w:web) (left:Int) (zaD:Int) (zaY:Int) (za0:(Sl Tie)) (zbo:(Sl (Sl Int))) (zah:Nat) (zab:(List Int->Option (List Int))) (zcj:Nat->List PV) (zkd:zcj=λ i=>enc_40 (za0.get i)) (zck:Nat->List PV) (zke:zck=λ i=>zbW (zbo.get i)) (hs:zrM w left zaD zaY za0 zbo zah zab=true) (hk:K (zBt left (zrL w left zaD zaY za0 zbo zah zab))):zhf (WkM K) w left zaD zaY za0.len zcj zbo.len zck zah zab:=by
  refine zsR (WkM K) w left zaD zaY za0.len zcj zbo.len zck zah zab ?_
  intro X0 hstep
  have key:∀ (k:Nat) (zaD:Int) (zaY:Int) (za0:(Sl Tie)) (zbo:(Sl (Sl Int))) (zah:Nat) (zab:(List Int->Option (List Int))) (zcj:Nat->List PV) (zkd:zcj=λ i=>enc_40 (za0.get i)) (zck:Nat->List PV) (zke:zck=λ i=>zbW (zbo.get i)),zhh w left k zaD zaY za0 zbo zah zab=true->K (zBt left (zhg w left k zaD zaY za0 zbo zah zab))->X0 (zfI w left zaD zaY za0.len zcj zbo.len zck zah zab):=by
    intro k
    induction k with
    | zero=>intro zaD zaY za0 zbo zah zab zcj zkd zck zke hs;exact absurd hs Bool.false_ne_true
    | succ k ih =>
      intro zaD zaY za0 zbo zah zab zcj zkd zck zke hs hk
      subst zkd
      subst zke
      refine hstep zaD zaY za0 zbo zah zab ?_
      have hs:zmx w left (zhh w left k) zaD zaY za0 zbo zah zab=true:=hs
      have hk:K (zBt left (zmw w left (zhg w left k) zaD zaY za0 zbo zah zab)):=hk
      unfold zmx at hs
      unfold zmw at hk
      generalize zhg w left k=S0 at hk ih
      generalize zhh w left k=P0 at hs ih
      have hX0:=ih
      exact (zeU (K := λ r => K (zBt left r))
 (λ hs hk => (zaM hs λ hc hs => ⟨hc, (zeU (K := λ r => K (zBt left r))
 (λ hs hk=>(hX0 (w64 (zaD+(1:Int))) zaY za0 zbo zah zab (λ i=>enc_40 (za0.get i)) rfl (λ i=>zbW (zbo.get i)) rfl hs hk))
 (λ hs hk=>(zaM hs λ hc hs=>⟨⟨isE,rfl,hc⟩,(zaM hs λ hc hs=>⟨hc,(hX0 (w64 (zaD+(1:Int))) (((Slf69.r.S (⟨(⟨zaY,za0⟩:Net),(⟨(addN (zab [((s89 w).get zaD.toNat).Use.Tie]) zah),(zdI [((s89 w).get zaD.toNat).Use.Tie] [1] zab)⟩:Mp)⟩:web) (w64 (left - (1:Int)))).2).Net.Nodes) (((Slf69.r.S (⟨(⟨zaY,za0⟩:Net),(⟨(addN (zab [((s89 w).get zaD.toNat).Use.Tie]) zah),(zdI [((s89 w).get zaD.toNat).Use.Tie] [1] zab)⟩:Mp)⟩:web) (w64 (left - (1:Int)))).2).Net.Ties) (⟨(zbo.len+((Slf69.r.S (⟨(⟨zaY,za0⟩:Net),(⟨(addN (zab [((s89 w).get zaD.toNat).Use.Tie]) zah),(zdI [((s89 w).get zaD.toNat).Use.Tie] [1] zab)⟩:Mp)⟩:web) (w64 (left - (1:Int)))).1).len),(zf2 zbo.len zbo.get ((Slf69.r.S (⟨(⟨zaY,za0⟩:Net),(⟨(addN (zab [((s89 w).get zaD.toNat).Use.Tie]) zah),(zdI [((s89 w).get zaD.toNat).Use.Tie] [1] zab)⟩:Mp)⟩:web) (w64 (left - (1:Int)))).1).get)⟩:Sl (Sl Int)) (zAK (((((Slf69.r.S (⟨(⟨zaY,za0⟩:Net),(⟨(addN (zab [((s89 w).get zaD.toNat).Use.Tie]) zah),(zdI [((s89 w).get zaD.toNat).Use.Tie] [1] zab)⟩:Mp)⟩:web) (w64 (left - (1:Int)))).2).out).F) [((s89 w).get zaD.toNat).Use.Tie]) ((((Slf69.r.S (⟨(⟨zaY,za0⟩:Net),(⟨(addN (zab [((s89 w).get zaD.toNat).Use.Tie]) zah),(zdI [((s89 w).get zaD.toNat).Use.Tie] [1] zab)⟩:Mp)⟩:web) (w64 (left - (1:Int)))).2).out).n)) (zyS [((s89 w).get zaD.toNat).Use.Tie] ((((Slf69.r.S (⟨(⟨zaY,za0⟩:Net),(⟨(addN (zab [((s89 w).get zaD.toNat).Use.Tie]) zah),(zdI [((s89 w).get zaD.toNat).Use.Tie] [1] zab)⟩:Mp)⟩:web) (w64 (left - (1:Int)))).2).out).F)) (λ i=>enc_40 (((Slf69.r.S (⟨(⟨zaY,za0⟩:Net),(⟨(addN (zab [((s89 w).get zaD.toNat).Use.Tie]) zah),(zdI [((s89 w).get zaD.toNat).Use.Tie] [1] zab)⟩:Mp)⟩:web) (w64 (left - (1:Int)))).2).Net.Ties.get i)) rfl (appG zbo.len (λ i=>zbW (zbo.get i)) (λ i=>zbW (((Slf69.r.S (⟨(⟨zaY,za0⟩:Net),(⟨(addN (zab [((s89 w).get zaD.toNat).Use.Tie]) zah),(zdI [((s89 w).get zaD.toNat).Use.Tie] [1] zab)⟩:Mp)⟩:web) (w64 (left - (1:Int)))).1).get i))) (zit (enc:=zbW) (f:=zbo.get) (h:=((Slf69.r.S (⟨(⟨zaY,za0⟩:Net),(⟨(addN (zab [((s89 w).get zaD.toNat).Use.Tie]) zah),(zdI [((s89 w).get zaD.toNat).Use.Tie] [1] zab)⟩:Mp)⟩:web) (w64 (left - (1:Int)))).1).get) rfl rfl) hs hk)⟩)⟩)) hs hk)⟩))
 (fun hs hk=>(zuF hk)) hs hk)
  exact key _ zaD zaY za0 zbo zah zab zcj zkd zck zke hs hk
def zyP (w:web) (left:Int):((Sl (Sl Int))×web) :=
  (cond (!(s88 w))
 ((⟨1,λ _=>(⟨w.out.n,(λ i=>(zsY w.out.F w.out.n).getD i 0)⟩:(Sl Int))⟩:(Sl (Sl Int))),w)
 (cond (left == (0:Int))
 ((⟨0,λ _=>default⟩:(Sl (Sl Int))),w)
 (zrL w left (0:Int) w.Net.Nodes w.Net.Ties (⟨0,(λ _=>default)⟩:Sl (Sl Int)) w.out.n w.out.F)))
def zJa (w:web) (left:Int):Bool :=
  (decide ((p88 w=true)) &&
 (cond (!(s88 w))
 (decide ((w.out.n≤1000000/\(zsX w.out.F 9223372036854775808 0 w.out.n).isSome=true)) &&
 true)
 (cond (left == (0:Int))
 true
 (decide ((p89 w=true)) &&
 (zrM w left (0:Int) w.Net.Nodes w.Net.Ties (⟨0,(λ _=>default)⟩:Sl (Sl Int)) w.out.n w.out.F)))))
theorem zLY (w:web) (left:Int) (K:List PA×List XA->Prop) (hs:zJa w left=true) (hk:K (zBt left (zyP w left))):zjW Tryd.prog zAe zfa 69 [.box 105 [.p (.int .i64 w.Net.Nodes),.p (.sl w.Net.Ties.len 4 (λ i=>enc_40 (w.Net.Ties.get i))),.mo 3 4 (false,1,false,[none]) w.out.n w.out.F],.d (.one (.int .i64 left))] (λ a b=>(WkM K) (a,b)):=by
  refine za2 (zAf w left (WkM K)) ?_
  unfold zJa at hs
  unfold zyP at hk
  exact (zaM hs λ hc hs => ⟨⟨isE, rfl, hc⟩, (zeU (K := λ r => K (zBt left r))
 (λ hs hk=>(zaM hs λ hc hs=>⟨hc,(zuF hk)⟩))
 (λ hs hk => (zeU (K := λ r => K (zBt left r))
 (λ hs hk=>(wkM hk (zhm (.one (.nil _ _)) znD)))
 (λ hs hk=>(zaM hs λ hc hs=>⟨⟨(λ _=>rfl),isE,rfl,hc⟩,(zAg K w left (0:Int) w.Net.Nodes w.Net.Ties (⟨0,(λ _=>default)⟩:Sl (Sl Int)) w.out.n w.out.F (λ i=>enc_40 (w.Net.Ties.get i)) rfl (λ i=>zbW ((λ _=>default) i)) rfl hs hk)⟩)) hs hk)) hs hk)⟩)
def zHj : MK
  | [.box 105 [.p (.int .i64 zax),.p (.sl zau zby zar),.mo 3 4 zdg zaP zaQ],.d (.one (.int .i64 b1))]=>some (IsE enc_40 4 zby zar/\zdg=(false,1,false,[none])/\zJa (⟨(⟨zax,(⟨zau,zan zar⟩:(Sl Tie))⟩:Net),(⟨zaP,zaQ⟩:Mp)⟩:web) b1=true,[.one (.sl (((zyP (⟨(⟨zax,(⟨zau,zan zar⟩:(Sl Tie))⟩:Net),(⟨zaP,zaQ⟩:Mp)⟩:web) b1).1).len) 1 (λ i=>zbW (((zyP (⟨(⟨zax,(⟨zau,zan zar⟩:(Sl Tie))⟩:Net),(⟨zaP,zaQ⟩:Mp)⟩:web) b1).1).get i)))],[.box 105 [.p (.int .i64 (((zyP (⟨(⟨zax,(⟨zau,zan zar⟩:(Sl Tie))⟩:Net),(⟨zaP,zaQ⟩:Mp)⟩:web) b1).2).Net.Nodes)),.p (.sl (((zyP (⟨(⟨zax,(⟨zau,zan zar⟩:(Sl Tie))⟩:Net),(⟨zaP,zaQ⟩:Mp)⟩:web) b1).2).Net.Ties.len) 4 (λ i=>enc_40 (((zyP (⟨(⟨zax,(⟨zau,zan zar⟩:(Sl Tie))⟩:Net),(⟨zaP,zaQ⟩:Mp)⟩:web) b1).2).Net.Ties.get i))),.mo 3 4 (false,1,false,[none]) ((((zyP (⟨(⟨zax,(⟨zau,zan zar⟩:(Sl Tie))⟩:Net),(⟨zaP,zaQ⟩:Mp)⟩:web) b1).2).out).n) ((((zyP (⟨(⟨zax,(⟨zau,zan zar⟩:(Sl Tie))⟩:Net),(⟨zaP,zaQ⟩:Mp)⟩:web) b1).2).out).F)],.d (.one (.int .i64 b1))])
  | _=>none
theorem zHk:zav Tryd.prog 69:=⟨_,rfl,rfl,by kernel_rfl⟩
theorem zJ1 (hself:ziH Tryd.prog 69 zwj):ziH Tryd.prog 69 zHj:=zzK (zJ0 hself) zHk λ xs safe rs ys h hs K hk=>by
  unfold zHj at h
  split at h
  · rename_i zax zau zby zar zdg zaP zaQ b1
    simp only[Option.some.injEq,Prod.mk.injEq] at h
    obtain⟨rfl,rfl,rfl⟩:=h
    obtain⟨⟨rfl,zcc,rfl⟩,rfl,hs⟩:=hs
    try rw[zal zcc] at hs
    try rw[zal zcc] at hk
    refine⟨λ _ _=>[],λ _=>false,zfa,?_⟩
    show zjW Tryd.prog zAe zfa 69 _ _
    exact zLY (⟨(⟨zax,(⟨zau,zcc⟩:(Sl Tie))⟩:Net),(⟨zaP,zaQ⟩:Mp)⟩:web) b1 (λ x=>K x.1 x.2) hs hk
  · cases h
end
def zsS : Nat → Rec69
  | 0=>⟨λ _ _=>default,λ _ _=>false⟩
  | k+1=>⟨@zyP ⟨zsS k⟩,@zJa ⟨zsS k⟩⟩
theorem zHl : ∀ k, ziH Tryd.prog 69 (@zwj ⟨zsS k⟩)
  | 0=>λ xs ys safe rs h hs=>by
    unfold zwj at h
    split at h
    · simp only [Option.some.injEq, Prod.mk.injEq] at h
      obtain⟨rfl,rfl,rfl⟩:=h
      exact absurd hs.2.2 Bool.false_ne_true
    · cases h
  | k+1=>@zJ1 ⟨zsS k⟩ (zHl k)
def s69 (w:web) (left:Int):((Sl (Sl Int))×web):=(zsS 64).S w left
def p69 (w:web) (left:Int):Bool:=(zsS 64).P w left
def zHm : MK
  | [.box 105 [.p (.int .i64 zax),.p (.sl zau zby zar),.mo 3 4 zdg zaP zaQ],.d (.one (.int .i64 b1))]=>some (IsE enc_40 4 zby zar/\zdg=(false,1,false,[none])/\p69 (⟨(⟨zax,(⟨zau,zan zar⟩:(Sl Tie))⟩:Net),(⟨zaP,zaQ⟩:Mp)⟩:web) b1=true,[.one (.sl (((s69 (⟨(⟨zax,(⟨zau,zan zar⟩:(Sl Tie))⟩:Net),(⟨zaP,zaQ⟩:Mp)⟩:web) b1).1).len) 1 (λ i=>zbW (((s69 (⟨(⟨zax,(⟨zau,zan zar⟩:(Sl Tie))⟩:Net),(⟨zaP,zaQ⟩:Mp)⟩:web) b1).1).get i)))],[.box 105 [.p (.int .i64 (((s69 (⟨(⟨zax,(⟨zau,zan zar⟩:(Sl Tie))⟩:Net),(⟨zaP,zaQ⟩:Mp)⟩:web) b1).2).Net.Nodes)),.p (.sl (((s69 (⟨(⟨zax,(⟨zau,zan zar⟩:(Sl Tie))⟩:Net),(⟨zaP,zaQ⟩:Mp)⟩:web) b1).2).Net.Ties.len) 4 (λ i=>enc_40 (((s69 (⟨(⟨zax,(⟨zau,zan zar⟩:(Sl Tie))⟩:Net),(⟨zaP,zaQ⟩:Mp)⟩:web) b1).2).Net.Ties.get i))),.mo 3 4 (false,1,false,[none]) ((((s69 (⟨(⟨zax,(⟨zau,zan zar⟩:(Sl Tie))⟩:Net),(⟨zaP,zaQ⟩:Mp)⟩:web) b1).2).out).n) ((((s69 (⟨(⟨zax,(⟨zau,zan zar⟩:(Sl Tie))⟩:Net),(⟨zaP,zaQ⟩:Mp)⟩:web) b1).2).out).F)],.d (.one (.int .i64 b1))])
  | _=>none
theorem zLZ:ziH Tryd.prog 69 zHm:=zHl 64
abbrev T71:Tabs:=(Tabs.nil.addF 101 zrx)
theorem zJ2:TabsOk Tryd.prog T71:=(TabsOk.nil.addF zHa)
abbrev G71:Ctrs:=csm T71 (λ _ _=>[]) (λ _=>false)
def zDS:Ann:=⟨36,[(0,zK [0,1] []),(1,zK [0,1,9,10,11] []),(2,zK [0,1,9,10,11,12] []),(3,zK [0,1,5,6,9,10,11] []),(4,zK [0,1,5,6,9,10,11,19] []),(5,zK [4] []),(6,zK [0,1,6,7,9,10,11] []),(7,zK [0,1,8,9,10,11] []),(8,zK [0,1,8,9,10,11,28] []),(9,zK [4] []),(10,zK [0,1,9,10,11] []),(11,zK [35] []),(12,zK [4] []),(13,zK [4] [])],
 [(2,zK [0,1,9,10,11] [])],
 [(6,zK [0,1,5,6,9,10,11] []),(8,zK [0,1,8,9,10,11] [])],
 [],[]⟩
abbrev R71:=Int
abbrev e71 (r:R71):List PA:=[.one (.int .i64 r)]
@[irreducible] def z71:=ptF Tryd.prog G71 zDS Tryd.f71
def zBu (zer:(Sl Int)) (zdY:(Sl Int)) (ziW:(Sl Int)) (za3:Int) (zaS:Int) (zdm:Nat->List PV) (zdn:Nat->List PV) (ziD:Nat->List PV):St:=⟨[(0,zP (.sl zer.len 1 zdm)),(1,zP (.sl zdY.len 1 zdn)),(9,zP (.sl ziW.len 1 ziD)),(10,zI za3),(11,zI zaS)],[],[]⟩
abbrev zAh (K:List PA->Prop) (X:St->Prop) (P:(Sl Int)->(Sl Int)->(Sl Int)->Int->Int->Bool) (S:(Sl Int)->(Sl Int)->(Sl Int)->Int->Int->Int):Prop:=∀ ⦃zer:(Sl Int)⦄ ⦃zdY:(Sl Int)⦄ ⦃ziW:(Sl Int)⦄ ⦃za3:Int⦄ ⦃zaS:Int⦄ ⦃zdm:Nat->List PV⦄ ⦃zdn:Nat->List PV⦄ ⦃ziD:Nat->List PV⦄,P zer zdY ziW za3 zaS=true->K (e71 (S zer zdY ziW za3 zaS))->zdm=zg zac zer->zdn=zg zac zdY->ziD=zg zac ziW->X (zBu zer zdY ziW za3 zaS zdm zdn ziD)
section
variable {K:List PA->Prop}{s1_a0:(Sl Int)}{s2_a1:(Sl Int)}{zer:(Sl Int)}{zdY:(Sl Int)}{ziW:(Sl Int)}{za3:Int}{zaS:Int}{zdm:Nat->List PV}{zdn:Nat->List PV}{ziD:Nat->List PV}{X0:St->Prop}{P0:(Sl Int)->(Sl Int)->(Sl Int)->Int->Int->Bool}{S0:(Sl Int)->(Sl Int)->(Sl Int)->Int->Int->Int}{znL:(Sl Int)}{ziV:(Sl Int)}{iv1:Int}{zDT:Int}{zpB:(Sl Int)}{zhi:Int}{zcC:Int}{znM:Nat->List PV}{znN:Nat->List PV}{zBv:Nat->List PV}{znO:(Sl Int)}{znP:(Sl Int)}{cv2:Int}{zpC:Int}{znQ:Nat->List PV}{znR:Nat->List PV}
def zwk (S0:(Sl Int)->(Sl Int)->(Sl Int)->Int->Int->Int) (zpB:(Sl Int)) (zhi:Int) (znO:(Sl Int)) (znP:(Sl Int)) (cv2:Int) (zpC:Int):Int :=
  (cond (cv2 != (0:Int))
 cv2
 (S0 znO znP zpB zhi (w64 (zpC+(1:Int)))))
def zwl (P0:(Sl Int)->(Sl Int)->(Sl Int)->Int->Int->Bool) (zpB:(Sl Int)) (zhi:Int) (znO:(Sl Int)) (znP:(Sl Int)) (cv2:Int) (zpC:Int):Bool :=
  (cond (cv2 != (0:Int))
 true
 (P0 znO znP zpB zhi (w64 (zpC+(1:Int)))))
theorem zDU (hX0:zAh K X0 P0 S0) (hs:zwl P0 zpB zhi znO znP cv2 zpC=true) (hk:K (e71 (zwk S0 zpB zhi znO znP cv2 zpC))) (zvt:znQ=zg zac znO) (zvu:znR=zg zac znP):z71 K [1,0,1,0,0,1,1,0,0,1,1,1,1] [X0] ⟨[(0,zP (.sl znO.len 1 znQ)),(1,zP (.sl znP.len 1 znR)),(8,zI cv2),(9,zS zac 1 zpB),(10,zI zhi),(11,zI zpC)],[],[]⟩:=by subst zvt;subst zvu;exact za2 (by kernel_rfl) (zc hs hk (λ hs hk=>hk) (λ hs hk=>(hX0 hs hk rfl rfl rfl)))
def zwm (S0:(Sl Int)->(Sl Int)->(Sl Int)->Int->Int->Int) (znL:(Sl Int)) (ziV:(Sl Int)) (iv1:Int) (zDT:Int) (zpB:(Sl Int)) (zhi:Int) (zcC:Int):Int :=
  (zwk S0 zpB zhi znL ziV (zyO zDT (ziV.get iv1.toNat)) zcC)
def zwn (P0:(Sl Int)->(Sl Int)->(Sl Int)->Int->Int->Bool) (znL:(Sl Int)) (ziV:(Sl Int)) (iv1:Int) (zDT:Int) (zpB:(Sl Int)) (zhi:Int) (zcC:Int):Bool :=
  (decide ((0≤iv1/\iv1 < (ziV.len:Int))) &&
 (zwl P0 zpB zhi znL ziV (zyO zDT (ziV.get iv1.toNat)) zcC))
theorem zDV (hX0:zAh K X0 P0 S0) (hs:zwn P0 znL ziV iv1 zDT zpB zhi zcC=true) (hk:K (e71 (zwm S0 znL ziV iv1 zDT zpB zhi zcC))) (zvv:znM=zg zac znL) (zvw:znN=zg zac ziV) (zHn:zBv=zg zac zpB):z71 K [1,0,1,0,0,1,1,0,0,1,1] [X0] ⟨[(0,zP (.sl znL.len 1 znM)),(1,zP (.sl ziV.len 1 znN)),(5,zI iv1),(6,zI zDT),(9,zP (.sl zpB.len 1 zBv)),(10,zI zhi),(11,zI zcC)],[],[]⟩:=by subst zvv;subst zvw;subst zHn;exact za2 (by kernel_rfl) (zaM hs λ hc hs=>And.intro hc (zDU hX0 hs hk rfl rfl))
def zwo (S0:(Sl Int)->(Sl Int)->(Sl Int)->Int->Int->Int) (zer:(Sl Int)) (zdY:(Sl Int)) (ziW:(Sl Int)) (za3:Int) (zaS:Int):Int :=
  (cond (decide (zaS < za3))
 (cond (decide (zaS ≥ (zdY.len : Int)))
 (1:Int)
 (zwm S0 zer zdY zaS (ziW.get zaS.toNat) ziW za3 zaS))
 (cond (decide ((zer.len : Int) < (zdY.len : Int)))
 (-1:Int)
 (0:Int)))
def zwp (P0:(Sl Int)->(Sl Int)->(Sl Int)->Int->Int->Bool) (zer:(Sl Int)) (zdY:(Sl Int)) (ziW:(Sl Int)) (za3:Int) (zaS:Int):Bool :=
  (cond (decide (zaS < za3))
 (decide ((0≤zaS/\zaS < (ziW.len:Int))) &&
 (cond (decide (zaS ≥ (zdY.len : Int)))
 true
 (zwn P0 zer zdY zaS (ziW.get zaS.toNat) ziW za3 zaS)))
 true)
def zwq:Nat->(Sl Int)->(Sl Int)->(Sl Int)->Int->Int->Int:=lpO (λ _ _ _ _ _=>default) (zwo)
def zwr:Nat->(Sl Int)->(Sl Int)->(Sl Int)->Int->Int->Bool:=lpO (λ _ _ _ _ _=>false) (zwp)
def zwt (zer:(Sl Int)) (zdY:(Sl Int)) (ziW:(Sl Int)) (za3:Int) (zaS:Int):Int:=zwq Fuel zer zdY ziW za3 zaS
def zwu (zer:(Sl Int)) (zdY:(Sl Int)) (ziW:(Sl Int)) (za3:Int) (zaS:Int):Bool:=zwr Fuel zer zdY ziW za3 zaS
theorem zDW (hs:zwu zer zdY ziW za3 zaS=true) (hk:K (e71 (zwt zer zdY ziW za3 zaS))) (zj6:zdm=zg zac zer) (zj7:zdn=zg zac zdY) (zwv:ziD=zg zac ziW):z71 K [1,0,1,0] [] (zBu zer zdY ziW za3 zaS zdm zdn ziD) :=
  zl (λ X=>z71 K [1,0,1,0,0] [X]) (by kernel_rfl) λ X0 hX =>
  (show ∀ k, zAh K X0 (zwr k) (zwq k) from zeF _ _ (zwp) (zwo) (zAh K X0)
 (by intro _ _ _ _ _ _ _ _ hs;exact absurd hs Bool.false_ne_true)
 (by intro P0 S0 hX0 zer zdY ziW za3 zaS zdm zdn ziD hs hk zj6 zj7 zwv;subst zj6;subst zj7;subst zwv;exact hX _ (za2 (by kernel_rfl) (zc hs hk (λ hs hk=>(zaM hs λ hc hs=>And.intro hc (zc hs hk (λ hs hk=>hk) (λ hs hk=>(zDV hX0 hs hk rfl rfl rfl))))) (λ hs hk=>(zt hk (λ hk=>hk) (λ hk=>hk))))))) _ hs hk zj6 zj7 zwv
def s71 (s1_a0:(Sl Int)) (s2_a1:(Sl Int)):Int :=
  (zwt s1_a0 s2_a1 s1_a0 (s1_a0.len:Int) (0:Int))
def p71 (s1_a0:(Sl Int)) (s2_a1:(Sl Int)):Bool :=
  (zwu s1_a0 s2_a1 s1_a0 (s1_a0.len:Int) (0:Int))
end
theorem q71 (s1_a0:(Sl Int)) (s2_a1:(Sl Int)) (K:List PA->Prop) (hs:p71 s1_a0 s2_a1=true) (hk:K (e71 (s71 s1_a0 s2_a1))):vcFun Tryd.prog G71 zDS 71 [.one (.sl s1_a0.len 1 (λ i=>zac (s1_a0.get i))),.one (.sl s2_a1.len 1 (λ i=>zac (s2_a1.get i)))] K :=
  za2 (by kernel_rfl) (zDW hs hk rfl rfl rfl)
def zDX : List PA → COut
  | [.one (.sl zfB zk9 zfC),.one (.sl zgc zmM zf3)]=>.det (IsE zac 1 zk9 zfC/\IsE zac 1 zmM zf3/\p71 (⟨zfB,zas zfC⟩:(Sl Int)) (⟨zgc,zas zf3⟩:(Sl Int))=true) [.one (.int .i64 (s71 (⟨zfB,zas zfC⟩:(Sl Int)) (⟨zgc,zas zf3⟩:(Sl Int))))]
  | _=>.no
theorem zHo:zav Tryd.prog 71:=⟨_,rfl,rfl,by kernel_rfl⟩
theorem zL0:Ok Tryd.prog 71 zDX:=zbk zJ2 zHo λ args K h=>by
  unfold zDX at h
  split at h
  · rename_i zfB zk9 zfC zgc zmM zf3
    obtain⟨⟨⟨rfl,zh0,rfl⟩,⟨rfl,zj4,rfl⟩,hs⟩,hk⟩:=h
    try rw[zbL zh0] at hs
    try rw[zbL zh0] at hk
    try rw[zbL zj4] at hs
    try rw[zbL zj4] at hk
    exact⟨(λ _ _=>[]),(λ _=>false),zDS,q71 (⟨zfB,zh0⟩:(Sl Int)) (⟨zgc,zj4⟩:(Sl Int)) K hs hk⟩
  · exact h.elim
abbrev T70:Tabs:=(Tabs.nil.addF 71 zDX)
theorem zJ3:TabsOk Tryd.prog T70:=(TabsOk.nil.addF zL0)
abbrev G70:Ctrs:=csm T70 (λ _ _=>[]) (λ _=>false)
def zDY:Ann:=⟨33,[(0,zK [0,1] []),(1,zK [0,1,9] []),(3,zK [0,1,5] []),(4,zK [0,1,5,6] []),(5,zK [0,1,5,6,17] []),(6,zK [0,1,5,6] []),(7,zK [0,1,5,6,27] []),(8,zK [0,1,5,6] []),(9,zK [4] [])],
 [(5,zK [0,1,5,6] [])],
 [(3,zK [0,1] []),(8,zK [0,1,5,6,27] [])],
 [],[]⟩
abbrev R70:=(Sl Int)
abbrev e70 (r:R70):List PA:=[.one (.sl r.len 1 (λ i=>zac (r.get i)))]
@[irreducible] def z70:=ptF Tryd.prog G70 zDY Tryd.f70
def zBw (x:(Sl (Sl Int))) (mv1:(Sl Int)) (iv1:Int) (znU:Nat->List PV):St:=⟨[(0,zS zbW 1 x),(1,zP (.fn 71 [] [])),(5,zP (.sl mv1.len 1 znU)),(6,zI iv1)],[],[]⟩
abbrev zDZ (K:List PA->Prop) (x:(Sl (Sl Int))) (X:St->Prop) (P:(Sl Int)->Int->Bool) (S:(Sl Int)->Int->(Sl Int)):Prop:=∀ ⦃mv1:(Sl Int)⦄ ⦃iv1:Int⦄ ⦃znU:Nat->List PV⦄,P mv1 iv1=true->K (e70 (S mv1 iv1))->znU=zg zac mv1->X (zBw x mv1 iv1 znU)
section
variable {K:List PA->Prop}{x:(Sl (Sl Int))}{mv1:(Sl Int)}{iv1:Int}{znU:Nat->List PV}{X1:St->Prop}{P1:(Sl Int)->Int->Bool}{S1:(Sl Int)->Int->(Sl Int)}{mv2:(Sl Int)}{iv2:Int}{zpD:Bool}{zHp:Nat->List PV}
def zww (S1:(Sl Int)->Int->(Sl Int)) (x:(Sl (Sl Int))) (mv2:(Sl Int)) (iv2:Int) (zpD:Bool):(Sl Int) :=
  (cond zpD
 (S1 (x.get iv2.toNat) (w64 (iv2+(1:Int))))
 (S1 mv2 (w64 (iv2+(1:Int)))))
def zwx (P1:(Sl Int)->Int->Bool) (x:(Sl (Sl Int))) (mv2:(Sl Int)) (iv2:Int) (zpD:Bool):Bool :=
  (cond zpD
 (decide ((0≤iv2/\iv2 < (x.len:Int))) &&
 (P1 (x.get iv2.toNat) (w64 (iv2+(1:Int)))))
 (P1 mv2 (w64 (iv2+(1:Int)))))
theorem zD0 (hX1:zDZ K x X1 P1 S1) (hs:zwx P1 x mv2 iv2 zpD=true) (hk:K (e70 (zww S1 x mv2 iv2 zpD))) (zJ4:zHp=zg zac mv2):z70 K [1,1,1,0,1,0,0,1,0,0,1] [X1] ⟨[(0,zS zbW 1 x),(1,zP (.fn 71 [] [])),(5,zP (.sl mv2.len 1 zHp)),(6,zI iv2),(27,zB zpD)],[],[]⟩:=by subst zJ4;exact za2 (by kernel_rfl) (zc hs hk (λ hs hk=>(zaM hs λ hc hs=>And.intro hc (hX1 hs hk rfl))) (λ hs hk=>(hX1 hs hk rfl)))
def zwy (x:(Sl (Sl Int))) (S1:(Sl Int)->Int->(Sl Int)) (mv1:(Sl Int)) (iv1:Int):(Sl Int) :=
  (cond (decide (iv1 < (x.len : Int)))
 (zww S1 x mv1 iv1 (decide ((s71 (x.get iv1.toNat) mv1) < (0:Int))))
 mv1)
def zwz (x:(Sl (Sl Int))) (P1:(Sl Int)->Int->Bool) (mv1:(Sl Int)) (iv1:Int):Bool :=
  (cond (decide (iv1 < (x.len : Int)))
 (decide ((0≤iv1/\iv1 < (x.len:Int))) &&
 (decide ((p71 (x.get iv1.toNat) mv1=true)) &&
 (zwx P1 x mv1 iv1 (decide ((s71 (x.get iv1.toNat) mv1) < (0:Int))))))
 true)
def zwA (x:(Sl (Sl Int))):Nat->(Sl Int)->Int->(Sl Int):=lpO (λ _ _=>default) (zwy x)
def zwB (x:(Sl (Sl Int))):Nat->(Sl Int)->Int->Bool:=lpO (λ _ _=>false) (zwz x)
def zwC (x:(Sl (Sl Int))) (mv1:(Sl Int)) (iv1:Int):(Sl Int):=zwA x Fuel mv1 iv1
def zwD (x:(Sl (Sl Int))) (mv1:(Sl Int)) (iv1:Int):Bool:=zwB x Fuel mv1 iv1
theorem zD1 (hs:zwD x mv1 iv1=true) (hk:K (e70 (zwC x mv1 iv1))) (zD2:znU=zg zac mv1):z70 K [1,1,1,0,1,0] [] (zBw x mv1 iv1 znU) :=
  zl (λ X=>z70 K [1,1,1,0,1,0,0] [X]) (by kernel_rfl) λ X1 hX =>
  (show ∀ k, zDZ K x X1 (zwB x k) (zwA x k) from zeF _ _ (zwz x) (zwy x) (zDZ K x X1)
 (by intro _ _ _ hs;exact absurd hs Bool.false_ne_true)
 (by intro P1 S1 hX1 mv1 iv1 znU hs hk zD2;subst zD2;exact hX _ (za2 (by kernel_rfl) (zc hs hk (λ hs hk=>(zaM hs λ hc hs=>And.intro hc (zaM hs λ hc hs=>And.intro (And.intro (zE zac 1 ((x.get iv1.toNat).get)) (And.intro (zE zac 1 mv1.get) hc)) (zD0 hX1 hs hk rfl)))) (λ hs hk=>hk))))) _ hs hk zD2
def zwE (x:(Sl (Sl Int))):(Sl Int) :=
  (zwC x (x.get 0) (1:Int))
def zwF (x:(Sl (Sl Int))):Bool :=
  (decide ((0≤(0:Int)/\(0:Int) < (x.len:Int))) &&
 (zwD x (x.get 0) (1:Int)))
theorem zD3 (hs:zwF x=true) (hk:K (e70 (zwE x))):z70 K [1,1] [] ⟨[(0,zS zbW 1 x),(1,zP (.fn 71 [] []))],[],[]⟩:=za2 (by kernel_rfl) (zaM hs λ hc hs=>And.intro hc (zD1 hs hk rfl))
def s70 (x:(Sl (Sl Int))):(Sl Int) :=
  (cond (decide ((x.len : Int) < (1:Int)))
 default
 (zwE x))
def p70 (x:(Sl (Sl Int))):Bool :=
  (cond (decide ((x.len : Int) < (1:Int)))
 false
 (zwF x))
end
theorem q70 (x:(Sl (Sl Int))) (K:List PA->Prop) (hs:p70 x=true) (hk:K (e70 (s70 x))):vcFun Tryd.prog G70 zDY 70 [.one (.sl x.len 1 (λ i=>zbW (x.get i))),.one (.fn 71 [] [])] K :=
  za2 (by kernel_rfl) (zc hs hk (λ hs hk=>(absurd hs Bool.false_ne_true:False)) (λ hs hk=>(zD3 hs hk)))
def zD4 : List PA → COut
  | [.one (.sl zfB zk9 zfC),.one (.fn 71 [] [])]=>.det (IsE zbW 1 zk9 zfC/\p70 (⟨zfB,zl1 zfC⟩:(Sl (Sl Int)))=true) [.one (.sl ((s70 (⟨zfB,zl1 zfC⟩:(Sl (Sl Int)))).len) 1 (λ i=>zac ((s70 (⟨zfB,zl1 zfC⟩:(Sl (Sl Int)))).get i)))]
  | _=>.no
theorem zHq:zav Tryd.prog 70:=⟨_,rfl,rfl,by kernel_rfl⟩
theorem zL1:Ok Tryd.prog 70 zD4:=zbk zJ3 zHq λ args K h=>by
  unfold zD4 at h
  split at h
  · rename_i zfB zk9 zfC
    obtain⟨⟨⟨rfl,zh0,rfl⟩,hs⟩,hk⟩:=h
    try rw[zj0 zh0] at hs
    try rw[zj0 zh0] at hk
    exact⟨(λ _ _=>[]),(λ _=>false),zDY,q70 (⟨zfB,zh0⟩:(Sl (Sl Int))) K hs hk⟩
  · exact h.elim
end Go.Proofs
namespace Go.Pm
open Go.RowKit (Below)
section
variable (P:Program) (Γ:Ctrs)
def zrN (fi : FuncId) : Code → Option (Nat × Nat)
  | .region id ops false=>match ops.toList with
    | [o1,o2]=>match o1.op,o1.dst,o1.guard,o2.op,o2.dst,o2.guard with
      | .makeFunc (.func f) first caps,some t,none,.defer { callee:=.value (.tmp t'),args,argTypes:=_ },none,none=>match Nat.beq f fi && Nat.beq t t' && first.isEmpty && args.isEmpty && Nat.beq caps.size 2 with
        | true=>some (id,t)
        | false=>none
      | _,_,_,_,_,_=>none
    | _=>none
  | _=>none
def zAi (fi : FuncId) (ann : Ann) : Code → (Exit → St → Prop) → St → Prop
  | .seq a b,K,σ=>match zrN fi a with
    | some (id,t)=>match Nat.blt t ann.nt with
      | true=>zCb P ann id (vc P Γ ann b K) ⟨(t,.junk) :: σ.env,σ.objs,[]⟩
      | false=>False
    | none=>vc P Γ ann a (zAM (zAi fi ann b K) K) σ
  | c,K,σ=>vc P Γ ann c K σ
def zrO (fi:FuncId) (ann:Ann) (f:FuncId) (args:List PA) (K:List PA->Prop):Prop :=
 match P.funcs[f]? with
 | some fn=>match fn.body with
  | some c=>match Nat.beq ann.nt fn.ntmps && Nat.ble args.length ann.nt with
   | true=>zAi P Γ fi ann c (zok P fn K) ⟨zgW 0 args,[],[]⟩
   | false=>False
  | none=>False
 | none=>False
end
section
variable {P:Program}{Γ:Ctrs}{B:Nat}{w0:World}
theorem zlb {fi:FuncId}{c:Code}{id t:Nat}(h:zrN fi c=some (id,t)):∃ (o1 o2:Oper) (caps:Array Operand) (ats:Array TypeId),c=.region id #[o1,o2] false/\caps.size=2/\o1.op=.makeFunc (.func fi) #[] caps/\o1.dst=some t/\o1.guard=none /\
  o2.op=.defer { callee:=.value (.tmp t),args:=#[],argTypes:=ats }/\o2.dst=none/\o2.guard=none:=by
 unfold zrN at h
 split at h
 ·rename_i id' ops
  split at h
  ·rename_i o1 o2 hops
   split at h
   ·rename_i f first caps t' t2 args ats e1 e2 e3 e4 e5 e6
    split at h
    ·rename_i hc
     simp only[Bool.and_eq_true] at hc
     simp only[Option.some.injEq,Prod.mk.injEq] at h
     obtain⟨rfl,rfl⟩:=h
     obtain⟨⟨⟨⟨h1,h2⟩,h3⟩,h4⟩,h5⟩:=hc
     have h5:=Nat.eq_of_beq_eq_true h5
     have h1:=Nat.eq_of_beq_eq_true h1
     have h2:=Nat.eq_of_beq_eq_true h2
     have h3:first = #[]:=by simpa using h3
     have h4:args = #[]:=by simpa using h4
     subst h1 h2 h3 h4
     refine⟨o1,o2,caps,ats,?_,h5,e1,e2,e3,e4,e5,e6⟩
     rw[← Array.toArray_toList (xs:=ops),hops]
    ·cases h
   ·cases h
  ·cases h
 ·cases h
theorem zsU {fi : FuncId} (hidle : ∀ caps : Array Value, caps.size = 2 → zlr P { target := .fn (.func fi) caps, args := #[] }) {c : Code} {id t nt n : Nat} {h0 : Fz} {D : List Nat} {a0 a : Act} {σ : St} {g : Gh} {w : World} {Q : Exit → Act → World → Prop}
    (h:zrN fi c=some (id,t)) (ht:t < nt) (htD:t∈D) (S:Sim P nt B w0 h0 g σ a w) (hkp:Kp D a0 a)
    (hQ:∀ a',Sim P nt B w0 h0 g ⟨(t,.junk) :: σ.env,σ.objs,[]⟩ a' w->Kp D a0 a'->Q .normal a' w):c.wpIn (FR none) n P Q a w:=by
  obtain⟨o1,o2,caps,ats,rfl,e0,e1,e2,e3,e4,e5,e6⟩:=zlb h
  refine wpIn_region ?_
  show wpOpsIn (FR none) n P #[o1,o2] Q [0,1] a w
  have w1:∀ tm,Region.wanted o1 (yielded #[o1,o2] tm)=true:=λ tm=>by simp[Region.wanted,e3]
  have w2:∀ tm,Region.wanted o2 (yielded #[o1,o2] tm)=true:=λ tm=>by simp[Region.wanted,e6]
  have r1:(execOp a.eval o1).run P w=.ok (.value (.func (.func fi) #[] (caps.map a.eval))) w:=by
    simp only[execOp,e1,Instr.makeFunc,Sem.run_bind,Sem.run_pure,Result.andThen_ok];simp
  have ets:t < a.tmps.size:=Nat.lt_of_lt_of_le ht S.size
  have ev:(a.put (some t) (.func (.func fi) #[] (caps.map a.eval))).eval (.tmp t)=.func (.func fi) #[] (caps.map a.eval):=by
    simp[Act.put,Act.eval,Array.getD_eq_getD_getElem?,ets]
  have r2:(execOp (a.put (some t) (.func (.func fi) #[] (caps.map a.eval))).eval o2).run P w=.ok (.defer { target:=.fn (.func fi) (caps.map a.eval),args:=#[] }) w:=by
    simp only[execOp,e4,resolve,Sem.run_bind,ev,Deferred.ofValue,Sem.run_pure,Result.andThen_ok];simp
  show (if Region.wanted o1 (yielded #[o1,o2] a.tmps) then o1.wpIn (FR none) n P a w (wpOpsIn (FR none) n P #[o1,o2] Q [1]) Q else _)
  rw[if_pos (w1 _)]
  refine⟨λ _ _=>trivial,?_⟩
  rw[show o1.semAt (FR none).round a.eval=execOp a.eval o1 from rfl,r1]
  show wpOpsIn (FR none) n P #[o1,o2] Q [1] (a.put o1.dst _) w
  rw[e2]
  show (if Region.wanted o2 (yielded #[o1,o2] (a.put (some t) _).tmps) then o2.wpIn (FR none) n P (a.put (some t) _) w (wpOpsIn (FR none) n P #[o1,o2] Q []) Q else _)
  rw[if_pos (w2 _)]
  refine⟨λ _ _=>trivial,?_⟩
  have r3:Sem.run P (o2.semAt (FR none).round (a.put (some t) (.func (.func fi) #[] (caps.map a.eval))).eval) w=.ok (.defer { target:=.fn (.func fi) (caps.map a.eval),args:=#[] }) w:=r2
  rw[r3]
  have S1:=S.put (dst:=some t) (d:=.junk) (v:=.func (.func fi) #[] (caps.map a.eval)) (by simpa [zbu,Nat.blt_eq] using ht) trivial (λ L hL=>by simp[zaU,zbb,zaI] at hL) []
  refine hQ _ (S1.act ?_ ?_ ?_) ?_
  · obtain ⟨es, m1, m2, m3, m4⟩ := S1.dfr
    refine⟨.inr { target:=.fn (.func fi) (caps.map a.eval),args:=#[] } :: es,m1,?_,λ E hE=>?_,λ d hd=>?_⟩
    · rw[e5,List.map_cons,← m2];rfl
    · rcases List.mem_cons.1 hE with e | hE
      · cases e
      · exact m3 E hE
    · rcases List.mem_cons.1 hd with e | hd
      · cases e;exact hidle _ (by simpa using e0)
      · exact m4 d hd
  · rw[e5];exact S1.size
  · rw[e5];exact S1.env
  · rw [e5]
    exact hkp.put (dst:=some t) (λ z hz=>by cases hz;exact htD) _ a.defers
theorem zwG (hok:OkAll P Γ){fi:FuncId}(hidle:∀ caps:Array Value,caps.size=2->zlr P { target:=.fn (.func fi) caps,args:=#[] }) (ann:Ann):∀ (c:Code) (n:Nat) (h0:Fz) (D:List Nat) (a0:Act) (K:Exit->St->Prop) (σ:St) (g:Gh) (a:Act) (w:World),
  (∀ t∈zgU c,t∈D)->zAi P Γ fi ann c K σ->Sim P ann.nt B w0 h0 g σ a w->Kp D a0 a->c.wpIn (FR none) n P (PostR P ann.nt B w0 h0 D a0 K) a w
 | .seq x y,n,h0,D,a0,K,σ,g,a,w,hD,h,S,hkp=>by
  have hDx:∀ t∈zgU x,t∈D:=λ t ht=>hD t (List.mem_append.2 (.inl ht))
  have hDy:∀ t∈zgU y,t∈D:=λ t ht=>hD t (List.mem_append.2 (.inr ht))
  simp only[zAi] at h
  split at h
  ·rename_i id t hdf
   split at h
   ·rename_i hlt
    have ht:t < ann.nt:=by simpa [Nat.blt_eq] using hlt
    have htD:t∈D:=by
     obtain⟨o1,o2,caps,ats,rfl,_,_,e2,_,_,e5,_⟩:=zlb hdf
     exact hDx t (by simp[zgU,ztb,e2])
    refine wpIn_seq (zsU hidle hdf ht htD S hkp λ a' S' hk'=>?_)
    have hk:∀ s g2,vc P Γ ann y K s->Sim P ann.nt B w0 h0 g2 s a' w->y.wpIn (FR none) n P (PostR P ann.nt B w0 h0 D a0 K) a' w:=λ s g2 hv S2=>zdw hok ann y none n h0 D a0 K s g2 a' w hDy (Rnd.none h0) hv S2 hk'
    unfold zCb at h
    split at h
    ·split at h
     ·rename_i s hs
      obtain⟨g2,S2⟩:=zbl hs S'
      exact hk s g2 h S2
     ·exact h.elim
    ·exact hk _ g h S'
   ·exact h.elim
  ·refine wpIn_seq (wpIn_mono (zdw hok ann x none n h0 D a0 _ σ g a w hDx (Rnd.none h0) h S hkp) ?_)
   rintro e a' w' ⟨g',σ',hK,S',hk'⟩
   cases e with
   | normal=>exact zwG hok hidle ann y n h0 D a0 K σ' g' a' w' hDy hK S' hk'
   | exit id=>exact⟨g',σ',hK,S',hk'⟩
   | goto l=>exact⟨g',σ',hK,S',hk'⟩
   | ret=>exact⟨g',σ',hK,S',hk'⟩
   | panic ch=>exact⟨g',σ',hK,S',hk'⟩
   | outgrown=>exact⟨g',σ',hK,S',hk'⟩
 | .skip,n,h0,D,a0,K,σ,g,a,w,hD,h,S,hkp=>zdw hok ann .skip none n h0 D a0 K σ g a w hD (Rnd.none h0) h S hkp
 | .region i o d,n,h0,D,a0,K,σ,g,a,w,hD,h,S,hkp=>zdw hok ann (.region i o d) none n h0 D a0 K σ g a w hD (Rnd.none h0) h S hkp
 | .cond c x y,n,h0,D,a0,K,σ,g,a,w,hD,h,S,hkp=>zdw hok ann (.cond c x y) none n h0 D a0 K σ g a w hD (Rnd.none h0) h S hkp
 | .block i x,n,h0,D,a0,K,σ,g,a,w,hD,h,S,hkp=>zdw hok ann (.block i x) none n h0 D a0 K σ g a w hD (Rnd.none h0) h S hkp
 | .loop x,n,h0,D,a0,K,σ,g,a,w,hD,h,S,hkp=>zdw hok ann (.loop x) none n h0 D a0 K σ g a w hD (Rnd.none h0) h S hkp
 | .scope x,n,h0,D,a0,K,σ,g,a,w,hD,h,S,hkp=>zdw hok ann (.scope x) none n h0 D a0 K σ g a w hD (Rnd.none h0) h S hkp
 | .exit i,n,h0,D,a0,K,σ,g,a,w,hD,h,S,hkp=>zdw hok ann (.exit i) none n h0 D a0 K σ g a w hD (Rnd.none h0) h S hkp
 | .goto i,n,h0,D,a0,K,σ,g,a,w,hD,h,S,hkp=>zdw hok ann (.goto i) none n h0 D a0 K σ g a w hD (Rnd.none h0) h S hkp
 | .label i,n,h0,D,a0,K,σ,g,a,w,hD,h,S,hkp=>zdw hok ann (.label i) none n h0 D a0 K σ g a w hD (Rnd.none h0) h S hkp
 | .ret,n,h0,D,a0,K,σ,g,a,w,hD,h,S,hkp=>zdw hok ann .ret none n h0 D a0 K σ g a w hD (Rnd.none h0) h S hkp
 | .rangeFunc f p x y,n,h0,D,a0,K,σ,g,a,w,hD,h,S,hkp=>zdw hok ann (.rangeFunc f p x y) none n h0 D a0 K σ g a w hD (Rnd.none h0) h S hkp
 | .refuse x,n,h0,D,a0,K,σ,g,a,w,hD,h,S,hkp=>zdw hok ann (.refuse x) none n h0 D a0 K σ g a w hD (Rnd.none h0) h S hkp
theorem zAj {G : Ctrs} (hok : OkAll P G) {f fi : FuncId} (hidle : ∀ caps : Array Value, caps.size = 2 → zlr P { target := .fn (.func fi) caps, args := #[] }) {args : List PA} {K : List PA → Prop} {ann : Ann} (hv : zrO P G fi ann f args K) {w : World} {h0 : Fz} {vs : List Value} (hvs : RL (paR h0) args vs) (hfz : Hw h0 w) (hgl : zd4 h0) :
  Calls P f vs.toArray w λ e w'=>∃ (h':Fz) (rs:List PA) (v:Value),K rs/\e=.returned v/\zmL h' rs v/\Bel h0 w.heap.size w w' /\
   Fle h0 h'/\Hw h' w'/\∀ b o,h' b=some o->h0 b=some o∨w.heap.size≤b:=by
 unfold zrO at hv
 split at hv
 ·rename_i fn hfn
  split at hv
  ·rename_i c hbody
   split at hv
   ·rename_i hnt
    simp only[Bool.and_eq_true,Nat.ble_eq] at hnt
    have S:=zjV (P:=P) (Nat.eq_of_beq_eq_true hnt.1) hnt.2 hvs hfz hgl
    have hwp:=zwG (B:=w.heap.size) (w0:=w) hok hidle ann c 0 h0 (zgU c) _ _ _ _ _ _ (λ _ h=>h) hv S (Kp.refl _ _)
    refine (callsIn_wide (n:=0)).1 ?_
    refine callsIn_of_wp_marks (F:=FR none) hfn hbody trivial (wpIn_mono hwp ?_)
    have h0b:∀ b,h0 b=some (.fz (.deferred (some [])))->b < w.heap.size:=λ b h=>hfz.lt h
    rintro e a' w' ⟨g',σ',hK',S',_⟩
    have fin:zFN P fn K σ'->LeavesInM (FR none) 0 P fn a'.tmps (λ e w'=>∃ (h':Fz) (rs:List PA) (v:Value),K rs/\e=.returned v/\zmL h' rs v/\Bel h0 w.heap.size w w' /\
      Fle h0 h'/\Hw h' w'/\∀ b o,h' b=some o->h0 b=some o∨w.heap.size≤b) a'.defers .returning w':=by
     intro hf
     obtain⟨Ds,h1,h2,h3,h4⟩:=S'.dfr
     refine zjU h0b Ds g' a' w' h1 h2 h3 h4 S' λ g2 a2 w2 _ S2=>?_
     unfold zFN at hf
     split at hf
     ·rename_i l hl
      obtain⟨u,v,hu,hrun,hres⟩:=zjT S2 hl
      obtain⟨h',S3,F⟩:=S2.freeze hu
      exact⟨v,hrun,h',l,v,hf,rfl,hres h' F,S3.below,S3.le0,S3.hw,S3.hn⟩
     ·exact hf.elim
    cases e with
    | normal=>exact fin hK'
    | ret=>exact fin hK'
    | exit id=>exact hK'.elim
    | goto l=>exact hK'.elim
    | panic ch=>exact hK'.elim
    | outgrown=>exact hK'.elim
   ·exact hv.elim
  ·exact hv.elim
 ·exact hv.elim
theorem zAk {T : Tabs} (hT : TabsOk P T) {f fi : FuncId} {C : List PA → COut} (hc : zav P f) (hidle : ∀ caps : Array Value, caps.size = 2 → zlr P { target := .fn (.func fi) caps, args := #[] })
    (h:∀ args K,(C args).wp K->∃ args',RL PAle args args'/\∃ memo vv ann,zrO P (csm T memo vv) fi ann f args' (Wk K)):Ok P f C:=by
  intro args K hK w h0 vs hvs hfz hgl
  obtain⟨args',hle,memo,vv,ann,hv⟩:=h args K hK
  refine⟨hc,(zAj (hT.all memo vv) hidle hv (zuD (R:=paR h0) (S:=PAle) (T:=paR h0) (λ _ _ _ e r=>zzJ e r) _ _ _ hle hvs) hfz hgl).mono ?_⟩
  rintro e w' ⟨h',rs,v,⟨rs',hr,hk⟩,he,hres,rest⟩
  exact⟨h',rs',v,hk,he,zuE hr hres,rest⟩
end
end Go.Pm
namespace Go.Pm
open Go Go.Proofs
set_option maxRecDepth 100000
theorem zHr:∀ caps:Array Value,caps.size=2->zlr Tryd.prog { target:=.fn (.func 68) caps,args:=#[] }:=λ caps hc=>by
 match caps,hc with
 | ⟨[x,y]⟩,_ =>
 refine⟨.func 68,#[x,y],68,#[x,y],rfl,λ w=>?_,λ n w=>?_⟩
 ·have h : zav Tryd.prog 68 := ⟨_, rfl, rfl, by kernel_rfl⟩
  show (callFunc 68 (#[] ++ #[x,y])).run Tryd.prog w=_
  exact zb3 h
 have key:CallsDIn { fn:=λ _=>True,depth:=none,alive:=false,round:=none } n Tryd.prog 68 #[x,y] .returning w λ e u' w'=>e=.returned (.tuple #[])/\u'=.returning/\w'=w:=by
  refine callsDIn_of_wpSIn Tryd.func68 rfl trivial λ c₀ cs hu=>?_
  apply wpSIn_seq
  apply wpSIn_region
  simp[wpOpsSIn,go_sem,recoverD,hu,Tryd.ntmps68,Exit.thenS]
  apply wpSIn_seq
  apply wpSIn_region
  simp[wpOpsSIn,go_sem,recoverD,hu,Tryd.ntmps68,Exit.thenS]
  refine wpSIn_cond (t:=false) (by simp[Act.eval,Array.replicate]) ?_
  simp only[Bool.false_eq_true,if_false]
  refine wpSIn_of_wpIn rfl (wpIn_skip ?_)
  cases c₀
  simp_all [bodyPostS,results,Tryd.results68]
 exact key.mono λ e u' w' h=>⟨⟨_,h.1⟩,h.2⟩
end Go.Pm
namespace Go.Proofs
open Go Go.Pm
set_option maxRecDepth 100000
set_option linter.unusedVariables false
attribute [local irreducible] Go.Pm.vcFun Go.Pm.vc Go.Pm.vcIter
abbrev T22:Tabs:=(((Tabs.nil.addF 67 zuQ).addM 69 zHm).addF 70 zD4)
theorem zJ5:TabsOk Tryd.prog T22:=(((TabsOk.nil.addF zJy).addM zLZ).addF zL1)
abbrev G22:Ctrs:=csm T22 (λ _ _=>[]) (λ l=>Nat.beq l 12)
def zD5:Ann:=⟨29,[(0,zK [1,2,3] [1,2,3]),(1,zK [1,2,3,9] [1,2,3]),(2,zK [2,3] [2,3]),(3,zK [1,2,3] [1,2,3]),(4,zK [2,3,4] [2,3,12,14]),(5,zK [2,3,4,15] [2,3,12,14]),(6,zK [2,3,4,15,16] [2,3,12,14]),(7,zK [2,3,4,5,15] [2,3,12,14]),(8,zK [2,3,4,6,15] [2,3,12,14]),(9,zK [2,3,4,6,15,23] [2,3,12,14]),(10,zK [2,3] [2,3]),(11,zK [2,3,4,15] [2,3,12,14])],
 [(6,zK [2,3,4,15] [2,3,12,14])],
 [],
 [],[]⟩
abbrev R22:=((Sl Int)×Int)
abbrev e22 (r:R22):List PA:=[.one (.sl r.1.len 1 (λ i=>zac (r.1.get i))),.one (.int .i64 r.2)]
@[irreducible] def z22:=ptF Tryd.prog G22 zD5 Tryd.f22
def zBx (zaJ:Int) (zbg:Int) (zba:(Sl Tie)) (zbh:Nat) (zbi:(List Int->Option (List Int))) (zdo:Nat->List PV):St:=⟨[(2,zp 2 0),(3,zp 3 0),(4,zp 14 0),(15,zI zaJ)],[(2,.box 27 [.p (.nils)]),(3,.box 28 [zi (0:Int)]),(12,.mo 3 4 (false,1,false,[none]) zbh zbi),(14,.box 105 [zi zbg,.p (.sl zba.len 4 zdo),.mo 12])],[]⟩
abbrev zHs (K:List PA->Prop) (X:St->Prop) (P:Int->Int->(Sl Tie)->Nat->(List Int->Option (List Int))->Bool) (S:Int->Int->(Sl Tie)->Nat->(List Int->Option (List Int))->((Sl Int)×Int)):Prop:=∀ ⦃zaJ:Int⦄ ⦃zbg:Int⦄ ⦃zba:(Sl Tie)⦄ ⦃zbh:Nat⦄ ⦃zbi:(List Int->Option (List Int))⦄ ⦃zdo:Nat->List PV⦄,P zaJ zbg zba zbh zbi=true->K (e22 (S zaJ zbg zba zbh zbi))->zdo=zg enc_40 zba->X (zBx zaJ zbg zba zbh zbi zdo)
section
variable {K:List PA->Prop}{n:Net}{zaJ:Int}{zbg:Int}{zba:(Sl Tie)}{zbh:Nat}{zbi:(List Int->Option (List Int))}{zdo:Nat->List PV}{X0:St->Prop}{P0:Int->Int->(Sl Tie)->Nat->(List Int->Option (List Int))->Bool}{S0:Int->Int->(Sl Tie)->Nat->(List Int->Option (List Int))->((Sl Int)×Int)}
def zwH (S0:Int->Int->(Sl Tie)->Nat->(List Int->Option (List Int))->((Sl Int)×Int)) (zaJ:Int) (zbg:Int) (zba:(Sl Tie)) (zbh:Nat) (zbi:(List Int->Option (List Int))):((Sl Int)×Int) :=
  (cond (decide (zaJ < (4:Int)))
 (cond (decide ((((s69 (⟨(⟨zbg, zba⟩ : Net), (⟨zbh, zbi⟩ : Mp)⟩ : web) zaJ).1).len : Int) > (0:Int)))
 ((s70 ((s69 (⟨(⟨zbg,zba⟩:Net),(⟨zbh,zbi⟩:Mp)⟩:web) zaJ).1)),(0:Int))
 (S0 (w64 (zaJ+(1:Int))) (((s69 (⟨(⟨zbg,zba⟩:Net),(⟨zbh,zbi⟩:Mp)⟩:web) zaJ).2).Net.Nodes) (((s69 (⟨(⟨zbg,zba⟩:Net),(⟨zbh,zbi⟩:Mp)⟩:web) zaJ).2).Net.Ties) ((((s69 (⟨(⟨zbg,zba⟩:Net),(⟨zbh,zbi⟩:Mp)⟩:web) zaJ).2).out).n) ((((s69 (⟨(⟨zbg,zba⟩:Net),(⟨zbh,zbi⟩:Mp)⟩:web) zaJ).2).out).F)))
 default)
def zwI (P0:Int->Int->(Sl Tie)->Nat->(List Int->Option (List Int))->Bool) (zaJ:Int) (zbg:Int) (zba:(Sl Tie)) (zbh:Nat) (zbi:(List Int->Option (List Int))):Bool :=
  (cond (decide (zaJ < (4:Int)))
 (decide ((p69 (⟨(⟨zbg,zba⟩:Net),(⟨zbh,zbi⟩:Mp)⟩:web) zaJ=true)) &&
 (cond (decide ((((s69 (⟨(⟨zbg, zba⟩ : Net), (⟨zbh, zbi⟩ : Mp)⟩ : web) zaJ).1).len : Int) > (0:Int)))
 (decide ((p70 ((s69 (⟨(⟨zbg,zba⟩:Net),(⟨zbh,zbi⟩:Mp)⟩:web) zaJ).1)=true)) &&
 true)
 (P0 (w64 (zaJ+(1:Int))) (((s69 (⟨(⟨zbg,zba⟩:Net),(⟨zbh,zbi⟩:Mp)⟩:web) zaJ).2).Net.Nodes) (((s69 (⟨(⟨zbg,zba⟩:Net),(⟨zbh,zbi⟩:Mp)⟩:web) zaJ).2).Net.Ties) ((((s69 (⟨(⟨zbg,zba⟩:Net),(⟨zbh,zbi⟩:Mp)⟩:web) zaJ).2).out).n) ((((s69 (⟨(⟨zbg,zba⟩:Net),(⟨zbh,zbi⟩:Mp)⟩:web) zaJ).2).out).F))))
 false)
def zwJ:Nat->Int->Int->(Sl Tie)->Nat->(List Int->Option (List Int))->((Sl Int)×Int):=lpO (λ _ _ _ _ _=>default) (zwH)
def zwK:Nat->Int->Int->(Sl Tie)->Nat->(List Int->Option (List Int))->Bool:=lpO (λ _ _ _ _ _=>false) (zwI)
def zwL (zaJ:Int) (zbg:Int) (zba:(Sl Tie)) (zbh:Nat) (zbi:(List Int->Option (List Int))):((Sl Int)×Int):=zwJ Fuel zaJ zbg zba zbh zbi
def zwM (zaJ:Int) (zbg:Int) (zba:(Sl Tie)) (zbh:Nat) (zbi:(List Int->Option (List Int))):Bool:=zwK Fuel zaJ zbg zba zbh zbi
theorem zD6 (hs:zwM zaJ zbg zba zbh zbi=true) (hk:K (e22 (zwL zaJ zbg zba zbh zbi))) (zkf:zdo=zg enc_40 zba):z22 (Wk K) [1,1,1,1,0,1,0] [] (zBx zaJ zbg zba zbh zbi zdo) :=
  zl (λ X=>z22 (Wk K) [1,1,1,1,0,1,0,0] [X]) (by kernel_rfl) λ X0 hX =>
  (show ∀ k, zHs K X0 (zwK k) (zwJ k) from zeF _ _ (zwI) (zwH) (zHs K X0)
 (by intro _ _ _ _ _ _ hs;exact absurd hs Bool.false_ne_true)
 (by intro P0 S0 hX0 zaJ zbg zba zbh zbi zdo hs hk zkf;subst zkf;exact hX _ (za2 (by kernel_rfl) (zc hs hk (λ hs hk=>(zaM hs λ hc hs=>And.intro (And.intro (zE enc_40 4 zba.get) (And.intro (rfl:((false,1,false,[none]):MQ)=(false,1,false,[none])) hc)) (zc hs hk (λ hs hk=>(zaM hs λ hc hs=>And.intro (And.intro (zE zbW 1 (((s69 (⟨(⟨zbg,zba⟩:Net),(⟨zbh,zbi⟩:Mp)⟩:web) zaJ).1).get)) hc) ((zgk hk):Wk K [.one (.sl ((s70 ((s69 (⟨(⟨zbg,zba⟩:Net),(⟨zbh,zbi⟩:Mp)⟩:web) zaJ).1)).len) 1 (λ i=>zac ((s70 ((s69 (⟨(⟨zbg,zba⟩:Net),(⟨zbh,zbi⟩:Mp)⟩:web) zaJ).1)).get i))),.one (.int .i64 (0:Int))]))) (λ hs hk=>(hX0 hs hk rfl))))) (λ hs hk=>(absurd hs Bool.false_ne_true:False)))))) _ hs hk zkf
def s22 (n:Net):((Sl Int)×Int) :=
  (cond (!(s67 n))
 ((⟨0,λ _=>default⟩:(Sl Int)),(2:Int))
 (zwL (0:Int) n.Nodes n.Ties 0 (λ _=>none)))
def p22 (n:Net):Bool :=
  (decide ((p67 n=true)) &&
 (cond (!(s67 n))
 true
 (zwM (0:Int) n.Nodes n.Ties 0 (λ _=>none))))
end
theorem q22 (n:Net) (K:List PA->Prop) (hs:p22 n=true) (hk:K (e22 (s22 n))):zrO Tryd.prog G22 68 zD5 22 [.agg (enc_24 n)] (Wk K) :=
  za2 (by kernel_rfl) (zaM hs λ hc hs=>And.intro (And.intro (zE enc_40 4 n.Ties.get) hc) (zc hs hk (λ hs hk=>((wk hk (zhm (.one (.nil _ _)) (zhm (.one (.rfl _)) znD))):Wk K [.one (.nils),.one (.int .i64 (2:Int))])) (λ hs hk=>(zD6 hs hk rfl))))
def zD7 : List PA → COut
  | [.agg [.int .i64 zaf,.sl zae zay zad]]=>.det (IsE enc_40 4 zay zad/\p22 (⟨zaf,(⟨zae,zan zad⟩:(Sl Tie))⟩:Net)=true) [.one (.sl (((s22 (⟨zaf,(⟨zae,zan zad⟩:(Sl Tie))⟩:Net)).1).len) 1 (λ i=>zac (((s22 (⟨zaf,(⟨zae,zan zad⟩:(Sl Tie))⟩:Net)).1).get i))),.one (.int .i64 ((s22 (⟨zaf,(⟨zae,zan zad⟩:(Sl Tie))⟩:Net)).2))]
  | _=>.no
theorem zHt:zav Tryd.prog 22:=⟨_,rfl,rfl,by kernel_rfl⟩
theorem zL2:Ok Tryd.prog 22 zD7:=zAk zJ5 zHt zHr λ args K h=>by
  unfold zD7 at h
  split at h
  · rename_i zaf zae zay zad
    obtain⟨⟨⟨rfl,zaq,rfl⟩,hs⟩,hk⟩:=h
    try rw[zal zaq] at hs
    try rw[zal zaq] at hk
    exact⟨_,zfs zgj _,(λ _ _=>[]),(λ l=>Nat.beq l 12),zD5,q22 (⟨zaf,(⟨zae,zaq⟩:(Sl Tie))⟩:Net) K hs hk⟩
  · exact h.elim
end Go.Proofs
