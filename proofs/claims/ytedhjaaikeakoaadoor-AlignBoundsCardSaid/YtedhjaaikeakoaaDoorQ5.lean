/- Part 5 of what the proof rests on: a machine that runs functions of the program on pure values, proved sound; the functions that the law reaches, and what they compute. -/
import Derived.Test.YtedhjaaikeakoaaDoorQ4
import Derived.Sort.OwnSortedInts
import Derived.Lib.SlicesCompact
import Derived.Test.YtedhjaaikeakoaaDoorProg
import Derived.ProofKit
import Derived.Deep.Slices
import Derived.OpenShut
set_option linter.all false
namespace Go.Pm

structure Tabs where
  fn:List (Nat×(List PA->COut))
  own:List (Nat×OwnK)
  it:List (Nat×(List PA->Option (Prop×List (List PA))))
  mt:List (Nat×MK)
def zw0 : List (Nat × (List PA -> COut)) -> Nat -> List PA -> COut
  | [],_=>λ _=>.no
  | (k,c) :: r,n=>match Nat.beq k n with | true=>c | false=>zw0 r n
def zw1 (l:List (Nat×OwnK)) (f:Nat):OwnK:=match lk l f with | some c=>c | none=>.none
def zEo (l:List (Nat×(List PA->Option (Prop×List (List PA))))) (f:Nat):List PA->Option (Prop×List (List PA)):=match lk l f with | some c=>c | none=>λ _=>none
def csm (T:Tabs) (memo:Nat->Int->List Int) (vv:Nat->Bool):Ctrs:=⟨zw0 T.fn,zw1 T.own,zEo T.it,memo,vv,lk T.mt⟩
abbrev cs (T:Tabs):Ctrs:=csm T (λ _ _=>[]) (λ _=>false)
def Tabs.nil:Tabs:=⟨[],[],[],[]⟩
def Tabs.addF (T:Tabs) (f:Nat) (c:List PA->COut):Tabs:=⟨(f,c) :: T.fn,T.own,T.it,T.mt⟩
def Tabs.addO (T:Tabs) (f:Nat) (c:OwnK):Tabs:=⟨T.fn,(f,c) :: T.own,T.it,T.mt⟩
def Tabs.addI (T:Tabs) (f:Nat) (c:List PA->Option (Prop×List (List PA))):Tabs:=⟨T.fn,T.own,(f,c) :: T.it,T.mt⟩
def Tabs.addM (T:Tabs) (f:Nat) (c:MK):Tabs:=⟨T.fn,T.own,T.it,(f,c) :: T.mt⟩

theorem zKX {P:Program}{f:Nat} : Ok P f (λ _=>.no):=λ _ _ h=>h.elim
theorem zKY {P:Program}{f:Nat} : zCF P f (λ _=>none):=λ _ _ _ h=>by cases h

structure TabsOk (P : Program) (T : Tabs) : Prop where
  fn:∀ x∈T.fn,Ok P x.1 x.2
  own:∀ x∈T.own,zoK P x.1 x.2
  it:∀ x∈T.it,zCF P x.1 x.2
  mt:∀ x∈T.mt,zjM P x.1 x.2
theorem TabsOk.nil {P:Program} : TabsOk P .nil:=⟨λ _ h=>(by cases h),λ _ h=>(by cases h),λ _ h=>(by cases h),λ _ h=>(by cases h)⟩
theorem TabsOk.addF {P:Program}{T:Tabs}(h:TabsOk P T){f:Nat}{c:List PA->COut}(hc:Ok P f c):TabsOk P (T.addF f c) :=
 ⟨λ x hx=>(List.mem_cons.1 hx).elim (λ e=>by rw[e];exact hc) (λ hx=>h.fn x hx),h.own,h.it,h.mt⟩
theorem TabsOk.addO {P:Program}{T:Tabs}(h:TabsOk P T){f:Nat}{c:OwnK}(hc:zoK P f c):TabsOk P (T.addO f c) :=
 ⟨h.fn,λ x hx=>(List.mem_cons.1 hx).elim (λ e=>by rw[e];exact hc) (λ hx=>h.own x hx),h.it,h.mt⟩
theorem TabsOk.addI {P:Program}{T:Tabs}(h:TabsOk P T){f:Nat}{c:List PA->Option (Prop×List (List PA))}(hc:zCF P f c):TabsOk P (T.addI f c) :=
 ⟨h.fn,h.own,λ x hx=>(List.mem_cons.1 hx).elim (λ e=>by rw[e];exact hc) (λ hx=>h.it x hx),h.mt⟩
theorem TabsOk.addM {P:Program}{T:Tabs}(h:TabsOk P T){f:Nat}{c:MK}(hc:zjM P f c):TabsOk P (T.addM f c) :=
 ⟨h.fn,h.own,h.it,λ x hx=>(List.mem_cons.1 hx).elim (λ e=>by rw[e];exact hc) (λ hx=>h.mt x hx)⟩
theorem TabsOk.all {P:Program}{T:Tabs}(h:TabsOk P T) (memo:Nat->Int->List Int) (vv:Nat->Bool):OkAll P (csm T memo vv):=by
 refine⟨λ f C hC=>h.mt _ (zcd hC),λ f=>?_,λ f=>?_,λ f=>?_⟩
 ·show Ok P f (zw0 T.fn f)
  have key:∀ l:List (Nat×(List PA->COut)),(∀ x∈l,Ok P x.1 x.2)->Ok P f (zw0 l f):=by
   intro l
   induction l with
   | nil=>intro _;exact zKX
   | cons x l ih =>
    intro hl
    obtain⟨k,c⟩:=x
    simp only[zw0]
    split
    ·rename_i e
     have:=hl (k,c) List.mem_cons_self
     rw[← Nat.eq_of_beq_eq_true e];exact this
    ·exact ih λ x hx=>hl x (List.mem_cons_of_mem _ hx)
  exact key T.fn h.fn
 ·show zoK P f (zw1 T.own f)
  unfold zw1
  split
  ·rename_i c hc;exact h.own _ (zcd hc)
  ·trivial
 ·show zCF P f (zEo T.it f)
  unfold zEo
  split
  ·rename_i c hc;exact h.it _ (zcd hc)
  ·exact zKY

theorem zbH {P : Program}{T : Tabs}(hT : TabsOk P T){f : FuncId}{C : List PA -> COut}(hc : zaA P f)
    (h:∀ args K,(C args).wp K->∃ memo vv ann,vcFun P (csm T memo vv) ann f args K):Ok P f C :=
  zBt (hT.all (λ _ _=>[]) (λ _=>false)) hc h
theorem zEp {P : Program}{T : Tabs}(hT : TabsOk P T){f : FuncId}{C : MK}(hc : zaA P f)
    (h:∀ xs safe rs ys,C xs=some (safe,rs,ys)->safe->∀ K:List PA->List XA->Prop,K rs ys->∃ memo vv ann,zk2 P (csm T memo vv) ann f xs K):zjM P f C :=
  zwZ (hT.all (λ _ _=>[]) (λ _=>false)) hc h
theorem zH4 {P : Program}{T : Tabs}(hT : TabsOk P T){f : FuncId}{C : List PA -> Option (Prop × List (List PA))}(hc : zaA P f)
    (h:∀ l caps safe ys,C caps=some (safe,ys)->safe->∃ memo vv ann,vcIter P (csm T memo vv) ann f l caps ys):zCF P f C :=
  zBx (hT.all (λ _ _=>[]) (λ _=>false)) hc h
structure Sl (α : Type) where
  len:Nat
  get:Nat->α
instance {α:Type} [Inhabited α]:Inhabited (Sl α):=⟨⟨0,λ _=>default⟩⟩
abbrev w64 (x:Int):Int:=IntKind.i64.wrap x

def IsE {α:Type}(enc:α->List PV) (size s:Nat) (g:Nat->List PV):Prop:=s=size/\∃ f:Nat->α,g=λ i=>enc (f i)
theorem isE {α:Type}{enc:α->List PV}{size:Nat}{f:Nat->α} : IsE enc size size (λ i=>enc (f i)):=⟨rfl,f,rfl⟩
theorem zw2 {α:Type}{enc:α->List PV}{size:Nat}{x:α} : IsE enc size size (λ _=>enc x):=⟨rfl,λ _=>x,rfl⟩
def zf4 {α:Type}(n:Nat) (get new:Nat->α):Nat->α:=λ j=>match Nat.ble n j with | true=>new (j - n) | false=>get j
theorem zBB {α:Type}{enc:α->List PV}{n:Nat}{f h:Nat->α} : appG n (λ i=>enc (f i)) (λ i=>enc (h i))=λ i=>enc (zf4 n f h i):=by
 funext j;simp only[appG,zf4];cases Nat.ble n j <;> rfl
def zqv {α : Type}(x : α) : List α -> Nat -> α
  | [],_=>x
  | y :: _,0=>y
  | _ :: r,i+1=>zqv x r i
theorem ztG {α:Type}{enc:α->List PV}{x y:α}{r:List α} : zbz (enc x :: enc y :: r.map enc)=λ i=>enc (zqv x (x :: y :: r) i):=by
 have key:∀ (l:List α) (i:Nat),(match (l.map enc)[i]? with | some z=>z | none=>enc x)=enc (zqv x l i):=by
  intro l
  induction l with
  | nil=>intro i;rfl
  | cons a l ih =>
   intro i
   cases i with
   | zero=>rfl
   | succ i=>simpa [zqv] using ih i
 funext i
 exact key (x :: y :: r) i
theorem zdx {α:Type}{enc:α->List PV}{size:Nat}{x y:α}(r:List α):IsE enc size size (zbz (enc x :: enc y :: r.map enc)):=⟨rfl,_,ztG⟩

theorem za2 {b:Bool}{A B:Prop}{S S':Bool}{α:Type}{K:α->Prop}{x y:α}(h1:S=true->K x->A) (h2:S'=true->K y->B) (hs:cond b S S'=true) (hk:K (cond b x y)):zbR b A B:=by
 cases b
 ·exact h2 hs hk
 ·exact h1 hs hk
theorem zh2 {b:Bool}{A B:Prop}{S S':Bool}{α β:Type}{f:α->β}{ys:List β}{x y:List α}(hs:cond b S S'=true) (hk:ys=(cond b x y).map f) (h1:S=true->ys=x.map f->A) (h2:S'=true->ys=y.map f->B):zbR b A B:=by
 cases b
 ·exact h2 hs hk
 ·exact h1 hs hk
theorem itY {α β:Type}{f:α->β}{ys:List β}{p:β}{x r:List α}{l:Nat}{A:List β->Prop}(hk:ys=x.map f) (e:x.map f=p :: r.map f) (h:∀ zs,zs=r.map f->A zs):l=l/\∃ z,ys=p :: z/\A z/\True :=
 ⟨rfl,_,hk.trans e,h _ rfl,trivial⟩
theorem zaX {C A:Prop} [d:Decidable C] {r:Bool}(hs:(decide C && r)=true) (k:C->r=true->A):A:=by
 rw[Bool.and_eq_true] at hs
 exact k (of_decide_eq_true hs.1) hs.2
abbrev Fuel:Nat:=9223372036854775808
def setT {α:Type}(i:Nat) (v:α) (get:Nat->α):Nat->α:=λ j=>match Nat.beq j i with | true=>v | false=>get j
theorem zjw {α:Type}{enc:α->List PV}{n:Nat}{g g':Nat->List PV}{f h:Nat->α}(h1:g=λ i=>enc (f i)) (h2:g'=λ i=>enc (h i)):appG n g g'=λ i=>enc (zf4 n f h i):=by
 subst h1;subst h2;exact zBB
theorem zfH {α:Type}{enc:α->List PV}{i k:Nat}{g:Nat->List PV}{f:Nat->α}{new:List PV}{v:α}(h1:g=λ i=>enc (f i)) (h2:spl (enc (f i)) k new=enc v):zjP i k g new=λ j=>enc (setT i v f j):=by
 subst h1
 funext j
 simp only[zjP,setT]
 cases e:Nat.beq j i
 ·rfl
 ·have := Nat.eq_of_beq_eq_true e
  subst this;exact h2
def zvu (P:Program) (G:Ctrs) (ann:Ann) (hd:Nat) (ps:List Nat) (assign body:Code) (X:List (List PA)->St->Prop) (K:Exit->St->Prop) (y:List PA) (rest:List (List PA)) (s:St):Prop :=
 match lk ann.head hd with
 | some k=>match zhP ps y s.env with
  | some env=>vc P G ann assign (zCE (vc P G ann body (zms P k (X rest) K)) λ _ _=>False) ⟨env,s.objs,[]⟩
  | none=>False
 | none=>False
end Go.Pm
namespace Go.Pm
open Go Go.Sort

/-! Nil slices are slices of length 0. -/
inductive PVle : PV -> PV -> Prop
  | rfl (p:PV):PVle p p
  | nil (s:Nat) (g:Nat->List PV):PVle .nils (.sl 0 s g)
  | nilm (q:MQ):PVle .nilm (.fm q 0 (λ _=>none))
inductive PAle : PA -> PA -> Prop
  | one {p q:PV} : PVle p q->PAle (.one p) (.one q)
  | agg {l m:List PV} : RL PVle l m->PAle (.agg l) (.agg m)
theorem zpt {α β:Type}{R:α->β->Prop} : RL R [] []:=trivial
theorem zis {α β:Type}{R:α->β->Prop}{a:α}{b:β}{l:List α}{m:List β}(h:R a b) (h':RL R l m):RL R (a :: l) (b :: m):=⟨h,h'⟩
theorem zf5 {α : Type}{R : α -> α -> Prop}(h : ∀ a, R a a) : ∀ l : List α, RL R l l
  | []=>trivial
  | a :: l=>⟨h a,zf5 h l⟩
theorem zg4 (a:PA):PAle a a:=by
 cases a with
 | one p=>exact .one (.rfl p)
 | agg l=>exact .agg (zf5 .rfl l)
def Wk (K:List PA->Prop) (l:List PA):Prop:=∃ l',RL PAle l l'/\K l'
theorem wk {K:List PA->Prop}{l l':List PA}(hk:K l') (h:RL PAle l l'):Wk K l:=⟨l',h,hk⟩
theorem zg5 {K:List PA->Prop}{l:List PA}(hk:K l):Wk K l:=⟨l,zf5 zg4 l,hk⟩
theorem zH5 {h:Fz}{p q:PV}{v:Value}(e:PVle p q) (r:Rep h p v):Rep h q v:=by
 cases e with
 | rfl=>exact r
 | nil s g=>cases r;exact .sl0 s g
 | nilm q=>cases r;exact .fmn q _ (λ _ _=>rfl)
theorem zw3 {α β γ : Type}{R : α -> β -> Prop}{S : α -> γ -> Prop}{T : γ -> β -> Prop}(h : ∀ a b c, S a c -> R a b -> T c b) : ∀ (l : List α) (m : List β) (k : List γ), RL S l k -> RL R l m -> RL T k m
  | [],[],[],_,_=>trivial
  | a :: l,b :: m,c :: k,hs,hr=>⟨h a b c hs.1 hr.1,zw3 h l m k hs.2 hr.2⟩
  | [],_ :: _,[],_,hr=>hr.elim
  | [],_,_ :: _,hs,_=>hs.elim
  | _ :: _,_,[],hs,_=>hs.elim
  | _ :: _,[],_ :: _,_,hr=>hr.elim
theorem zBC {h:Fz}{a b:PA}{v:Value}(e:PAle a b) (r:paR h a v):paR h b v:=by
 cases e with
 | one e=>exact zH5 e r
 | agg e =>
  obtain⟨vs,rfl,hv⟩:=r
  exact⟨vs,rfl,zw3 (R:=Rep h) (S:=PVle) (T:=Rep h) (λ _ _ _ e r=>zH5 e r) _ _ _ e hv⟩
theorem zw4 {h:Fz}{l m:List PA}{v:Value}(e:RL PAle l m) (r:zoB h l v):zoB h m v:=by
 match l,m,e,r with
 | [a],[b],e,r=>exact zBC e.1 r
 | [],[],_,r=>exact r
 | a :: b :: l,c :: d :: m,e,r =>
  obtain⟨vs,hv,hr⟩:=r
  exact⟨vs,hv,zw3 (R:=paR h) (S:=PAle) (T:=paR h) (λ _ _ _ e r=>zBC e r) _ _ _ e hr⟩
 | [_],_ :: _ :: _,e,_=>exact e.2.elim
 | _ :: _ :: _,[_],e,_=>exact e.2.elim
 | [],_ :: _,e,_=>exact e.elim
 | _ :: _,[],e,_=>exact e.elim
theorem ziG {P : Program}{T : Tabs}(hT : TabsOk P T){f : FuncId}{C : List PA -> COut}(hc : zaA P f)
    (h:∀ args K,(C args).wp K->∃ args',RL PAle args args'/\∃ memo vv ann,vcFun P (csm T memo vv) ann f args' (Wk K)):Ok P f C:=by
  intro args K hK w h0 vs hvs hfz hgl
  obtain⟨args',hle,memo,vv,ann,hv⟩:=h args K hK
  refine⟨hc,(zwS (hT.all memo vv) hv (zw3 (R:=paR h0) (S:=PAle) (T:=paR h0) (λ _ _ _ e r=>zBC e r) _ _ _ hle hvs) hfz hgl).mono ?_⟩
  rintro e w' ⟨h',rs,v,⟨rs',hr,hk⟩,he,hres,rest⟩
  exact⟨h',rs',v,hk,he,zw4 hr hres,rest⟩
theorem zBD {P : Program}{T : Tabs}(hT : TabsOk P T){f : FuncId}{C : MK}(hc : zaA P f)
    (h:∀ xs safe rs ys,C xs=some (safe,rs,ys)->safe->∀ K:List PA->List XA->Prop,K rs ys->∃ memo vv ann,zk2 P (csm T memo vv) ann f xs (λ a b=>Wk (λ a'=>K a' b) a)):zjM P f C:=by
  intro xs ys safe rs hC hs w h0 base vs hvs hn hK hw hgl hB
  obtain⟨memo,vv,ann,hv⟩:=h xs safe rs ys hC hs (λ l zs=>l=rs/\zs=ys) ⟨rfl,rfl⟩
  refine⟨hc,(zwY (hT.all memo vv) hv hvs hn hK hw hgl hB).mono ?_⟩
  rintro e w' ⟨h',v,rs',ys',⟨rs2,hr,rfl,rfl⟩,he,hres,r⟩
  exact⟨h',v,he,zw4 hr hres,r⟩
def WkM (K:List PA×List XA->Prop) (p:List PA×List XA):Prop:=Wk (λ a=>K (a,p.2)) p.1
theorem wkM {K:List PA×List XA->Prop}{l l':List PA}{b:List XA}(hk:K (l',b)) (h:RL PAle l l'):WkM K (l,b):=⟨l',h,hk⟩
theorem zw5 {K:List PA×List XA->Prop}{p:List PA×List XA}(hk:K p):WkM K p:=⟨p.1,zf5 zg4 p.1,hk⟩
/-! Maps, as typed values; the keys of a map. -/
structure Mp where
  n:Nat
  F:List Int->Option (List Int)
instance:Inhabited Mp:=⟨⟨0,λ _=>none⟩⟩

end Go.Pm
namespace Go.Pm

abbrev zI (x:Int):DV:=.one (.c (.p (.int .i64 x)))
abbrev zB (x:Bool):DV:=.one (.c (.p (.bool x)))
abbrev zP (x:PV):DV:=.one (.c (.p x))
abbrev zp (L k:Nat):DV:=.one (.c (.ptr L k))
abbrev zv (L:Nat):DV:=.one (.c (.vec L))
abbrev zs {α:Type}(enc:α->List PV) (s:Nat) (x:Sl α):PV:=.sl x.len s (λ i=>enc (x.get i))
abbrev zS {α:Type}(enc:α->List PV) (s:Nat) (x:Sl α):DV:=zP (zs enc s x)
abbrev zm (l:List PV):List Cl:=l.map Cl.p
abbrev zi (x:Int):Cl:=.p (.int .i64 x)
abbrev zg {α:Type}(enc:α->List PV) (x:Sl α):Nat->List PV:=λ i=>enc (x.get i)
abbrev zK (a b:List Nat):Keep:=⟨a,b,[],[],[],[],[]⟩
theorem zE {α:Type}(enc:α->List PV) (size:Nat) (f:Nat->α):IsE enc size size (λ i=>enc (f i)):=⟨rfl,f,rfl⟩

theorem zw6 {α : Type} : ∀ (new l pre : List α), l.length = new.length -> spl (pre ++ l) pre.length new = pre ++ new
  | [],l,pre,h=>by
    have:l=[]:=List.eq_nil_of_length_eq_zero h
    subst this;rfl
  | x :: r,[],pre,h=>by simp at h
  | x :: r,y :: l,pre,h=>by
    have e:=zw6 r l (pre ++ [x]) (by simpa using h)
    simp only[spl,List.append_assoc,List.singleton_append,List.length_append,List.length_singleton] at e ⊢
    rw[List.set_append_right _ _ (Nat.le_refl _),Nat.sub_self,List.set_cons_zero]
    exact e
theorem znQ {n:Nat}{F G:Nat->Int} : spl (zhI 0 n F) 0 (zhI 0 n G)=zhI 0 n G:=by
 have h:=zw6 (zhI 0 n G) (zhI 0 n F) [] (by rw[zfe,zfe])
 simpa using h
theorem zh3 {n:Nat}{F:Nat->Int} : zhI 0 n F=zhI 0 n (zmn (zm (zhI 0 n F))):=by
 refine List.ext_getElem? λ k=>?_
 by_cases hk:k < n
 ·rw[zgD n 0 F k hk, zgD n 0 _ k hk, Nat.zero_add]
  congr 2
  have h:(zm (zhI 0 n F))[k]? = some (.p (.int .i64 (F k))):=by
   rw[zm,List.getElem?_map,zgD n 0 F k hk,Nat.zero_add];rfl
  unfold zmn
  rw[h]
 ·rw[List.getElem?_eq_none (by rw[zfe];omega),List.getElem?_eq_none (by rw[zfe];omega)]

@[reducible] def lpO {A : Type} (d : A) (st : A -> A) : Nat -> A
  | 0=>d
  | k+1=>st (lpO d st k)
theorem ziH {A B : Type}(a : A) (b : B) (p : A -> A) (s : B -> B) (M : A -> B -> Prop) (h0 : M a b) (h1 : ∀ P S, M P S -> M (p P) (s S)) : ∀ k, M (lpO a p k) (lpO b s k)
  | 0=>h0
  | k+1=>h1 _ _ (ziH a b p s M h0 h1 k)
theorem zy {α:Type}{y:Sl α}{P:Sl α->Prop}(h:P y):P ⟨y.len,y.get⟩:=h

def xcm (l:List PV):List XC:=l.map .p
def unX : List XC -> List PV
  | []=>[]
  | .p v :: r=>v :: unX r
  | _ :: r=>.nilp :: unX r
theorem zw7 : ∀ l : List PV, unX (xcm l) = l
  | []=>rfl
  | v :: r=>by show v :: unX (xcm r)=v :: r;rw[zw7 r]
theorem zEq {n:Nat}{F:Nat->Int} : xcm (zhI 0 n F)=xcm (zhI 0 n (zmn (zm (unX (xcm (zhI 0 n F)))))):=by
 rw[zw7,← zh3]

section
variable (P:Program) (Γ:Ctrs) (ann:Ann)
def pt : Code -> (Exit -> St -> Prop) -> List Nat -> List (St -> Prop) -> St -> Prop
  | .seq a b,K,i :: r,X=>match i with | 0=>pt a (sqK P Γ ann b K) r X | _=>pt b K r X
  | .cond _ a b,K,i :: r,X=>match i with | 0=>pt a K r X | _=>pt b K r X
  | .block id b,K,_ :: r,X=>pt b (zas id K) r X
  | .loop b,K,_ :: r,x :: X=>pt b (zbr P ann (zmr b) x K) r X
  | .scope b,K,_ :: r,X=>pt b (zcG K) r X
  | c,K,_,_=>vc P Γ ann c K
def ptF (fn:Func) (K:List PA->Prop) (l:List Nat) (X:List (St->Prop)):St->Prop :=
 match fn.body with
 | some c=>pt P Γ ann c (zbp P fn K) l X
 | none=>λ _=>False
end

theorem zc {b:Bool}{A B:Prop}{S S':Bool}{α:Type}{e:α->List PA}{K:List PA->Prop}{x y:α}(hs:cond b S S'=true) (hk:K (e (cond b x y))) (h1:S=true->K (e x)->A) (h2:S'=true->K (e y)->B):zbR b A B:=by
 cases b
 ·exact h2 hs hk
 ·exact h1 hs hk
theorem zt {b:Bool}{A B:Prop}{α:Type}{e:α->List PA}{K:List PA->Prop}{x y:α}(hk:K (e (cond b x y))) (h1:K (e x)->A) (h2:K (e y)->B):zbR b A B:=by
 cases b
 ·exact h2 hk
 ·exact h1 hk
theorem zH6 {b:Bool}{s:Prop}{r1 r2:List PA}{K:List PA->Prop}(h:(COut.alt b s r1 s r2).wp K):s/\K (cond b r1 r2):=by
 cases b
 ·exact h.2 rfl
 ·exact h.1 rfl
theorem zf {α β:Type}(y:Sl α) (f:Sl α->β):f ⟨y.len,y.get⟩=f y:=rfl
theorem zq {b b':Bool}{A B:Prop}(e:b'=b) (h:zbR b A B):zbR b' A B:=e ▸ h
theorem zl {at_:Prop}{g:St}(B:(St->Prop)->St->Prop) (e:at_ = ∀ X:St->Prop,(∀ s,B X s->X s)->X g) (h:∀ X:St->Prop,(∀ s,B X s->X s)->X g):at_:=e ▸ h
end Go.Pm
namespace Go.Proofs
open Go Go.Pm
set_option maxRecDepth 100000
set_option linter.unusedVariables false
attribute [local irreducible] Go.Pm.vcFun Go.Pm.vc Go.Pm.vcIter
abbrev Tab:=Nat->Int
def tg (n:Nat) (F:Tab) (k:Nat):Int:=zmn (zm (zhI 0 n F)) k
def ts (n:Nat) (F:Tab) (k:Nat) (vs:List Int):Tab:=zCz k vs (zmn (zm (zhI 0 n F)))
abbrev zad (x:Int):List PV:=[.int .i64 x]
def zKZ : List PV -> Int
  | [.int .i64 x]=>x
  | _=>default
def zax (g:Nat->List PV):Nat->Int:=λ i=>zKZ (g i)
theorem zck (f:Nat->Int):zax (λ i=>zad (f i))=f:=rfl
structure Tie where
  From:Int
  To:Int
  Low:Int
  High:Int
deriving Inhabited
abbrev enc_40 (x:Tie):List PV:=[.int .i64 x.From,.int .i64 x.To,.int .i64 x.Low,.int .i64 x.High]
def zH7 : List PV -> Tie
  | [.int .i64 x_From,.int .i64 x_To,.int .i64 x_Low,.int .i64 x_High]=>(⟨x_From,x_To,x_Low,x_High⟩:Tie)
  | _=>default
def zar (g:Nat->List PV):Nat->Tie:=λ i=>zH7 (g i)
theorem zao (f:Nat->Tie):zar (λ i=>enc_40 (f i))=f:=rfl
abbrev zH8 (x:(Sl Tie)):List PV:=[.sl x.len 4 (λ i=>enc_40 (x.get i))]
structure Net where
  Nodes:Int
  Ties:(Sl Tie)
deriving Inhabited
abbrev enc_24 (x:Net):List PV:=[.int .i64 x.Nodes,.sl x.Ties.len 4 (λ i=>enc_40 (x.Ties.get i))]
abbrev zcv (x:(Sl Int)):List PV:=[.sl x.len 1 (λ i=>zad (x.get i))]
def zH9 : List PV -> (Sl Int)
  | [.sl x_n _ x_g]=>(⟨x_n,zax x_g⟩:(Sl Int))
  | _=>default
def znR (g:Nat->List PV):Nat->(Sl Int):=λ i=>zH9 (g i)
theorem zk6 (f:Nat->(Sl Int)):znR (λ i=>zcv (f i))=f:=rfl
structure Span where
  Low:Int
  High:Int
deriving Inhabited
abbrev za7 (x:Span):List PV:=[.int .i64 x.Low,.int .i64 x.High]
def zIa : List PV -> Span
  | [.int .i64 x_Low,.int .i64 x_High]=>(⟨x_Low,x_High⟩:Span)
  | _=>default
def zf6 (g:Nat->List PV):Nat->Span:=λ i=>zIa (g i)
theorem zfo (f:Nat->Span):zf6 (λ i=>za7 (f i))=f:=rfl
structure Pulse where
  A:Int
  B:Int
  TimeA:Int
  TimeB:Int
  Flight:Span
  Jitter:Int
deriving Inhabited
structure Use where
  Tie:Int
  Back:Bool
deriving Inhabited
abbrev za4 (x:Use):List PV:=[.int .i64 x.Tie,.bool x.Back]
def zIb : List PV -> Use
  | [.int .i64 x_Tie,.bool x_Back]=>(⟨x_Tie,x_Back⟩:Use)
  | _=>default
def zdr (g:Nat->List PV):Nat->Use:=λ i=>zIb (g i)
theorem zds (f:Nat->Use):zdr (λ i=>za4 (f i))=f:=rfl
structure Flash where
  A:Int
  B:Int
  Time:Int
  Flight:Int
  Wrong:Int
deriving Inhabited
structure web where
  Net:Net
  out:Mp
deriving Inhabited
abbrev zaD (x:web):List PV:=[.int .i64 x.Net.Nodes,.sl x.Net.Ties.len 4 (λ i=>enc_40 (x.Net.Ties.get i)),.fm (false,1,false,[none]) x.out.n x.out.F]
structure far where
  length:Int
  uses:Int
deriving Inhabited
abbrev zcF (x:far):List PV:=[.int .i64 x.length,.int .i64 x.uses]
def zEr : List PV -> far
  | [.int .i64 x_length,.int .i64 x_uses]=>(⟨x_length,x_uses⟩:far)
  | _=>default
def zjZ (g:Nat->List PV):Nat->far:=λ i=>zEr (g i)
theorem zjx (f:Nat->far):zjZ (λ i=>zcF (f i))=f:=rfl
abbrev zac (x:Tab):List PV:=zhI 0 80 x
def zaK (l:List PV):Tab:=zmn (zm l)
structure Step where
  From:Int
  To:Int
  Length:Int
  Use:Use
deriving Inhabited
abbrev zcY (x:Step):List PV:=[.int .i64 x.From,.int .i64 x.To,.int .i64 x.Length,.int .i64 x.Use.Tie,.bool x.Use.Back]
structure step where
  Use:Use
  from_:Int
  to:Int
  length:Int
deriving Inhabited
abbrev zai (x:step):List PV:=[.int .i64 x.Use.Tie,.bool x.Use.Back,.int .i64 x.from_,.int .i64 x.to,.int .i64 x.length]
def zEs : List PV -> step
  | [.int .i64 x_Use_Tie,.bool x_Use_Back,.int .i64 x_from_,.int .i64 x_to,.int .i64 x_length]=>(⟨(⟨x_Use_Tie,x_Use_Back⟩:Use),x_from_,x_to,x_length⟩:step)
  | _=>default
def zh4 (g:Nat->List PV):Nat->step:=λ i=>zEs (g i)
theorem zeG (f:Nat->step):zh4 (λ i=>zai (f i))=f:=rfl
structure tie where
  Tie:Tie
  index:Int
deriving Inhabited
abbrev zw8 (x:tie):List PV:=[.int .i64 x.Tie.From,.int .i64 x.Tie.To,.int .i64 x.Tie.Low,.int .i64 x.Tie.High,.int .i64 x.index]
abbrev zw9 (x:Tab):List PV:=zhI 0 40 x
abbrev zaI (x:(Sl Tab)):List PV:=[.sl x.len 80 (λ i=>zac (x.get i))]
abbrev tL (T:Tab) (i:Int):Int:=tg 80 T (0+i.toNat * 2+0)
abbrev tU (T:Tab) (i:Int):Int:=tg 80 T (0+i.toNat * 2+0+1)
abbrev tV (T:Tab) (i:Int):Int:=tg 80 T (0+i.toNat * 2+1)
abbrev nvr (x y:Int):Bool:=match (x == (1000000000000:Int)) with | true=>(match (y == (0:Int)) with | true=>true | false=>false) | false=>false
end Go.Proofs
namespace Go.Pm
open Go Go.Deep

theorem zBE (b o i j:Nat):((⟨b,o,none⟩:Addr).add i).add j=⟨b,o+i+j,none⟩:=by
 simp only[Addr.add]
 by_cases h1:i=0
 ·subst h1
  by_cases h2:j=0
  ·subst h2;rfl
  ·rw[if_neg h2];rfl
 ·rw[if_neg h1]
  by_cases h2:j=0
  ·subst h2;rfl
  ·rw[if_neg h2]
def H0 (w:World):Fz:=λ b=>(w.heap[b]?).map .fz
theorem hw_H0 (w:World):Hw (H0 w) w:=by
 intro b x h
 unfold H0 at h
 cases e:w.heap[b]? with
 | none=>rw[e] at h;cases h
 | some o=>rw[e] at h;cases h;exact⟨o,rfl,rfl⟩
def wfI (x:Int):Prop:=-9223372036854775808≤x/\x≤9223372036854775807
section
variable {H:Type}{en:TypeId×Value->H}{P:Program}{w:World}{sp:Nat->Bool}{held:Bool}
def Rd (H:Type) (en:TypeId×Value->H) (P:Program) (w:World) (sp:Nat->Bool) (held:Bool) (t:TypeId){α:Type}(enc:α->List PV) (wf:α->Prop):Prop :=
 ∀ (fuel:Nat) (cs:List Value) (x:DataW H×List MemPlace),DataW.trod en P w 0 sp held fuel t cs=some x->∃ a:α,RL (Rep (H0 w)) (enc a) cs/\wf a
theorem zIc {t:TypeId}(ht:P.underlying t=some (.int .i64)):Rd H en P w sp held t (λ x=>[.int .i64 x]) wfI:=by
 intro fuel cs x h
 obtain⟨n,rfl,_,hw⟩:=DataW.trod_int ht h
 refine⟨n,⟨.int _ _,trivial⟩,?_⟩
 simp only[Lit.wf,Bool.and_eq_true,decide_eq_true_eq] at hw
 exact⟨hw.1,hw.2⟩
theorem zpu {t : TypeId}{fs : Array Field}(ht : P.underlying t = some (.struct fs)) {fuel : Nat}{cs : List Value}{x : DataW H × List MemPlace}(h : DataW.trod en P w 0 sp held fuel t cs = some x) :
  cs.length=P.cellsOf t/\∀ (i:Nat) (f:Field),fs[i]? = some f->∃ n y,DataW.trod en P w 0 sp held n f.type ((cs.drop f.offset).take (P.cellsOf f.type))=some y:=by
 obtain⟨xs,n,_,_,hl,hx,hf⟩:=DataW.trod_struct ht h
 refine⟨hl,λ i f hi=>?_⟩
 have hlt:i < xs.length:=by rw[hx];exact (Array.getElem?_eq_some_iff.1 hi).1
 exact⟨n,xs[i],by rw[hf i f hi,List.getElem?_eq_getElem hlt]⟩
theorem zBF {t e : TypeId}{α : Type} [Inhabited α] {enc : α -> List PV}{wf : α -> Prop}{s : Nat}(ht : P.underlying t = some (.slice e)) (hc : P.cellsOf e = s) (hs : 0 < s) (hlen : ∀ a, (enc a).length = s)
    (hel:Rd H en P w sp held e enc wf):Rd H en P w sp held t (λ x:Sl α=>[.sl x.len s (λ i=>enc (x.get i))]) (λ x=>x.len≤9223372036854775807/\∀ i,i < x.len->wf (x.get i)):=by
  intro fuel cs x h
  rcases open_slice ht h with ⟨rfl,_⟩ | ⟨a,len,cap,m,n,D,Pl,rfl,_,hl,hm,hmm,_,hget⟩
  · exact⟨⟨0,default⟩,⟨.sl0 _ _,trivial⟩,Nat.zero_le _,λ i hi=>absurd hi (Nat.not_lt_zero i)⟩
  · by_cases h0 : len = 0
    · subst h0
      exact⟨⟨0,default⟩,⟨.sle _ _ _ _,trivial⟩,Nat.zero_le _,λ i hi=>absurd hi (Nat.not_lt_zero i)⟩
    · have hlm : len ≤ m := by rw[hmm]; split <;> omega
      rw[hc] at hget
      have hex:∀ i,i < len->∃ y:α,(∃ cs',w.cells? 0 (a.add (i * s)) s=some cs'/\RL (Rep (H0 w)) (enc y) cs')/\wf y:=by
        intro i hi
        obtain⟨cs',h1,h2⟩:=hget i (by omega)
        obtain⟨y,h3,h4⟩:=hel _ _ _ h2
        exact⟨y,⟨cs',h1,h3⟩,h4⟩
      have hch:∃ f:Nat->α,∀ i,i < len->(∃ cs',w.cells? 0 (a.add (i * s)) s=some cs'/\RL (Rep (H0 w)) (enc (f i)) cs')/\wf (f i):=by
        refine⟨λ i=>if hi:i < len then Classical.choose (hex i hi) else default,λ i hi=>?_⟩
        simp only[dif_pos hi]
        exact Classical.choose_spec (hex i hi)
      obtain⟨f,hf⟩:=hch
      -- the block
      have hcell:∀ i,i < len->∀ j,j < s->∃ cs',w.cells? 0 (a.add (i * s)) s=some cs'/\RL (Rep (H0 w)) (enc (f i)) cs'/\w.cell? ((a.add (i * s)).add j)=cs'[j]?/\cs'.length=s:=by
        intro i hi j hj
        obtain⟨⟨cs',h1,h2⟩,_⟩:=hf i hi
        obtain⟨_,h3,h4⟩:=World.cells?_some h1
        exact⟨cs',h1,h2,h4 j hj,h3⟩
      obtain⟨cs0,_,_,hc0,hl0⟩:=hcell 0 (by omega) 0 hs
      have ha0:w.cell? a=cs0[0]?:=by simpa [Addr.add] using hc0
      rw[List.getElem?_eq_getElem (by omega)] at ha0
      obtain⟨C,ty,fr,hblk,hspot⟩:∃ C ty fr,w.heap[a.block]? = some (.cells C ty fr)/\a.spot=none:=by
        unfold World.cell? at ha0
        split at ha0
        · rename_i C ty fr hb
          refine⟨C,ty,fr,hb,?_⟩
          cases hsp:a.spot with
          | none=>rfl
          | some k=>rw[hsp] at ha0;simp at ha0
        · cases ha0
      have ea:a=⟨a.block,a.off,none⟩:=by rw[← hspot]
      have hat:∀ i j,i < len->j < s->∃ cs',RL (Rep (H0 w)) (enc (f i)) cs'/\C[a.off+i * s+j]? = cs'[j]?/\cs'.length=s:=by
        intro i j hi hj
        obtain⟨cs',_,h2,h3,h4⟩:=hcell i hi j hj
        refine⟨cs',h2,?_,h4⟩
        rw[← h3]
        have e2:(a.add (i * s)).add j=⟨a.block,a.off+i * s+j,none⟩:=(congrArg (λ z:Addr=>(z.add (i * s)).add j) ea).trans (zBE _ _ _ _)
        rw[e2]
        simp[World.cell?,hblk]
      refine⟨⟨len,f⟩,⟨?_,trivial⟩,by simp only[maxLen] at hm;show len≤_;omega,λ i hi=>(hf i hi).2⟩
      rw[ea]
      refine .sl len s _ a.block a.off cap C ty fr (λ i j=>C.getD (a.off+i * s+j) undef) (by simp[H0,hblk]) hl (λ i _=>hlen _) ?_ ?_
      · intro i j x hi hx
        have hj:j < s:=by have:=(List.getElem?_eq_some_iff.1 hx).1;rw[hlen] at this;exact this
        obtain⟨cs',h1,h2,h3⟩:=hat i j hi hj
        rw[Array.getD_eq_getD_getElem?,h2,List.getElem?_eq_getElem (by omega)]
        rfl
      · intro i j x hi hx
        have hj:j < s:=by have:=(List.getElem?_eq_some_iff.1 hx).1;rw[hlen] at this;exact this
        obtain⟨cs',h1,h2,h3⟩:=hat i j hi hj
        obtain⟨v,hv,hr⟩:=h1.get j x hx
        rw[Array.getD_eq_getD_getElem?,h2,hv]
        exact hr
theorem zd6 {α:Type}(l:List α) (o s:Nat):l.drop o=(l.drop o).take s ++ l.drop (o+s):=by
 rw[← List.drop_drop]
 exact (List.take_append_drop s (l.drop o)).symm
theorem okWide_agg {t:TypeId}{fs:Array Field}{r:Reach}{base:Nat}{v:Value}(ht:P.underlying t=some (.struct fs)) (h:Value.okWide P w r base t v):∃ cs,v=.agg cs:=by
 unfold Value.okWide at h
 rw[ht] at h
 obtain⟨cs,hv,_⟩:=h
 exact⟨cs,hv⟩
def zK1 : TypeDesc -> Bool
  | .struct _=>false
  | .array _ _=>false
  | _=>true
theorem okWide_one {t:TypeId}{d:TypeDesc}{r:Reach}{base:Nat}{v:Value}(ht:P.underlying t=some d) (hd:zK1 d=true) (h:Value.okWide P w r base t v):v.cells.toList=[v]:=by
 unfold Value.okWide at h
 rw[ht] at h
 cases v with
 | agg cs =>
  exfalso
  cases d <;> first | (cases hd;done) | (simp only[Cell.okWide,Cell.ok,ht] at h)
 | _=>rfl
theorem pa_one {h:Fz}{p:PV}{v:Value}(hv:v.cells.toList=[v]) (r:RL (Rep h) [p] v.cells.toList):paR h (.one p) v:=by
 rw[hv] at r
 exact r.1
theorem pa_agg {h:Fz}{l:List PV}{v:Value}(hv:∃ cs,v=.agg cs) (r:RL (Rep h) l v.cells.toList):paR h (.agg l) v:=by
 obtain⟨cs,rfl⟩:=hv
 exact⟨cs.toList,by simp,r⟩
theorem below_H0 {w':World}(b:Bel (H0 w) w.heap.size w w'):Go.RowKit.Below w.heap.size w w' :=
 ⟨b.os,b.tape,b.output,b.size,λ k hk=>b.block k hk λ F e=>by
  unfold H0 at e
  cases hb:w.heap[k]? <;> rw[hb] at e <;> cases e⟩
end
end Go.Pm
namespace Go.Proofs
open Go Go.Pm
set_option maxRecDepth 100000
set_option linter.unusedVariables false
attribute [local irreducible] Go.Pm.vcFun Go.Pm.vc Go.Pm.vcIter
theorem C_3:Tryd.prog.cellsOf 3=1:=by kernel_rfl
theorem zMW:Tryd.prog.cellsOf 22=1:=by kernel_rfl
theorem zMX:Tryd.prog.cellsOf 24=2:=by kernel_rfl
theorem zMr:Tryd.prog.cellsOf 40=4:=by kernel_rfl
abbrev wf_3 (x:Int):Prop:=wfI x
theorem rd_3 {H:Type}{en:TypeId×Value->H}{w:World}{sp:Nat->Bool}{held:Bool} : Rd H en Tryd.prog w sp held 3 zad wf_3:=zIc Tryd.underlying3
def zId (x:Tie):Prop:=wf_3 x.From/\wf_3 x.To/\wf_3 x.Low/\wf_3 x.High
theorem zK2 {H:Type}{en:TypeId×Value->H}{w:World}{sp:Nat->Bool}{held:Bool} : Rd H en Tryd.prog w sp held 40 enc_40 zId:=by
  intro fuel cs x h
  obtain⟨hl,hf⟩:=zpu Tryd.underlying40 h
  rw[zMr] at hl
  obtain⟨n0,y0,g0⟩:=hf 0 _ rfl
  have g0:DataW.trod en Tryd.prog w 0 sp held n0 3 ((cs.drop 0).take (Tryd.prog.cellsOf 3))=some y0:=g0
  rw[C_3] at g0
  obtain⟨a0,r0,w0⟩:=rd_3 _ _ _ g0
  obtain⟨n1,y1,g1⟩:=hf 1 _ rfl
  have g1:DataW.trod en Tryd.prog w 0 sp held n1 3 ((cs.drop 1).take (Tryd.prog.cellsOf 3))=some y1:=g1
  rw[C_3] at g1
  obtain⟨a1,r1,w1⟩:=rd_3 _ _ _ g1
  obtain⟨n2,y2,g2⟩:=hf 2 _ rfl
  have g2:DataW.trod en Tryd.prog w 0 sp held n2 3 ((cs.drop 2).take (Tryd.prog.cellsOf 3))=some y2:=g2
  rw[C_3] at g2
  obtain⟨a2,r2,w2⟩:=rd_3 _ _ _ g2
  obtain⟨n3,y3,g3⟩:=hf 3 _ rfl
  have g3:DataW.trod en Tryd.prog w 0 sp held n3 3 ((cs.drop 3).take (Tryd.prog.cellsOf 3))=some y3:=g3
  rw[C_3] at g3
  obtain⟨a3,r3,w3⟩:=rd_3 _ _ _ g3
  have z:cs.drop 4=[]:=List.drop_eq_nil_of_le (by omega)
  have R:=(r0.append (r1.append (r2.append (r3.append (show RL (Rep (H0 w)) [] (cs.drop 4) by rw[z];exact zpt)))))
  rw[← (show cs.drop 3=(cs.drop 3).take 1 ++ cs.drop 4 from zd6 cs 3 1)] at R
  rw[← (show cs.drop 2=(cs.drop 2).take 1 ++ cs.drop 3 from zd6 cs 2 1)] at R
  rw[← (show cs.drop 1=(cs.drop 1).take 1 ++ cs.drop 2 from zd6 cs 1 1)] at R
  rw[← (show cs.drop 0=(cs.drop 0).take 1 ++ cs.drop 1 from zd6 cs 0 1)] at R
  exact⟨⟨a0,a1,a2,a3⟩,R,⟨w0,w1,w2,w3⟩⟩
def zIe (x:(Sl Tie)):Prop:=x.len≤9223372036854775807/\∀ i,i < x.len->zId (x.get i)
theorem zK3 {H:Type}{en:TypeId×Value->H}{w:World}{sp:Nat->Bool}{held:Bool} : Rd H en Tryd.prog w sp held 22 zH8 zIe:=zBF Tryd.underlying22 zMr (by decide) (λ _=>rfl) zK2
def wf_24 (x:Net):Prop:=wf_3 x.Nodes/\zIe x.Ties
theorem rd_24 {H:Type}{en:TypeId×Value->H}{w:World}{sp:Nat->Bool}{held:Bool} : Rd H en Tryd.prog w sp held 24 enc_24 wf_24:=by
  intro fuel cs x h
  obtain⟨hl,hf⟩:=zpu Tryd.underlying24 h
  rw[zMX] at hl
  obtain⟨n0,y0,g0⟩:=hf 0 _ rfl
  have g0:DataW.trod en Tryd.prog w 0 sp held n0 3 ((cs.drop 0).take (Tryd.prog.cellsOf 3))=some y0:=g0
  rw[C_3] at g0
  obtain⟨a0,r0,w0⟩:=rd_3 _ _ _ g0
  obtain⟨n1,y1,g1⟩:=hf 1 _ rfl
  have g1:DataW.trod en Tryd.prog w 0 sp held n1 22 ((cs.drop 1).take (Tryd.prog.cellsOf 22))=some y1:=g1
  rw[zMW] at g1
  obtain⟨a1,r1,w1⟩:=zK3 _ _ _ g1
  have z:cs.drop 2=[]:=List.drop_eq_nil_of_le (by omega)
  have R:=(r0.append (r1.append (show RL (Rep (H0 w)) [] (cs.drop 2) by rw[z];exact zpt)))
  rw[← (show cs.drop 1=(cs.drop 1).take 1 ++ cs.drop 2 from zd6 cs 1 1)] at R
  rw[← (show cs.drop 0=(cs.drop 0).take 1 ++ cs.drop 1 from zd6 cs 0 1)] at R
  exact⟨⟨a0,a1⟩,R,⟨w0,w1⟩⟩
end Go.Proofs
namespace Go.Proofs
open Go Go.Pm
set_option maxRecDepth 100000
set_option linter.unusedVariables false
attribute [local irreducible] Go.Pm.vcFun Go.Pm.vc Go.Pm.vcIter
abbrev T81:Tabs:=Tabs.nil
theorem zK4:TabsOk Tryd.prog T81:=TabsOk.nil
abbrev G81:Ctrs:=csm T81 (λ _ _=>[]) (λ _=>false)
def zIf:Ann:=⟨15,[(0,zK [0,1,2] []),(1,zK [6] [])],
 [],
 [],
 [],[]⟩
abbrev R81:=Bool
abbrev e81 (r:R81):List PA:=[.one (.bool r)]
section
variable {K:List PA->Prop}{n:Int}{low:Int}{high:Int}
def s81 (n:Int) (low:Int) (high:Int):Bool :=
  (cond (decide (n ≥ low))
 (decide (n≤high))
 false)
end
theorem q81 (n:Int) (low:Int) (high:Int) (K:List PA->Prop) (hk:K (e81 (s81 n low high))):vcFun Tryd.prog G81 zIf 81 [.one (.int .i64 n),.one (.int .i64 low),.one (.int .i64 high)] K :=
  zbk (by kernel_rfl) (zt hk (λ hk=>hk) (λ hk=>hk))
def zxa : List PA -> COut
  | [.one (.int .i64 a0),.one (.int .i64 a1),.one (.int .i64 a2)]=>.tot [.one (.bool (s81 a0 a1 a2))]
  | _=>.no
theorem zIg:zaA Tryd.prog 81:=⟨_,rfl,rfl,by kernel_rfl⟩
theorem zK5:Ok Tryd.prog 81 zxa:=zbH zK4 zIg λ args K h=>by
  unfold zxa at h
  split at h
  · rename_i a0 a1 a2
    have hk:=h
    exact⟨(λ _ _=>[]),(λ _=>false),zIf,q81 a0 a1 a2 K hk⟩
  · exact h.elim
abbrev T78:Tabs:=(Tabs.nil.addF 81 zxa)
theorem zK6:TabsOk Tryd.prog T78:=(TabsOk.nil.addF zK5)
abbrev G78:Ctrs:=csm T78 (λ _ _=>[]) (λ _=>false)
def zEt:Ann:=⟨55,[(0,zK [1,2] [2]),(1,zK [1,2,5] [2]),(2,zK [1,2,5,6] [2]),(3,zK [4] [])],
 [],
 [(2,zK [1,2,5] [2]),(3,zK [1,2,5,6] [2])],
 [],[]⟩
abbrev R78:=Bool
abbrev e78 (r:R78):List PA:=[.one (.bool r)]
@[irreducible] def z78:=ptF Tryd.prog G78 zEt Tryd.f78
section
variable {K:List PA->Prop}{t:Tie}{nodes:Int}{znS:Bool}{ztH:Bool}
def zk7 (t:Tie) (nodes:Int) (znS:Bool) (ztH:Bool):Bool :=
  (cond (s81 t.From (0:Int) (w64 (nodes - (1:Int))))
 (cond (s81 t.To (0:Int) (w64 (nodes - (1:Int))))
 (cond (t.From != t.To)
 (cond znS
 (cond ztH
 (decide (t.Low≤t.High))
 false)
 false)
 false)
 false)
 false)
theorem zxb (hk:K (e78 (zk7 t nodes znS ztH))):z78 K [1,1,1] [] ⟨[(1,zI nodes),(2,zp 2 0),(5,zB znS),(6,zB ztH)],[(2,.box 40 (zm (enc_40 t)))],[]⟩:=zbk (by kernel_rfl) (zt hk (λ hk=>(zt hk (λ hk=>(zt hk (λ hk=>(zt hk (λ hk=>(zt hk (λ hk=>hk) (λ hk=>hk))) (λ hk=>hk))) (λ hk=>hk))) (λ hk=>hk))) (λ hk=>hk))
def zk8 (t:Tie) (nodes:Int) (znS:Bool):Bool :=
  (cond (t.High == (1000000000000:Int))
 (zk7 t nodes znS true)
 (zk7 t nodes znS (s81 t.High (-1000000000:Int) (1000000000:Int))))
theorem zxc (hk:K (e78 (zk8 t nodes znS))):z78 K [1,1] [] ⟨[(1,zI nodes),(2,zp 2 0),(5,zB znS)],[(2,.box 40 (zm (enc_40 t)))],[]⟩:=zbk (by kernel_rfl) (zt hk (λ hk=>(zxb hk)) (λ hk=>(zxb hk)))
def s78 (t:Tie) (nodes:Int):Bool :=
  (cond (t.Low == (-1000000000000:Int))
 (zk8 t nodes true)
 (zk8 t nodes (s81 t.Low (-1000000000:Int) (1000000000:Int))))
end
theorem q78 (t:Tie) (nodes:Int) (K:List PA->Prop) (hk:K (e78 (s78 t nodes))):vcFun Tryd.prog G78 zEt 78 [.agg (enc_40 t),.one (.int .i64 nodes)] K :=
  zbk (by kernel_rfl) (zt hk (λ hk=>(zxc hk)) (λ hk=>(zxc hk)))
def zEu : List PA -> COut
  | [.agg [.int .i64 zq5,.int .i64 zEv,.int .i64 zxd,.int .i64 zq6],.one (.int .i64 a1)]=>.tot [.one (.bool (s78 (⟨zq5,zEv,zxd,zq6⟩:Tie) a1))]
  | _=>.no
theorem zIh:zaA Tryd.prog 78:=⟨_,rfl,rfl,by kernel_rfl⟩
theorem zMY:Ok Tryd.prog 78 zEu:=zbH zK6 zIh λ args K h=>by
  unfold zEu at h
  split at h
  · rename_i zq5 zEv zxd zq6 a1
    have hk:=h
    exact⟨(λ _ _=>[]),(λ _=>false),zEt,q78 (⟨zq5,zEv,zxd,zq6⟩:Tie) a1 K hk⟩
  · exact h.elim
abbrev T67:Tabs:=((Tabs.nil.addF 78 zEu).addF 81 zxa)
theorem zK7:TabsOk Tryd.prog T67:=((TabsOk.nil.addF zMY).addF zK5)
abbrev G67:Ctrs:=csm T67 (λ _ _=>[]) (λ _=>false)
def zBG:Ann:=⟨27,[(0,zK [1] [1]),(1,zK [1,6,7,8] [1]),(2,zK [1,6,7,8,9] [1]),(3,zK [1,4,6,7,8] [1,4]),(4,zK [1,6,7,8,16] [1]),(5,zK [2] []),(6,zK [1,6,7,8] [1]),(7,zK [2] [])],
 [(2,zK [1,6,7,8] [1])],
 [(5,zK [1,6,7,8,16] [1])],
 [],[]⟩
abbrev R67:=Bool
abbrev e67 (r:R67):List PA:=[.one (.bool r)]
@[irreducible] def z67:=ptF Tryd.prog G67 zBG Tryd.f67
def zCW (n:Net) (zdO:Int):St:=⟨[(1,zp 1 0),(6,zS enc_40 4 n.Ties),(7,zI (n.Ties.len:Int)),(8,zI zdO)],[(1,.box 24 (zm (enc_24 n)))],[]⟩
abbrev zEw (K:List PA->Prop) (n:Net) (X:St->Prop) (P:Int->Bool) (S:Int->Bool):Prop:=∀ ⦃zdO:Int⦄,P zdO=true->K (e67 (S zdO))->X (zCW n zdO)
section
variable {K:List PA->Prop}{n:Net}{zdO:Int}{X0:St->Prop}{P0:Int->Bool}{S0:Int->Bool}{zEx:Int}{zq7:Bool}
def zq8 (S0:Int->Bool) (n:Net) (zEx:Int) (zq7:Bool):Bool :=
  (cond zq7
 false
 (S0 (w64 (zEx+(1:Int)))))
def zq9 (P0:Int->Bool) (n:Net) (zEx:Int) (zq7:Bool):Bool :=
  (cond zq7
 true
 (P0 (w64 (zEx+(1:Int)))))
theorem zEy (hX0:zEw K n X0 P0 S0) (hs:zq9 P0 n zEx zq7=true) (hk:K (e67 (zq8 S0 n zEx zq7))):z67 K [1,0,1,0,0,1,1,0,0,1,1] [X0] ⟨[(1,zp 1 0),(6,zS enc_40 4 n.Ties),(7,zI (n.Ties.len:Int)),(8,zI zEx),(16,zB zq7)],[(1,.box 24 (zm (enc_24 n)))],[]⟩:=zbk (by kernel_rfl) (zc hs hk (λ hs hk=>hk) (λ hs hk=>(hX0 hs hk)))
def ziI (n:Net) (S0:Int->Bool) (zdO:Int):Bool :=
  (cond (decide (zdO < (n.Ties.len : Int)))
 (zq8 S0 n zdO (!(s78 (n.Ties.get zdO.toNat) n.Nodes)))
 (cond (s81 n.Nodes (1:Int) (40:Int))
 (decide ((n.Ties.len:Int)≤(200:Int)))
 false))
def ziJ (n:Net) (P0:Int->Bool) (zdO:Int):Bool :=
  (cond (decide (zdO < (n.Ties.len : Int)))
 (decide ((0≤zdO/\zdO < (n.Ties.len:Int))) &&
 (zq9 P0 n zdO (!(s78 (n.Ties.get zdO.toNat) n.Nodes))))
 true)
def ziK (n:Net):Nat->Int->Bool:=lpO (λ _=>default) (ziI n)
def ziL (n:Net):Nat->Int->Bool:=lpO (λ _=>false) (ziJ n)
def zxe (n:Net) (zdO:Int):Bool:=ziK n Fuel zdO
def zxf (n:Net) (zdO:Int):Bool:=ziL n Fuel zdO
theorem zEz (hs:zxf n zdO=true) (hk:K (e67 (zxe n zdO))):z67 K [1,0,1,0] [] (zCW n zdO) :=
  zl (λ X=>z67 K [1,0,1,0,0] [X]) (by kernel_rfl) λ X0 hX =>
  (show ∀ k, zEw K n X0 (ziL n k) (ziK n k) from ziH _ _ (ziJ n) (ziI n) (zEw K n X0)
 (by intro _ hs;exact absurd hs Bool.false_ne_true)
 (by intro P0 S0 hX0 zdO hs hk;exact hX _ (zbk (by kernel_rfl) (zc hs hk (λ hs hk=>(zaX hs λ hc hs=>And.intro hc (zEy hX0 hs hk))) (λ hs hk=>(zt hk (λ hk=>hk) (λ hk=>hk))))))) _ hs hk
def s67 (n:Net):Bool :=
  (zxe n (0:Int))
def p67 (n:Net):Bool :=
  (zxf n (0:Int))
end
theorem q67 (n:Net) (K:List PA->Prop) (hs:p67 n=true) (hk:K (e67 (s67 n))):vcFun Tryd.prog G67 zBG 67 [.agg (enc_24 n)] K :=
  zbk (by kernel_rfl) (zEz hs hk)
def zxg : List PA -> COut
  | [.agg [.int .i64 zaj,.sl zaf zaB zae]]=>.det (IsE enc_40 4 zaB zae/\p67 (⟨zaj,(⟨zaf,zar zae⟩:(Sl Tie))⟩:Net)=true) [.one (.bool (s67 (⟨zaj,(⟨zaf,zar zae⟩:(Sl Tie))⟩:Net)))]
  | [.agg [.int .i64 zaj,.nils]]=>.det (p67 (⟨zaj,(⟨0,λ _=>default⟩:(Sl Tie))⟩:Net)=true) [.one (.bool (s67 (⟨zaj,(⟨0,λ _=>default⟩:(Sl Tie))⟩:Net)))]
  | _=>.no
theorem zIi:zaA Tryd.prog 67:=⟨_,rfl,rfl,by kernel_rfl⟩
theorem zK8:Ok Tryd.prog 67 zxg:=ziG zK7 zIi λ args K h=>by
  unfold zxg at h
  split at h
  · rename_i zaj zaf zaB zae
    obtain⟨⟨⟨rfl,zat,rfl⟩,hs⟩,hk⟩:=h
    try rw[zao zat] at hs
    try rw[zao zat] at hk
    exact⟨_,zf5 zg4 _,(λ _ _=>[]),(λ _=>false),zBG,q67 (⟨zaj,(⟨zaf,zat⟩:(Sl Tie))⟩:Net) (Wk K) hs (zg5 hk)⟩
  · rename_i zaj
    obtain⟨hs,hk⟩:=h
    exact⟨_,(zis (.agg (zis (.rfl _) (zis (.nil _ _) zpt))) zpt),(λ _ _=>[]),(λ _=>false),zBG,q67 (⟨zaj,(⟨0,λ _=>default⟩:(Sl Tie))⟩:Net) (Wk K) hs (zg5 hk)⟩
  · exact h.elim
abbrev T93:Tabs:=Tabs.nil
theorem zK9:TabsOk Tryd.prog T93:=TabsOk.nil
abbrev G93:Ctrs:=csm T93 (λ _ _=>[]) (λ _=>false)
def zEA:Ann:=⟨4,[(0,zK [1] [1]),(1,zK [2] [])],
 [],
 [],
 [],[]⟩
theorem zEB (w : web) (K : List PA -> Prop) :
  vcFun Tryd.prog G93 zEA 93 [.one (.fp (zaD w) 0)] K =
  (K [.one (.fn 110 [] [.fp [.fp (zaD w) 0] 0])]):=by kernel_rfl
theorem q93 (w:web) (K:List PA->Prop) (hk:K [.one (.fn 110 [] [.fp [.fp (zaD w) 0] 0])]):vcFun Tryd.prog G93 zEA 93 [.one (.fp (zaD w) 0)] K:=zbk (zEB w K) hk
def zpv : List PA -> COut
  | [.one (.fp [.int .i64 zan,.sl zal zaE zam,.fm zbq zaL zaM] 0)]=>.det (IsE enc_40 4 zaE zam/\zbq=(false,1,false,[none])) [.one (.fn 110 [] [.fp [.fp (zaD (⟨(⟨(⟨zan,(⟨zal,zar zam⟩:(Sl Tie))⟩:Net),(⟨zaL,zaM⟩:Mp)⟩:web).Net,((⟨(⟨zan,(⟨zal,zar zam⟩:(Sl Tie))⟩:Net),(⟨zaL,zaM⟩:Mp)⟩:web).out)⟩:web)) 0] 0])]
  | _=>.no
theorem zIj:zaA Tryd.prog 93:=⟨_,rfl,rfl,by kernel_rfl⟩
theorem zHq:Ok Tryd.prog 93 zpv:=zbH zK9 zIj λ args K h=>by
  unfold zpv at h
  split at h
  · rename_i zan zal zaE zam zbq zaL zaM
    obtain⟨⟨⟨rfl,zay,rfl⟩,rfl⟩,hk⟩:=h
    try rw[zao zay] at hk
    exact⟨λ _ _=>[],λ _=>false,zEA,q93 (⟨(⟨zan,(⟨zal,zay⟩:(Sl Tie))⟩:Net),(⟨zaL,zaM⟩:Mp)⟩:web) K hk⟩
  · exact h.elim
abbrev T94:Tabs:=Tabs.nil
theorem zLa:TabsOk Tryd.prog T94:=TabsOk.nil
abbrev G94:Ctrs:=csm T94 (λ _ _=>[]) (λ _=>false)
def zIk:Ann:=⟨21,[(0,zK [1,2] [1,2]),(1,zK [2,3] [2])],
 [],
 [],
 [],[]⟩
abbrev R94:=(step×Bool)
abbrev e94 (r:R94):List PA:=[.agg [.int .i64 r.1.Use.Tie,.bool r.1.Use.Back,.int .i64 r.1.from_,.int .i64 r.1.to,.int .i64 r.1.length],.one (.bool r.2)]
section
variable {K:List PA->Prop}{t:tie}
def s94 (t:tie):(step×Bool) :=
  ((⟨(⟨t.index,false⟩:Use),t.Tie.From,t.Tie.To,t.Tie.High⟩:step),(t.Tie.High != (1000000000000:Int)))
end
theorem q94 (t:tie) (K:List PA->Prop) (hk:K (e94 (s94 t))):vcFun Tryd.prog G94 zIk 94 [.agg (zw8 t)] K :=
  zbk (by kernel_rfl) hk
def zEC : List PA -> COut
  | [.agg [.int .i64 zbs,.int .i64 zb6,.int .i64 zbK,.int .i64 zbt,.int .i64 zcm]]=>.tot [.agg [.int .i64 (((s94 (⟨(⟨zbs,zb6,zbK,zbt⟩:Tie),zcm⟩:tie)).1).Use.Tie),.bool (((s94 (⟨(⟨zbs,zb6,zbK,zbt⟩:Tie),zcm⟩:tie)).1).Use.Back),.int .i64 (((s94 (⟨(⟨zbs,zb6,zbK,zbt⟩:Tie),zcm⟩:tie)).1).from_),.int .i64 (((s94 (⟨(⟨zbs,zb6,zbK,zbt⟩:Tie),zcm⟩:tie)).1).to),.int .i64 (((s94 (⟨(⟨zbs,zb6,zbK,zbt⟩:Tie),zcm⟩:tie)).1).length)],.one (.bool ((s94 (⟨(⟨zbs,zb6,zbK,zbt⟩:Tie),zcm⟩:tie)).2))]
  | _=>.no
theorem zIl:zaA Tryd.prog 94:=⟨_,rfl,rfl,by kernel_rfl⟩
theorem zMZ:Ok Tryd.prog 94 zEC:=zbH zLa zIl λ args K h=>by
  unfold zEC at h
  split at h
  · rename_i zbs zb6 zbK zbt zcm
    have hk:=h
    exact⟨(λ _ _=>[]),(λ _=>false),zIk,q94 (⟨(⟨zbs,zb6,zbK,zbt⟩:Tie),zcm⟩:tie) K hk⟩
  · exact h.elim
abbrev T95:Tabs:=Tabs.nil
theorem zLb:TabsOk Tryd.prog T95:=TabsOk.nil
abbrev G95:Ctrs:=csm T95 (λ _ _=>[]) (λ _=>false)
def zIm:Ann:=⟨22,[(0,zK [1,2] [1,2]),(1,zK [2,3] [2])],
 [],
 [],
 [],[]⟩
abbrev R95:=(step×Bool)
abbrev e95 (r:R95):List PA:=[.agg [.int .i64 r.1.Use.Tie,.bool r.1.Use.Back,.int .i64 r.1.from_,.int .i64 r.1.to,.int .i64 r.1.length],.one (.bool r.2)]
section
variable {K:List PA->Prop}{t:tie}
def s95 (t:tie):(step×Bool) :=
  ((⟨(⟨t.index,true⟩:Use),t.Tie.To,t.Tie.From,(w64 (0 - t.Tie.Low))⟩:step),(t.Tie.Low != (-1000000000000:Int)))
end
theorem q95 (t:tie) (K:List PA->Prop) (hk:K (e95 (s95 t))):vcFun Tryd.prog G95 zIm 95 [.agg (zw8 t)] K :=
  zbk (by kernel_rfl) hk
def zED : List PA -> COut
  | [.agg [.int .i64 zbs,.int .i64 zb6,.int .i64 zbK,.int .i64 zbt,.int .i64 zcm]]=>.tot [.agg [.int .i64 (((s95 (⟨(⟨zbs,zb6,zbK,zbt⟩:Tie),zcm⟩:tie)).1).Use.Tie),.bool (((s95 (⟨(⟨zbs,zb6,zbK,zbt⟩:Tie),zcm⟩:tie)).1).Use.Back),.int .i64 (((s95 (⟨(⟨zbs,zb6,zbK,zbt⟩:Tie),zcm⟩:tie)).1).from_),.int .i64 (((s95 (⟨(⟨zbs,zb6,zbK,zbt⟩:Tie),zcm⟩:tie)).1).to),.int .i64 (((s95 (⟨(⟨zbs,zb6,zbK,zbt⟩:Tie),zcm⟩:tie)).1).length)],.one (.bool ((s95 (⟨(⟨zbs,zb6,zbK,zbt⟩:Tie),zcm⟩:tie)).2))]
  | _=>.no
theorem zIn:zaA Tryd.prog 95:=⟨_,rfl,rfl,by kernel_rfl⟩
theorem zM0:Ok Tryd.prog 95 zED:=zbH zLb zIn λ args K h=>by
  unfold zED at h
  split at h
  · rename_i zbs zb6 zbK zbt zcm
    have hk:=h
    exact⟨(λ _ _=>[]),(λ _=>false),zIm,q95 (⟨(⟨zbs,zb6,zbK,zbt⟩:Tie),zcm⟩:tie) K hk⟩
  · exact h.elim
abbrev zMs:Tabs:=((Tabs.nil.addF 94 zEC).addF 95 zED)
theorem zIo:TabsOk Tryd.prog zMs:=((TabsOk.nil.addF zMZ).addF zM0)
abbrev zIp:Ctrs:=csm zMs (λ _ _=>[]) (λ _=>false)
def zjy:Ann:=⟨52,[(0,zK [0,1,14,15,16] []),(1,zK [0,1,14,15,16,17] []),(2,zK [0,1,3,4,14,15,16] [4]),(3,zK [0,1,3,4,14,15,16,26] [4]),(4,zK [0,1,5,14,15,16] [5]),(5,zK [0,1,14,15,16,34,35] []),(6,zK [0,1,14,15,16,34,35,36] []),(7,zK [0,1,7,14,15,16,34,35] []),(8,zK [0,1,8,9,14,15,16,34,35] [8]),(9,zK [0,1,14,15,16,34,35,49] []),(10,zK [0,1,14,15,16,34,35] []),(11,zK [0,1,14,15,16] [])],
 [(1,zK [0,1,14,15,16] [])],
 [],
 [(6,3,zK [0,1,14,15,16,34,35] [])],[9]⟩
def zee (l:Nat) (a:web) (zaS:Int):St:=⟨[(0,.one (.c (.p (.yl l)))),(1,.one (.c (.p (.fp [.fp (zaD a) 0] 0)))),(14,.one (.c (.p (.sl a.Net.Ties.len 4 (λ i=>enc_40 (a.Net.Ties.get i)))))),(15,.one (.c (.p (.int .i64 (a.Net.Ties.len:Int))))),(16,.one (.c (.p (.int .i64 zaS))))],[],[]⟩
def zh5 (l:Nat) (ys:List (List PA)) (a:web) (zaS:Int):Prop:=vcY Tryd.prog zIp zjy l (cdF Tryd.f110 [1,0]) (zoI 0 zAR) ys false (zee l a zaS)
theorem zBH (l : Nat) (a : web) (ys : List (List PA)) :
  vcIter Tryd.prog zIp zjy 110 l [.one (.fp [.fp (zaD a) 0] 0)] ys =
  (zh5 l ys a (0:Int)):=by kernel_rfl
def zmT (l:Nat) (X0:List (List PA)->Bool->St->Prop) (ys:List (List PA)) (a:web) (zaS:Int):Prop :=
  (zbR (decide (zaS < (a.Net.Ties.len : Int)))
 (((0≤zaS/\zaS < (a.Net.Ties.len:Int))) /\
 (zbR ((zuF (a.out.F [zaS]) 0) != 0)
 (X0 ys false (zee l a (w64 (zaS+(1:Int)))))
 (zbR ((s94 (⟨(a.Net.Ties.get zaS.toNat), zaS⟩ : tie)).2)
 (l=l/\∃ r1,ys=[.agg [.int .i64 (((s94 (⟨(a.Net.Ties.get zaS.toNat),zaS⟩:tie)).1).Use.Tie),.bool (((s94 (⟨(a.Net.Ties.get zaS.toNat),zaS⟩:tie)).1).Use.Back),.int .i64 (((s94 (⟨(a.Net.Ties.get zaS.toNat),zaS⟩:tie)).1).from_),.int .i64 (((s94 (⟨(a.Net.Ties.get zaS.toNat),zaS⟩:tie)).1).to),.int .i64 (((s94 (⟨(a.Net.Ties.get zaS.toNat),zaS⟩:tie)).1).length)]] :: r1 /\
 (zbR ((s95 (⟨(a.Net.Ties.get zaS.toNat), zaS⟩ : tie)).2)
 (l=l/\∃ r2,r1=[.agg [.int .i64 (((s95 (⟨(a.Net.Ties.get zaS.toNat),zaS⟩:tie)).1).Use.Tie),.bool (((s95 (⟨(a.Net.Ties.get zaS.toNat),zaS⟩:tie)).1).Use.Back),.int .i64 (((s95 (⟨(a.Net.Ties.get zaS.toNat),zaS⟩:tie)).1).from_),.int .i64 (((s95 (⟨(a.Net.Ties.get zaS.toNat),zaS⟩:tie)).1).to),.int .i64 (((s95 (⟨(a.Net.Ties.get zaS.toNat),zaS⟩:tie)).1).length)]] :: r2 /\
 (X0 r2 false (zee l a (w64 (zaS+(1:Int)))))/\True)
 (X0 r1 false (zee l a (w64 (zaS+(1:Int))))))/\True)
 (zbR ((s95 (⟨(a.Net.Ties.get zaS.toNat), zaS⟩ : tie)).2)
 (l=l/\∃ r3,ys=[.agg [.int .i64 (((s95 (⟨(a.Net.Ties.get zaS.toNat),zaS⟩:tie)).1).Use.Tie),.bool (((s95 (⟨(a.Net.Ties.get zaS.toNat),zaS⟩:tie)).1).Use.Back),.int .i64 (((s95 (⟨(a.Net.Ties.get zaS.toNat),zaS⟩:tie)).1).from_),.int .i64 (((s95 (⟨(a.Net.Ties.get zaS.toNat),zaS⟩:tie)).1).to),.int .i64 (((s95 (⟨(a.Net.Ties.get zaS.toNat),zaS⟩:tie)).1).length)]] :: r3 /\
 (X0 r3 false (zee l a (w64 (zaS+(1:Int)))))/\True)
 (X0 ys false (zee l a (w64 (zaS+(1:Int)))))))))
 (ys=[]))
theorem zpw (l : Nat) (X0 : List (List PA) -> Bool -> St -> Prop) (ys : List (List PA)) (a : web) (zaS : Int) :
  vcY Tryd.prog zIp zjy l (cd (cdF Tryd.f110 [1,0]) [0]) (zAP Tryd.prog zjy 1 X0 (zoI 0 zAR)) ys false (zee l a zaS) =
  zmT l X0 ys a zaS:=by kernel_rfl
theorem zvb (l : Nat) (ys : List (List PA)) (a : web) (zaS : Int)
  (h:∀ X0:List (List PA)->Bool->St->Prop,(∀ (ys:List (List PA)) (zaS:Int),zmT l X0 ys a zaS->X0 ys false (zee l a zaS))->X0 ys false (zee l a zaS)) :
  zh5 l ys a zaS:=by
  have e:zh5 l ys a zaS=(∀ X:List (List PA)->Bool->St->Prop,(∀ ys q s,vcY Tryd.prog zIp zjy l (cd (cdF Tryd.f110 [1,0]) [0]) (zAP Tryd.prog zjy 1 X (zoI 0 zAR)) ys q s->X ys q s)->X ys false (zee l a zaS)):=by kernel_rfl
  refine zbk e ?_
  intro X hX
  refine h X ?_
  intro ys zaS hs
  refine hX _ _ _ ?_
  have e2:=zpw l X ys a zaS
  rw[e2]
  exact hs
attribute [irreducible] zh5
def zfp (a:web) (S0:Int->List step) (zaS:Int):List step :=
  (cond (decide (zaS < (a.Net.Ties.len : Int)))
 (cond ((zuF (a.out.F [zaS]) 0) != 0)
 (S0 (w64 (zaS+(1:Int))))
 (cond ((s94 (⟨(a.Net.Ties.get zaS.toNat), zaS⟩ : tie)).2)
 (((s94 (⟨(a.Net.Ties.get zaS.toNat), zaS⟩ : tie)).1) :: (cond ((s95 (⟨(a.Net.Ties.get zaS.toNat), zaS⟩ : tie)).2)
 (((s95 (⟨(a.Net.Ties.get zaS.toNat),zaS⟩:tie)).1) :: (S0 (w64 (zaS+(1:Int)))))
 (S0 (w64 (zaS+(1:Int))))))
 (cond ((s95 (⟨(a.Net.Ties.get zaS.toNat), zaS⟩ : tie)).2)
 (((s95 (⟨(a.Net.Ties.get zaS.toNat),zaS⟩:tie)).1) :: (S0 (w64 (zaS+(1:Int)))))
 (S0 (w64 (zaS+(1:Int)))))))
 [])
def zfq (a:web) (P0:Int->Bool) (zaS:Int):Bool :=
  (cond (decide (zaS < (a.Net.Ties.len : Int)))
 (decide ((0≤zaS/\zaS < (a.Net.Ties.len:Int))) &&
 (cond ((zuF (a.out.F [zaS]) 0) != 0)
 (P0 (w64 (zaS+(1:Int))))
 (cond ((s94 (⟨(a.Net.Ties.get zaS.toNat), zaS⟩ : tie)).2)
 (cond ((s95 (⟨(a.Net.Ties.get zaS.toNat), zaS⟩ : tie)).2)
 (P0 (w64 (zaS+(1:Int))))
 (P0 (w64 (zaS+(1:Int)))))
 (cond ((s95 (⟨(a.Net.Ties.get zaS.toNat), zaS⟩ : tie)).2)
 (P0 (w64 (zaS+(1:Int))))
 (P0 (w64 (zaS+(1:Int))))))))
 true)
def zeH (a : web) : Nat -> Int -> List step
  | 0=>λ _=>[]
  | k+1=>zfp a (zeH a k)
def zeI (a : web) : Nat -> Int -> Bool
  | 0=>λ _=>false
  | k+1=>zfq a (zeI a k)
def ztI (a:web) (zaS:Int):List step:=zeH a Fuel zaS
def ztJ (a:web) (zaS:Int):Bool:=zeI a Fuel zaS
theorem zBI (l:Nat) (a:web) (ys:List (List PA)) (zaS:Int) (hs:ztJ a zaS=true) (hk:ys=(ztI a zaS).map (λ y=>[.agg (zai y)])):zh5 l ys a zaS:=by
  refine zvb l ys a zaS ?_
  intro X0 hstep
  have key:∀ (k:Nat) (ys:List (List PA)) (zaS:Int),zeI a k zaS=true->ys=(zeH a k zaS).map (λ y=>[.agg (zai y)])->X0 ys false (zee l a zaS):=by
    intro k
    induction k with
    | zero=>intro ys zaS hs;exact absurd hs Bool.false_ne_true
    | succ k ih =>
      intro ys zaS hs hk
      refine hstep ys zaS ?_
      have hs:zfq a (zeI a k) zaS=true:=hs
      have hk:ys=(zfp a (zeH a k) zaS).map (λ y=>[.agg (zai y)]):=hk
      unfold zfq at hs
      unfold zfp at hk
      generalize zeH a k=S0 at hk ih
      generalize zeI a k=P0 at hs ih
      have hX0:=ih
      exact (zh2 hs hk
 (λ hs hk => (zaX hs λ hc hs => ⟨hc, (zh2 hs hk
 (λ hs hk=>(hX0 _ (w64 (zaS+(1:Int))) hs hk))
 (λ hs hk => (zh2 hs hk
 (λ hs hk => (itY hk rfl (λ _ hk => (zh2 hs hk
 (λ hs hk=>(itY hk rfl (λ _ hk=>(hX0 _ (w64 (zaS+(1:Int))) hs hk))))
 (λ hs hk=>(hX0 _ (w64 (zaS+(1:Int))) hs hk))))))
 (λ hs hk => (zh2 hs hk
 (λ hs hk=>(itY hk rfl (λ _ hk=>(hX0 _ (w64 (zaS+(1:Int))) hs hk))))
 (λ hs hk=>(hX0 _ (w64 (zaS+(1:Int))) hs hk)))))))⟩))
 (λ hs hk=>hk))
  exact key _ _ zaS hs hk
def zit (a:web):List step :=
  (ztI a (0:Int))
def zme (a:web):Bool :=
  (ztJ a (0:Int))
theorem zM1 (l:Nat) (a:web) (ys:List (List PA)) (hs:zme a=true) (hk:ys=(zit a).map (λ y=>[.agg (zai y)])):vcIter Tryd.prog zIp zjy 110 l [.one (.fp [.fp (zaD a) 0] 0)] ys:=by
  refine zbk (zBH l a ys) ?_
  unfold zme at hs
  unfold zit at hk
  exact (zBI l a _ (0:Int) hs hk)
def zpx : List PA -> Option (Prop × List (List PA))
  | [.one (.fp [.fp [.int .i64 a_Net_Nodes,.sl a_Net_Ties_n a_Net_Ties_s a_Net_Ties_g,.fm a_out_q a_out_n a_out_F] 0] 0)]=>some (IsE enc_40 4 a_Net_Ties_s a_Net_Ties_g/\a_out_q=(false,1,false,[none])/\zme (⟨(⟨a_Net_Nodes,(⟨a_Net_Ties_n,zar a_Net_Ties_g⟩:(Sl Tie))⟩:Net),(⟨a_out_n,a_out_F⟩:Mp)⟩:web)=true,(zit (⟨(⟨a_Net_Nodes,(⟨a_Net_Ties_n,zar a_Net_Ties_g⟩:(Sl Tie))⟩:Net),(⟨a_out_n,a_out_F⟩:Mp)⟩:web)).map λ y=>[.agg (zai y)])
  | _=>none
theorem zEE:zaA Tryd.prog 110:=⟨_,rfl,rfl,by kernel_rfl⟩
theorem zvc:zCF Tryd.prog 110 zpx:=zH4 zIo zEE λ l caps safe ys h hs=>by
  unfold zpx at h
  split at h
  · rename_i a_Net_Nodes a_Net_Ties_n a_Net_Ties_s a_Net_Ties_g a_out_q a_out_n a_out_F
    cases h
    obtain⟨⟨rfl,a_Net_Ties_f,rfl⟩,rfl,hs⟩:=hs
    try rw[zao a_Net_Ties_f] at hs
    try rw[zao a_Net_Ties_f]
    exact⟨λ _ _=>[],λ _=>false,zjy,zM1 l (⟨(⟨a_Net_Nodes,(⟨a_Net_Ties_n,a_Net_Ties_f⟩:(Sl Tie))⟩:Net),(⟨a_out_n,a_out_F⟩:Mp)⟩:web) _ hs rfl⟩
  · cases h
abbrev T88:Tabs:=((Tabs.nil.addF 93 zpv).addI 110 zpx)
theorem zLc:TabsOk Tryd.prog T88:=((TabsOk.nil.addF zHq).addI zvc)
abbrev G88:Ctrs:=csm T88 (λ _ _=>[]) (λ _=>false)
def zc2:Ann:=⟨37,[(0,zK [0] []),(1,zK [0,3] [3]),(2,zK [0,3,11,12] [3]),(3,zK [0,3,11,12,13] [3]),(4,zK [0,3,4,11,12] [3,4]),(5,zK [0,3,4,11,12,15] [3,4]),(6,zK [0,3,4,5,11,12,15] [3,4,5]),(7,zK [0,3,4,5,6,11,12,15] [3,4,5]),(8,zK [0,3,4,5,6,11,12,15,29] [3,4,5]),(9,zK [0,3,4,11,12,15] [3,4]),(10,zK [0,3,4,11,12,15] [3,4]),(11,zK [0,3,11,12,35] [3]),(12,zK [2] []),(13,zK [0,3,11,12] [3]),(14,zK [2] [])],
 [(3,zK [0,3,11,12] [3]),(6,zK [0,3,4,11,12,15] [3,4])],
 [],
 [],[]⟩
def zjz (w:web) (zbv:Int) (dt0:Tab):St:=⟨[(0,.one (.c (.p (.fp (zaD w) 0)))),(3,.one (.c (.ptr 3 0))),(11,.one (.c (.p (.int .i64 w.Net.Nodes)))),(12,.one (.c (.p (.int .i64 zbv))))],[(3,.box 157 (zm (zw9 dt0)))],[]⟩
def zk9 (K:List PA->Prop) (w:web) (zbv:Int) (dt0:Tab):Prop:=vc Tryd.prog G88 zc2 (cdF Tryd.f88 [1,1,0,1,0]) (zas 0 (sqK Tryd.prog G88 zc2 (cdF Tryd.f88 [1,1,1]) (zbp Tryd.prog Tryd.f88 K))) (zjz w zbv dt0)
def zg6 (w:web) (zbi:Int) (zaq:Bool) (dt1:Tab):St:=⟨[(0,.one (.c (.p (.fp (zaD w) 0)))),(3,.one (.c (.ptr 3 0))),(4,.one (.c (.ptr 4 0))),(11,.one (.c (.p (.int .i64 w.Net.Nodes)))),(12,.one (.c (.p (.int .i64 zbi)))),(15,.one (.c (.p (.fn 110 [] [.fp [.fp (zaD w) 0] 0]))))],[(3,.box 157 (zm (zw9 dt1))),(4,.box 4 [.p (.bool zaq)])],[]⟩
def zla (K:List PA->Prop) (X0:St->Prop) (w:web) (zbi:Int) (zaq:Bool) (dt1:Tab):Prop:=vc Tryd.prog G88 zc2 (cdF Tryd.f88 [1,1,0,1,0,0,1,1,0,0,1,0,1,0]) (zas 2 (sqK Tryd.prog G88 zc2 (cdF Tryd.f88 [1,1,0,1,0,0,1,1,0,0,1,1]) (zas 1 (sqK Tryd.prog G88 zc2 (cdF Tryd.f88 [1,1,0,1,0,0,1,1,1]) (zbr Tryd.prog zc2 3 X0 (zas 0 (sqK Tryd.prog G88 zc2 (cdF Tryd.f88 [1,1,1]) (zbp Tryd.prog Tryd.f88 K)))))))) (zg6 w zbi zaq dt1)
theorem zEF (w : web) (K : List PA -> Prop) :
  vcFun Tryd.prog G88 zc2 88 [.one (.fp (zaD w) 0)] K =
  (zk9 K w (0:Int) (λ _=>(0:Int))):=by kernel_rfl
def zpy (K:List PA->Prop) (X0:St->Prop) (w:web) (zbv:Int) (dt0:Tab):Prop :=
  (zbR (decide (zbv < w.Net.Nodes))
 ((IsE enc_40 4 4 (λ i=>enc_40 (w.Net.Ties.get i))/\((false,1,false,[none]):MQ)=(false,1,false,[none])) /\
 (zla K X0 w zbv false dt0))
 (K [.one (.bool true)]))
theorem zra (K : List PA -> Prop) (X0 : St -> Prop) (w : web) (zbv : Int) (dt0 : Tab) :
  vc Tryd.prog G88 zc2 (cd (cdF Tryd.f88 [1,1,0,1,0]) [0]) (zbr Tryd.prog zc2 3 X0 (zas 0 (sqK Tryd.prog G88 zc2 (cdF Tryd.f88 [1,1,1]) (zbp Tryd.prog Tryd.f88 K)))) (zjz w zbv dt0) =
  zpy K X0 w zbv dt0:=by kernel_rfl
theorem zxh (K : List PA -> Prop) (w : web) (zbv : Int) (dt0 : Tab)
  (h:∀ X0:St->Prop,(∀ (zbv:Int) (dt0:Tab),zpy K X0 w zbv dt0->X0 (zjz w zbv dt0))->X0 (zjz w zbv dt0)) :
  zk9 K w zbv dt0:=by
  have e:zk9 K w zbv dt0=(∀ X:St->Prop,(∀ s,vc Tryd.prog G88 zc2 (cd (cdF Tryd.f88 [1,1,0,1,0]) [0]) (zbr Tryd.prog zc2 3 X (zas 0 (sqK Tryd.prog G88 zc2 (cdF Tryd.f88 [1,1,1]) (zbp Tryd.prog Tryd.f88 K)))) s->X s)->X (zjz w zbv dt0)):=by kernel_rfl
  refine zbk e ?_
  intro X hX
  refine h X ?_
  intro zbv dt0 hs
  refine hX _ ?_
  have e2:=zra K X w zbv dt0
  rw[e2]
  exact hs
def zpz (K:List PA->Prop) (X0:St->Prop) (w:web) (zbi:Int) (zaq:Bool) (dt1:Tab):Prop :=
  (zbR (!zaq)
 (K [.one (.bool false)])
 (X0 (zjz w (w64 (zbi+(1:Int))) dt1)))
def zpA (K:List PA->Prop) (X0:St->Prop) (X1:List (List PA)->St->Prop) (y1:step) (rest1:List (List PA)) (w:web) (zbi:Int) (zaq:Bool) (dt1:Tab):Prop :=
  (((0≤y1.from_/\y1.from_ < (40:Int))) /\
 (((0≤y1.to/\y1.to < (40:Int))) /\
 (zbR (decide ((w64 ((tg 40 dt1 (0 + y1.from_.toNat * 1 + 0)) + y1.length)) < (tg 40 dt1 (0 + y1.to.toNat * 1 + 0))))
 (((0≤y1.to/\y1.to < (40:Int))) /\
 (X1 rest1 (zg6 w zbi true (ts 40 dt1 (0+y1.to.toNat * 1+0) [(w64 ((tg 40 dt1 (0+y1.from_.toNat * 1+0))+y1.length))]))))
 (X1 rest1 (zg6 w zbi zaq dt1)))))
theorem zrb (K:List PA->Prop) (X0:St->Prop) (w:web) (zbi:Int) (zaq:Bool) (dt1:Tab):(zas 2 (sqK Tryd.prog G88 zc2 (cdF Tryd.f88 [1,1,0,1,0,0,1,1,0,0,1,1]) (zas 1 (sqK Tryd.prog G88 zc2 (cdF Tryd.f88 [1,1,0,1,0,0,1,1,1]) (zbr Tryd.prog zc2 3 X0 (zas 0 (sqK Tryd.prog G88 zc2 (cdF Tryd.f88 [1,1,1]) (zbp Tryd.prog Tryd.f88 K)))))))) .normal (zg6 w zbi zaq dt1)=zpz K X0 w zbi zaq dt1:=by kernel_rfl
theorem zrd (K : List PA -> Prop) (X0 : St -> Prop) (X1 : List (List PA) -> St -> Prop) (y1 : step) (rest1 : List (List PA)) (w : web) (zbi : Int) (zaq : Bool) (dt1 : Tab) :
  zvu Tryd.prog G88 zc2 6 [16] (cd (cdF Tryd.f88 [1,1,0,1,0,0,1,1,0,0,1,0,1,0]) [0]) (cd (cdF Tryd.f88 [1,1,0,1,0,0,1,1,0,0,1,0,1,0]) [1]) X1 (zas 2 (sqK Tryd.prog G88 zc2 (cdF Tryd.f88 [1,1,0,1,0,0,1,1,0,0,1,1]) (zas 1 (sqK Tryd.prog G88 zc2 (cdF Tryd.f88 [1,1,0,1,0,0,1,1,1]) (zbr Tryd.prog zc2 3 X0 (zas 0 (sqK Tryd.prog G88 zc2 (cdF Tryd.f88 [1,1,1]) (zbp Tryd.prog Tryd.f88 K)))))))) [.agg (zai y1)] rest1 (zg6 w zbi zaq dt1)=zpA K X0 X1 y1 rest1 w zbi zaq dt1:=by kernel_rfl
theorem zxi (K : List PA -> Prop) (X0 : St -> Prop) (w : web) (zbi : Int) (zaq : Bool) (dt1 : Tab)
  (hsafe:IsE enc_40 4 4 (λ i=>enc_40 (w.Net.Ties.get i))/\((false,1,false,[none]):MQ)=(false,1,false,[none])/\(zme w=true)) (h:∀ X1:List (List PA)->St->Prop,(∀ (zbi:Int) (zaq:Bool) (dt1:Tab),zpz K X0 w zbi zaq dt1->X1 [] (zg6 w zbi zaq dt1))->(∀ (y:step) (rest:List (List PA)) (zbi:Int) (zaq:Bool) (dt1:Tab),zpA K X0 X1 y rest w zbi zaq dt1->X1 ([.agg (zai y)] :: rest) (zg6 w zbi zaq dt1))->X1 ((zit w).map λ y=>[.agg (zai y)]) (zg6 w zbi zaq dt1)) :
  zla K X0 w zbi zaq dt1:=by
  have e:zla K X0 w zbi zaq dt1=((IsE enc_40 4 4 (λ i=>enc_40 (w.Net.Ties.get i))/\((false,1,false,[none]):MQ)=(false,1,false,[none])/\(zme w=true))/\∀ X:List (List PA)->St->Prop,(∀ s,(zas 2 (sqK Tryd.prog G88 zc2 (cdF Tryd.f88 [1,1,0,1,0,0,1,1,0,0,1,1]) (zas 1 (sqK Tryd.prog G88 zc2 (cdF Tryd.f88 [1,1,0,1,0,0,1,1,1]) (zbr Tryd.prog zc2 3 X0 (zas 0 (sqK Tryd.prog G88 zc2 (cdF Tryd.f88 [1,1,1]) (zbp Tryd.prog Tryd.f88 K)))))))) .normal s->X [] s)->(∀ y rest s,zvu Tryd.prog G88 zc2 6 [16] (cd (cdF Tryd.f88 [1,1,0,1,0,0,1,1,0,0,1,0,1,0]) [0]) (cd (cdF Tryd.f88 [1,1,0,1,0,0,1,1,0,0,1,0,1,0]) [1]) X (zas 2 (sqK Tryd.prog G88 zc2 (cdF Tryd.f88 [1,1,0,1,0,0,1,1,0,0,1,1]) (zas 1 (sqK Tryd.prog G88 zc2 (cdF Tryd.f88 [1,1,0,1,0,0,1,1,1]) (zbr Tryd.prog zc2 3 X0 (zas 0 (sqK Tryd.prog G88 zc2 (cdF Tryd.f88 [1,1,1]) (zbp Tryd.prog Tryd.f88 K)))))))) y rest s->X (y :: rest) s)->X ((zit w).map λ y=>[.agg (zai y)]) (zg6 w zbi zaq dt1)):=by kernel_rfl
  refine zbk e ⟨hsafe,?_⟩
  intro X h0 h1
  refine h X (λ zbi zaq dt1 hs=>h0 _ ?_) (λ y rest zbi zaq dt1 hs=>h1 _ rest _ ?_)
  · rw[zrb K X0 w zbi zaq dt1];exact hs
  · have e2 := zrd K X0 X y rest w zbi zaq dt1
    rw[e2];exact hs
abbrev e88 (r:Bool):List PA:=[.one (.bool r)]
attribute [irreducible] zk9 zla
def ziM (S0:Int->Tab->Bool) (w:web) (zbi:Int) (zaq:Bool) (dt1:Tab):Bool :=
  (cond (!zaq)
 false
 (S0 (w64 (zbi+(1:Int))) dt1))
def ziN (P0:Int->Tab->Bool) (w:web) (zbi:Int) (zaq:Bool) (dt1:Tab):Bool :=
  (cond (!zaq)
 true
 (P0 (w64 (zbi+(1:Int))) dt1))
def zlb (S0:Int->Tab->Bool) (w:web) (y1:step) (S1:Int->Bool->Tab->Bool) (zbi:Int) (zaq:Bool) (dt1:Tab):Bool :=
  (cond (decide ((w64 ((tg 40 dt1 (0 + y1.from_.toNat * 1 + 0)) + y1.length)) < (tg 40 dt1 (0 + y1.to.toNat * 1 + 0))))
 (S1 zbi true (ts 40 dt1 (0+y1.to.toNat * 1+0) [(w64 ((tg 40 dt1 (0+y1.from_.toNat * 1+0))+y1.length))]))
 (S1 zbi zaq dt1))
def zlc (P0:Int->Tab->Bool) (w:web) (y1:step) (P1:Int->Bool->Tab->Bool) (zbi:Int) (zaq:Bool) (dt1:Tab):Bool :=
  (decide ((0≤y1.from_/\y1.from_ < (40:Int))) &&
 (decide ((0≤y1.to/\y1.to < (40:Int))) &&
 (cond (decide ((w64 ((tg 40 dt1 (0 + y1.from_.toNat * 1 + 0)) + y1.length)) < (tg 40 dt1 (0 + y1.to.toNat * 1 + 0))))
 (decide ((0≤y1.to/\y1.to < (40:Int))) &&
 (P1 zbi true (ts 40 dt1 (0+y1.to.toNat * 1+0) [(w64 ((tg 40 dt1 (0+y1.from_.toNat * 1+0))+y1.length))])))
 (P1 zbi zaq dt1))))
def zef (S0 : Int -> Tab -> Bool) (w : web) : List step -> Int -> Bool -> Tab -> Bool
  | []=>ziM S0 w
  | y :: r=>zlb S0 w y (zef S0 w r)
def zeg (P0 : Int -> Tab -> Bool) (w : web) : List step -> Int -> Bool -> Tab -> Bool
  | []=>ziN P0 w
  | y :: r=>zlc P0 w y (zeg P0 w r)
def zre (S0:Int->Tab->Bool) (w:web) (zbi:Int) (zaq:Bool) (dt1:Tab):Bool:=zef S0 w (zit w) zbi zaq dt1
def znT (P0:Int->Tab->Bool) (w:web) (zbi:Int) (zaq:Bool) (dt1:Tab):Bool:=decide ((zme w=true)) && zeg P0 w (zit w) zbi zaq dt1
theorem zEG (K : List PA -> Prop) (w : web)
  (X0:St->Prop) (P0:Int->Tab->Bool) (S0:Int->Tab->Bool)
  (hX0:∀ (zbv:Int) (dt0:Tab),P0 zbv dt0=true->K (e88 (S0 zbv dt0))->X0 (zjz w zbv dt0)) (zbi:Int) (zaq:Bool) (dt1:Tab) (hs:znT P0 w zbi zaq dt1=true) (hk:K (e88 (zre S0 w zbi zaq dt1))):zla K X0 w zbi zaq dt1:=by
  unfold znT at hs
  rw[Bool.and_eq_true] at hs
  obtain⟨hsf,hs⟩:=hs
  have hc:=of_decide_eq_true hsf
  refine zxi K X0 w zbi zaq dt1 ⟨isE,rfl,hc⟩ ?_
  intro X1 hexit hstep
  have key:∀ (l:List step) (zbi:Int) (zaq:Bool) (dt1:Tab),zeg P0 w l zbi zaq dt1=true->K (e88 (zef S0 w l zbi zaq dt1))->X1 (l.map λ y=>[.agg (zai y)]) (zg6 w zbi zaq dt1):=by
    intro l
    induction l with
    | nil =>
      intro zbi zaq dt1 hs hk
      refine hexit zbi zaq dt1 ?_
      have hs:ziN P0 w zbi zaq dt1=true:=hs
      have hk:K (e88 (ziM S0 w zbi zaq dt1)):=hk
      unfold ziN at hs
      unfold ziM at hk
      exact (za2 (K := λ r => K (e88 r))
 (λ hs hk=>hk)
 (λ hs hk=>(hX0 (w64 (zbi+(1:Int))) dt1 hs hk)) hs hk)
    | cons y1 l ih =>
      intro zbi zaq dt1 hs hk
      refine hstep y1 _ zbi zaq dt1 ?_
      have hs:zlc P0 w y1 (zeg P0 w l) zbi zaq dt1=true:=hs
      have hk:K (e88 (zlb S0 w y1 (zef S0 w l) zbi zaq dt1)):=hk
      unfold zlc at hs
      unfold zlb at hk
      generalize zef S0 w l=S1 at hk ih
      generalize zeg P0 w l=P1 at hs ih
      have hX1:=ih
      exact (zaX hs λ hc hs => ⟨hc, (zaX hs λ hc hs => ⟨hc, (za2 (K := λ r => K (e88 r))
 (λ hs hk=>(zaX hs λ hc hs=>⟨hc,(hX1 zbi true (ts 40 dt1 (0+y1.to.toNat * 1+0) [(w64 ((tg 40 dt1 (0+y1.from_.toNat * 1+0))+y1.length))]) hs hk)⟩))
 (λ hs hk=>(hX1 zbi zaq dt1 hs hk)) hs hk)⟩)⟩)
  exact key _ zbi zaq dt1 hs hk
def zhl (w:web) (S0:Int->Tab->Bool) (zbv:Int) (dt0:Tab):Bool :=
  (cond (decide (zbv < w.Net.Nodes))
 (zre S0 w zbv false dt0)
 true)
def zhm (w:web) (P0:Int->Tab->Bool) (zbv:Int) (dt0:Tab):Bool :=
  (cond (decide (zbv < w.Net.Nodes))
 (znT P0 w zbv false dt0)
 true)
def zfr (w : web) : Nat -> Int -> Tab -> Bool
  | 0=>λ _ _=>default
  | k+1=>zhl w (zfr w k)
def zfs (w : web) : Nat -> Int -> Tab -> Bool
  | 0=>λ _ _=>false
  | k+1=>zhm w (zfs w k)
def zxj (w:web) (zbv:Int) (dt0:Tab):Bool:=zfr w Fuel zbv dt0
def zxk (w:web) (zbv:Int) (dt0:Tab):Bool:=zfs w Fuel zbv dt0
theorem zEH (K:List PA->Prop) (w:web) (zbv:Int) (dt0:Tab) (hs:zxk w zbv dt0=true) (hk:K (e88 (zxj w zbv dt0))):zk9 K w zbv dt0:=by
  refine zxh K w zbv dt0 ?_
  intro X0 hstep
  have key:∀ (k:Nat) (zbv:Int) (dt0:Tab),zfs w k zbv dt0=true->K (e88 (zfr w k zbv dt0))->X0 (zjz w zbv dt0):=by
    intro k
    induction k with
    | zero=>intro zbv dt0 hs;exact absurd hs Bool.false_ne_true
    | succ k ih =>
      intro zbv dt0 hs hk
      refine hstep zbv dt0 ?_
      have hs:zhm w (zfs w k) zbv dt0=true:=hs
      have hk:K (e88 (zhl w (zfr w k) zbv dt0)):=hk
      unfold zhm at hs
      unfold zhl at hk
      generalize zfr w k=S0 at hk ih
      generalize zfs w k=P0 at hs ih
      have hX0:=ih
      exact (za2 (K := λ r => K (e88 r))
 (λ hs hk=>⟨⟨isE,rfl⟩,(zEG K w X0 P0 S0 hX0 zbv false dt0 hs hk)⟩)
 (λ hs hk=>hk) hs hk)
  exact key _ zbv dt0 hs hk
def s88 (w:web):Bool :=
  (zxj w (0:Int) (λ _=>(0:Int)))
def p88 (w:web):Bool :=
  (zxk w (0:Int) (λ _=>(0:Int)))
theorem q88 (w:web) (K:List PA->Prop) (hs:p88 w=true) (hk:K (e88 (s88 w))):vcFun Tryd.prog G88 zc2 88 [.one (.fp (zaD w) 0)] K:=by
  refine zbk (zEF w K) ?_
  unfold p88 at hs
  unfold s88 at hk
  exact (zEH K w (0:Int) (λ _=>(0:Int)) hs hk)
def zxl : List PA -> COut
  | [.one (.fp [.int .i64 zan,.sl zal zaE zam,.fm zbq zaL zaM] 0)]=>.det (IsE enc_40 4 zaE zam/\zbq=(false,1,false,[none])/\p88 (⟨(⟨zan,(⟨zal,zar zam⟩:(Sl Tie))⟩:Net),(⟨zaL,zaM⟩:Mp)⟩:web)=true) [.one (.bool (s88 (⟨(⟨zan,(⟨zal,zar zam⟩:(Sl Tie))⟩:Net),(⟨zaL,zaM⟩:Mp)⟩:web)))]
  | _=>.no
theorem zIq:zaA Tryd.prog 88:=⟨_,rfl,rfl,by kernel_rfl⟩
theorem zLd:Ok Tryd.prog 88 zxl:=zbH zLc zIq λ args K h=>by
  unfold zxl at h
  split at h
  · rename_i zan zal zaE zam zbq zaL zaM
    obtain⟨⟨⟨rfl,zay,rfl⟩,rfl,hs⟩,hk⟩:=h
    try rw[zao zay] at hs
    try rw[zao zay] at hk
    exact⟨(λ _ _=>[]),(λ _=>false),zc2,q88 (⟨(⟨zan,(⟨zal,zay⟩:(Sl Tie))⟩:Net),(⟨zaL,zaM⟩:Mp)⟩:web) K hs hk⟩
  · exact h.elim
abbrev T74:Tabs:=(((Tabs.nil.addF 67 zxg).addF 81 zxa).addF 88 zxl)
theorem zLe:TabsOk Tryd.prog T74:=(((TabsOk.nil.addF zK8).addF zK5).addF zLd)
abbrev G74:Ctrs:=csm T74 (λ _ _=>[]) (λ _=>false)
def zBJ:Ann:=⟨31,[(0,zK [1,2] [2]),(1,zK [1,2,6] [2,11]),(2,zK [1,2,6,14] [2,11]),(3,zK [4,5] []),(4,zK [2,6,15,16,17] [2,11]),(5,zK [2,6,15,16,17,18] [2,11]),(6,zK [2,6,8,15,16,17] [2,11]),(7,zK [2,6,15,16,17,26] [2,11]),(8,zK [4,5] []),(9,zK [2,6,15,16,17] [2,11]),(10,zK [6,29] [11]),(11,zK [4,5] []),(12,zK [4,5] [11])],
 [(5,zK [2,6,15,16,17] [2,11])],
 [(3,zK [1,2,6,14] [2,11]),(4,zK [1,2,6] [2,11]),(8,zK [2,6,15,16,17,26] [2,11]),(11,zK [6,29] [11])],
 [],[]⟩
abbrev R74:=(web×Int)
abbrev e74 (r:R74):List PA:=cond (r.2 == 0) [.one (.fp (zaD r.1) 0),.one (.int .i64 (0:Int))] [.one (.nilp),.one (.int .i64 r.2)]
@[irreducible] def z74:=ptF Tryd.prog G74 zBJ Tryd.f74
def zCX (n:Net) (nodes:(Sl Int)) (zdZ:Int):St:=⟨[(2,zp 2 0),(6,zp 11 0),(15,zS zad 1 nodes),(16,zI (nodes.len:Int)),(17,zI zdZ)],[(2,.box 24 (zm (enc_24 n))),(11,.box 105 (zm (zaD (⟨n,(⟨0,(λ _=>none)⟩:Mp)⟩:web))))],[]⟩
abbrev zEI (K:List PA->Prop) (n:Net) (nodes:(Sl Int)) (X:St->Prop) (P:Int->Bool) (S:Int->(web×Int)):Prop:=∀ ⦃zdZ:Int⦄,P zdZ=true->K (e74 (S zdZ))->X (zCX n nodes zdZ)
section
variable {K:List PA->Prop}{n:Net}{nodes:(Sl Int)}{zhn:Bool}{zdZ:Int}{X2:St->Prop}{P2:Int->Bool}{S2:Int->(web×Int)}{zrf:Int}{zrg:Bool}{zBK:Bool}
def zrh (n:Net) (zBK:Bool):(web×Int) :=
  (cond zBK
 ((default:web),(5:Int))
 ((⟨n,(⟨0,(λ _=>none)⟩:Mp)⟩:web),(0:Int)))
theorem zEJ (hk:K (e74 (zrh n zBK))):z74 K [1,1,1,1,0,1] [] ⟨[(6,zp 11 0),(29,zB zBK)],[(11,.box 105 (zm (zaD (⟨n,(⟨0,(λ _=>none)⟩:Mp)⟩:web))))],[]⟩:=zbk (by kernel_rfl) (zt hk (λ hk=>hk) (λ hk=>hk))
def zri (S2:Int->(web×Int)) (n:Net) (nodes:(Sl Int)) (zrf:Int) (zrg:Bool):(web×Int) :=
  (cond zrg
 ((default:web),(2:Int))
 (S2 (w64 (zrf+(1:Int)))))
def zrj (P2:Int->Bool) (n:Net) (nodes:(Sl Int)) (zrf:Int) (zrg:Bool):Bool :=
  (cond zrg
 true
 (P2 (w64 (zrf+(1:Int)))))
theorem zEK (hX2:zEI K n nodes X2 P2 S2) (hs:zrj P2 n nodes zrf zrg=true) (hk:K (e74 (zri S2 n nodes zrf zrg))):z74 K [1,1,1,0,1,0,0,1,1,0,0,1,1] [X2] ⟨[(2,zp 2 0),(6,zp 11 0),(15,zS zad 1 nodes),(16,zI (nodes.len:Int)),(17,zI zrf),(26,zB zrg)],[(2,.box 24 (zm (enc_24 n))),(11,.box 105 (zm (zaD (⟨n,(⟨0,(λ _=>none)⟩:Mp)⟩:web))))],[]⟩:=zbk (by kernel_rfl) (zc hs hk (λ hs hk=>hk) (λ hs hk=>(hX2 hs hk)))
def ziO (n:Net) (nodes:(Sl Int)) (S2:Int->(web×Int)) (zdZ:Int):(web×Int) :=
  (cond (decide (zdZ < (nodes.len : Int)))
 (zri S2 n nodes zdZ (!(s81 (nodes.get zdZ.toNat) (0:Int) (w64 (n.Nodes - (1:Int))))))
 (zrh n (s88 (⟨n,(⟨0,(λ _=>none)⟩:Mp)⟩:web))))
def ziP (n:Net) (nodes:(Sl Int)) (P2:Int->Bool) (zdZ:Int):Bool :=
  (cond (decide (zdZ < (nodes.len : Int)))
 (decide ((0≤zdZ/\zdZ < (nodes.len:Int))) &&
 (zrj P2 n nodes zdZ (!(s81 (nodes.get zdZ.toNat) (0:Int) (w64 (n.Nodes - (1:Int)))))))
 (decide ((p88 (⟨n,(⟨0,(λ _=>none)⟩:Mp)⟩:web)=true)) &&
 true))
def ziQ (n:Net) (nodes:(Sl Int)):Nat->Int->(web×Int):=lpO (λ _=>default) (ziO n nodes)
def ziR (n:Net) (nodes:(Sl Int)):Nat->Int->Bool:=lpO (λ _=>false) (ziP n nodes)
def zrk (n:Net) (nodes:(Sl Int)) (zdZ:Int):(web×Int):=ziQ n nodes Fuel zdZ
def zrl (n:Net) (nodes:(Sl Int)) (zdZ:Int):Bool:=ziR n nodes Fuel zdZ
theorem zEL (hs:zrl n nodes zdZ=true) (hk:K (e74 (zrk n nodes zdZ))):z74 K [1,1,1,0,1,0] [] (zCX n nodes zdZ) :=
  zl (λ X=>z74 K [1,1,1,0,1,0,0] [X]) (by kernel_rfl) λ X2 hX =>
  (show ∀ k, zEI K n nodes X2 (ziR n nodes k) (ziQ n nodes k) from ziH _ _ (ziP n nodes) (ziO n nodes) (zEI K n nodes X2)
 (by intro _ hs;exact absurd hs Bool.false_ne_true)
 (by intro P2 S2 hX2 zdZ hs hk;exact hX _ (zbk (by kernel_rfl) (zc hs hk (λ hs hk=>(zaX hs λ hc hs=>And.intro hc (zEK hX2 hs hk))) (λ hs hk=>(zaX hs λ hc hs=>And.intro (And.intro (zE enc_40 4 n.Ties.get) (And.intro (rfl:((false,1,false,[none]):MQ)=(false,1,false,[none])) hc)) (zEJ hk))))))) _ hs hk
def zrm (n:Net) (nodes:(Sl Int)):(web×Int) :=
  (zrk n nodes (0:Int))
def zrn (n:Net) (nodes:(Sl Int)):Bool :=
  (zrl n nodes (0:Int))
theorem zEM (hs:zrn n nodes=true) (hk:K (e74 (zrm n nodes))):z74 K [1,1,1] [] ⟨[(1,zS zad 1 nodes),(2,zp 2 0),(6,zp 11 0)],[(2,.box 24 (zm (enc_24 n))),(11,.box 105 (zm (zaD (⟨n,(⟨0,(λ _=>none)⟩:Mp)⟩:web))))],[]⟩:=zbk (by kernel_rfl) (zEL hs hk)
def zro (n:Net) (nodes:(Sl Int)) (zhn:Bool):(web×Int) :=
  (cond zhn
 ((default:web),(2:Int))
 (zrm n nodes))
def zrp (n:Net) (nodes:(Sl Int)) (zhn:Bool):Bool :=
  (cond zhn
 true
 (zrn n nodes))
theorem zEN (hs:zrp n nodes zhn=true) (hk:K (e74 (zro n nodes zhn))):z74 K [1,1,0,1] [] ⟨[(1,zS zad 1 nodes),(2,zp 2 0),(6,zp 11 0),(14,zB zhn)],[(2,.box 24 (zm (enc_24 n))),(11,.box 105 (zm (zaD (⟨n,(⟨0,(λ _=>none)⟩:Mp)⟩:web))))],[]⟩:=zbk (by kernel_rfl) (zc hs hk (λ hs hk=>hk) (λ hs hk=>(zEM hs hk)))
def s74 (n:Net) (nodes:(Sl Int)):(web×Int) :=
  (zro n nodes (!(s67 n)))
def p74 (n:Net) (nodes:(Sl Int)):Bool :=
  (decide ((p67 n=true)) &&
 (zrp n nodes (!(s67 n))))
end
theorem q74 (n:Net) (nodes:(Sl Int)) (K:List PA->Prop) (hs:p74 n nodes=true) (hk:K (e74 (s74 n nodes))):vcFun Tryd.prog G74 zBJ 74 [.agg (enc_24 n),.one (.sl nodes.len 1 (λ i=>zad (nodes.get i)))] K :=
  zbk (by kernel_rfl) (zaX hs λ hc hs=>And.intro (And.intro (zE enc_40 4 n.Ties.get) hc) (zEN hs hk))
def zvd : List PA -> COut
  | [.agg [.int .i64 zaj,.sl zaf zaB zae],.one (.sl zgX zoC zgI)]=>.alt ((s74 (⟨zaj,(⟨zaf,zar zae⟩:(Sl Tie))⟩:Net) (⟨zgX,zax zgI⟩:(Sl Int))).2 == 0) (IsE enc_40 4 zaB zae/\IsE zad 1 zoC zgI/\p74 (⟨zaj,(⟨zaf,zar zae⟩:(Sl Tie))⟩:Net) (⟨zgX,zax zgI⟩:(Sl Int))=true) [.one (.fp (zaD (⟨(s74 (⟨zaj,(⟨zaf,zar zae⟩:(Sl Tie))⟩:Net) (⟨zgX,zax zgI⟩:(Sl Int))).1.Net,((s74 (⟨zaj,(⟨zaf,zar zae⟩:(Sl Tie))⟩:Net) (⟨zgX,zax zgI⟩:(Sl Int))).1.out)⟩:web)) 0),.one (.int .i64 (0:Int))] (IsE enc_40 4 zaB zae/\IsE zad 1 zoC zgI/\p74 (⟨zaj,(⟨zaf,zar zae⟩:(Sl Tie))⟩:Net) (⟨zgX,zax zgI⟩:(Sl Int))=true) [.one (.nilp),.one (.int .i64 ((s74 (⟨zaj,(⟨zaf,zar zae⟩:(Sl Tie))⟩:Net) (⟨zgX,zax zgI⟩:(Sl Int))).2))]
  | [.agg [.int .i64 zaj,.sl zaf zaB zae],.one (.nils)]=>.alt ((s74 (⟨zaj,(⟨zaf,zar zae⟩:(Sl Tie))⟩:Net) (⟨0,λ _=>default⟩:(Sl Int))).2 == 0) (IsE enc_40 4 zaB zae/\p74 (⟨zaj,(⟨zaf,zar zae⟩:(Sl Tie))⟩:Net) (⟨0,λ _=>default⟩:(Sl Int))=true) [.one (.fp (zaD (⟨(s74 (⟨zaj,(⟨zaf,zar zae⟩:(Sl Tie))⟩:Net) (⟨0,λ _=>default⟩:(Sl Int))).1.Net,((s74 (⟨zaj,(⟨zaf,zar zae⟩:(Sl Tie))⟩:Net) (⟨0,λ _=>default⟩:(Sl Int))).1.out)⟩:web)) 0),.one (.int .i64 (0:Int))] (IsE enc_40 4 zaB zae/\p74 (⟨zaj,(⟨zaf,zar zae⟩:(Sl Tie))⟩:Net) (⟨0,λ _=>default⟩:(Sl Int))=true) [.one (.nilp),.one (.int .i64 ((s74 (⟨zaj,(⟨zaf,zar zae⟩:(Sl Tie))⟩:Net) (⟨0,λ _=>default⟩:(Sl Int))).2))]
  | _=>.no
theorem zIr:zaA Tryd.prog 74:=⟨_,rfl,rfl,by kernel_rfl⟩
theorem zKE:Ok Tryd.prog 74 zvd:=ziG zLe zIr λ args K h=>by
  unfold zvd at h
  split at h
  · rename_i zaj zaf zaB zae zgX zoC zgI
    have h:=zH6 h
    obtain⟨⟨⟨rfl,zat,rfl⟩,⟨rfl,zld,rfl⟩,hs⟩,hk⟩:=h
    try rw[zao zat] at hs
    try rw[zao zat] at hk
    try rw[zck zld] at hs
    try rw[zck zld] at hk
    exact⟨_,zf5 zg4 _,(λ _ _=>[]),(λ _=>false),zBJ,q74 (⟨zaj,(⟨zaf,zat⟩:(Sl Tie))⟩:Net) (⟨zgX,zld⟩:(Sl Int)) (Wk K) hs (zg5 hk)⟩
  · rename_i zaj zaf zaB zae
    have h:=zH6 h
    obtain⟨⟨⟨rfl,zat,rfl⟩,hs⟩,hk⟩:=h
    try rw[zao zat] at hs
    try rw[zao zat] at hk
    exact⟨_,(zis (zg4 _) (zis (.one (.nil _ _)) zpt)),(λ _ _=>[]),(λ _=>false),zBJ,q74 (⟨zaj,(⟨zaf,zat⟩:(Sl Tie))⟩:Net) (⟨0,λ _=>default⟩:(Sl Int)) (Wk K) hs (zg5 hk)⟩
  · exact h.elim
abbrev zMt:Tabs:=Tabs.nil
theorem zIs:TabsOk Tryd.prog zMt:=TabsOk.nil
abbrev zM2:Ctrs:=csm zMt (λ _ _=>[]) (λ _=>false)
def zCY:Ann:=⟨24,[(0,zK [2,3] [2,3]),(1,zK [4] [])],
 [],
 [],
 [],[]⟩
abbrev zM3:=Bool
abbrev zM4 (r:zM3):List PA:=[.one (.bool r)]
section
variable {K:List PA->Prop}{a:far}{b:far}
def zBL (a:far) (b:far):Bool :=
  (cond (decide (a.length < b.length))
 true
 (cond (a.length == b.length)
 (decide (a.uses < b.uses))
 false))
end
theorem zM5 (a:far) (b:far) (K:List PA->Prop) (hk:K (zM4 (zBL a b))):vcFun Tryd.prog zM2 zCY 105 [.agg (zcF a),.agg (zcF b)] K :=
  zbk (by kernel_rfl) (zt hk (λ hk=>hk) (λ hk=>(zt hk (λ hk=>hk) (λ hk=>hk))))
def zxm : List PA -> COut
  | [.agg [.int .i64 zcI,.int .i64 zrq],.agg [.int .i64 zcn,.int .i64 zft]]=>.tot [.one (.bool (zBL (⟨zcI,zrq⟩:far) (⟨zcn,zft⟩:far)))]
  | _=>.no
theorem zEO:zaA Tryd.prog 105:=⟨_,rfl,rfl,by kernel_rfl⟩
theorem zLf:Ok Tryd.prog 105 zxm:=zbH zIs zEO λ args K h=>by
  unfold zxm at h
  split at h
  · rename_i zcI zrq zcn zft
    have hk:=h
    exact⟨(λ _ _=>[]),(λ _=>false),zCY,zM5 (⟨zcI,zrq⟩:far) (⟨zcn,zft⟩:far) K hk⟩
  · exact h.elim
abbrev zMu:Tabs:=(Tabs.nil.addF 105 zxm)
theorem zIt:TabsOk Tryd.prog zMu:=(TabsOk.nil.addF zLf)
abbrev zMv:Ctrs:=csm zMu (λ _ _=>[]) (λ _=>false)
def zxn:Ann:=⟨22,[(0,zK [0,2,4,6] [4,6]),(1,zK [0,4,6,9,10,11] [4,6]),(2,zK [0,4,6,9,10,11,12] [4,6]),(3,zK [0,4,6,8,9,10,11] [4,6,8]),(4,zK [0,4,6,8,9,10,11,18] [4,6,8]),(5,zK [0,4,6,9,10,11] [4,6]),(6,zK [0,4,6,9,10,11] [4,6]),(7,zK [6] [6])],
 [(2,zK [0,4,6,9,10,11] [4,6])],
 [(5,zK [0,4,6,8,9,10,11,18] [4,6,8])],
 [],[]⟩
abbrev zM6:=far
abbrev zKF (r:zM6):List PA:=[.agg [.int .i64 r.length,.int .i64 r.uses]]
@[irreducible] def z104:=ptF Tryd.prog zMv zxn Tryd.f104
def zxo (others:(Sl far)) (za5:Int) (zbC:Int) (zbD:Int):St:=⟨[(0,zP (.fn 105 [] [])),(4,zp 4 0),(6,zp 6 0),(9,zS zcF 2 others),(10,zI (others.len:Int)),(11,zI za5)],[(4,.box 114 (zm (zcF (⟨zbC,zbD⟩:far)))),(6,.box 114 (zm (zcF (⟨(0:Int),(0:Int)⟩:far))))],[]⟩
abbrev zxp (K:List PA->Prop) (others:(Sl far)) (X:St->Prop) (P:Int->Int->Int->Bool) (S:Int->Int->Int->far):Prop:=∀ ⦃za5:Int⦄ ⦃zbC:Int⦄ ⦃zbD:Int⦄,P za5 zbC zbD=true->K (zKF (S za5 zbC zbD))->X (zxo others za5 zbC zbD)
section
variable {K:List PA->Prop}{first:far}{others:(Sl far)}{za5:Int}{zbC:Int}{zbD:Int}{X0:St->Prop}{P0:Int->Int->Int->Bool}{S0:Int->Int->Int->far}{zc5:Int}{zb1:Bool}{zeh:Int}{zei:Int}{zrr:Int}{zrt:Int}
def znU (S0:Int->Int->Int->far) (others:(Sl far)) (zc5:Int) (zb1:Bool) (zeh:Int) (zei:Int) (zrr:Int) (zrt:Int):far :=
  (cond zb1
 (S0 (w64 (zc5+(1:Int))) zrr zrt)
 (S0 (w64 (zc5+(1:Int))) zeh zei))
def znV (P0:Int->Int->Int->Bool) (others:(Sl far)) (zc5:Int) (zb1:Bool) (zeh:Int) (zei:Int) (zrr:Int) (zrt:Int):Bool :=
  (cond zb1
 (P0 (w64 (zc5+(1:Int))) zrr zrt)
 (P0 (w64 (zc5+(1:Int))) zeh zei))
theorem zBM (hX0:zxp K others X0 P0 S0) (hs:znV P0 others zc5 zb1 zeh zei zrr zrt=true) (hk:K (zKF (znU S0 others zc5 zb1 zeh zei zrr zrt))):z104 K [1,0,1,0,0,1,1,0,0,1,1] [X0] ⟨[(0,zP (.fn 105 [] [])),(4,zp 4 0),(6,zp 6 0),(8,zp 8 0),(9,zS zcF 2 others),(10,zI (others.len:Int)),(11,zI zc5),(18,zB zb1)],[(4,.box 114 (zm (zcF (⟨zeh,zei⟩:far)))),(6,.box 114 (zm (zcF (⟨(0:Int),(0:Int)⟩:far)))),(8,.box 114 (zm (zcF (⟨zrr,zrt⟩:far))))],[]⟩:=zbk (by kernel_rfl) (zc hs hk (λ hs hk=>(hX0 hs hk)) (λ hs hk=>(hX0 hs hk)))
def zgJ (others:(Sl far)) (S0:Int->Int->Int->far) (za5:Int) (zbC:Int) (zbD:Int):far :=
  (cond (decide (za5 < (others.len : Int)))
 (znU S0 others za5 (zBL (others.get za5.toNat) (⟨zbC,zbD⟩:far)) zbC zbD ((others.get za5.toNat).length) ((others.get za5.toNat).uses))
 (⟨zbC,zbD⟩:far))
def zgK (others:(Sl far)) (P0:Int->Int->Int->Bool) (za5:Int) (zbC:Int) (zbD:Int):Bool :=
  (cond (decide (za5 < (others.len : Int)))
 (decide ((0≤za5/\za5 < (others.len:Int))) &&
 (znV P0 others za5 (zBL (others.get za5.toNat) (⟨zbC,zbD⟩:far)) zbC zbD ((others.get za5.toNat).length) ((others.get za5.toNat).uses)))
 true)
def zgL (others:(Sl far)):Nat->Int->Int->Int->far:=lpO (λ _ _ _=>default) (zgJ others)
def zgM (others:(Sl far)):Nat->Int->Int->Int->Bool:=lpO (λ _ _ _=>false) (zgK others)
def znW (others:(Sl far)) (za5:Int) (zbC:Int) (zbD:Int):far:=zgL others Fuel za5 zbC zbD
def znX (others:(Sl far)) (za5:Int) (zbC:Int) (zbD:Int):Bool:=zgM others Fuel za5 zbC zbD
theorem zBN (hs:znX others za5 zbC zbD=true) (hk:K (zKF (znW others za5 zbC zbD))):z104 K [1,0,1,0] [] (zxo others za5 zbC zbD) :=
  zl (λ X=>z104 K [1,0,1,0,0] [X]) (by kernel_rfl) λ X0 hX =>
  (show ∀ k, zxp K others X0 (zgM others k) (zgL others k) from ziH _ _ (zgK others) (zgJ others) (zxp K others X0)
 (by intro _ _ _ hs;exact absurd hs Bool.false_ne_true)
 (by intro P0 S0 hX0 za5 zbC zbD hs hk;exact hX _ (zbk (by kernel_rfl) (zc hs hk (λ hs hk=>(zaX hs λ hc hs=>And.intro hc (zBM hX0 hs hk))) (λ hs hk=>hk))))) _ hs hk
def zch (first:far) (others:(Sl far)):far :=
  (znW others (0:Int) first.length first.uses)
def zvv (first:far) (others:(Sl far)):Bool :=
  (znX others (0:Int) first.length first.uses)
end
theorem zM7 (first:far) (others:(Sl far)) (K:List PA->Prop) (hs:zvv first others=true) (hk:K (zKF (zch first others))):vcFun Tryd.prog zMv zxn 104 [.one (.fn 105 [] []),.agg (zcF first),.one (.sl others.len 2 (λ i=>zcF (others.get i)))] K :=
  zbk (by kernel_rfl) (zBN hs hk)
def zpB : List PA -> COut
  | [.one (.fn 105 [] []),.agg [.int .i64 zcn,.int .i64 zft],.one (.sl zIu zMw zIv)]=>.det (IsE zcF 2 zMw zIv/\zvv (⟨zcn,zft⟩:far) (⟨zIu,zjZ zIv⟩:(Sl far))=true) [.agg [.int .i64 ((zch (⟨zcn,zft⟩:far) (⟨zIu,zjZ zIv⟩:(Sl far))).length),.int .i64 ((zch (⟨zcn,zft⟩:far) (⟨zIu,zjZ zIv⟩:(Sl far))).uses)]]
  | _=>.no
theorem zEP:zaA Tryd.prog 104:=⟨_,rfl,rfl,by kernel_rfl⟩
theorem zEQ:Ok Tryd.prog 104 zpB:=zbH zIt zEP λ args K h=>by
  unfold zpB at h
  split at h
  · rename_i zcn zft zIu zMw zIv
    obtain⟨⟨⟨rfl,zLg,rfl⟩,hs⟩,hk⟩:=h
    try rw[zjx zLg] at hs
    try rw[zjx zLg] at hk
    exact⟨(λ _ _=>[]),(λ _=>false),zxn,zM7 (⟨zcn,zft⟩:far) (⟨zIu,zLg⟩:(Sl far)) K hs hk⟩
  · exact h.elim
abbrev T75:Tabs:=(((Tabs.nil.addF 93 zpv).addF 104 zpB).addI 110 zpx)
theorem zLh:TabsOk Tryd.prog T75:=(((TabsOk.nil.addF zHq).addF zEQ).addI zvc)
abbrev G75:Ctrs:=csm T75 (λ _ _=>[]) (λ _=>false)
def zcJ:Ann:=⟨66,[(0,zK [0,1,4] [4]),(1,zK [0,1,4,5] [4,5]),(2,zK [0,1,4,5,10] [4,5]),(3,zK [0,1,4,5,10,11] [4,5]),(4,zK [0,1,4,5,6,10] [4,5]),(5,zK [0,1,4,5,10] [4,5]),(6,zK [0,1,4,5,10] [4,5]),(7,zK [0,4,5] [4,5]),(8,zK [0,4,5,7] [4,5,7]),(9,zK [0,4,5,7,20] [4,5,7]),(10,zK [0,4,5,7] [4,5,7]),(11,zK [0,4,5,7,22] [4,5,7]),(12,zK [0,4,5,7,8,22] [4,5,7,8]),(13,zK [0,4,5,7,8,22,29] [4,5,7,8]),(14,zK [0,4,5,7,8,9,22] [4,5,7,8,9]),(15,zK [0,4,5,7,8,9,22] [4,5,7,8,9]),(16,zK [0,4,5,7,22] [4,5,7]),(17,zK [0,4,5,64] [4,5]),(18,zK [0,4,5,7] [4,5,7]),(19,zK [4] [4])],
 [(3,zK [0,1,4,5,10] [4,5]),(9,zK [0,4,5,7] [4,5,7]),(12,zK [0,4,5,7,22] [4,5,7])],
 [(7,zK [0,1,4,5] [4,5])],
 [],[]⟩
def zle (w:web) (node:Int) (zaO:Int) (t4t0:Tab) (dt0:Tab):St:=⟨[(0,.one (.c (.p (.fp (zaD w) 0)))),(1,.one (.c (.p (.int .i64 node)))),(4,.one (.c (.ptr 4 0))),(5,.one (.c (.ptr 5 0))),(10,.one (.c (.p (.int .i64 zaO))))],[(4,.box 116 (zm (zac t4t0))),(5,.box 116 (zm (zac dt0)))],[]⟩
def zlf (K:List PA->Prop) (w:web) (node:Int) (zaO:Int) (t4t0:Tab) (dt0:Tab):Prop:=vc Tryd.prog G75 zcJ (cdF Tryd.f75 [1,1,0,1,0]) (zas 0 (sqK Tryd.prog G75 zcJ (cdF Tryd.f75 [1,1,1]) (zbp Tryd.prog Tryd.f75 K))) (zle w node zaO t4t0 dt0)
def zIw (w:web) (node:Int) (t4t1:Tab) (dt1:Tab):St:=⟨[(0,.one (.c (.p (.fp (zaD w) 0)))),(1,.one (.c (.p (.int .i64 node)))),(4,.one (.c (.ptr 4 0))),(5,.one (.c (.ptr 5 0)))],[(4,.box 116 (zm (zac t4t1))),(5,.box 116 (zm (zac dt1)))],[]⟩
def znY (K:List PA->Prop) (w:web) (node:Int) (t4t1:Tab) (dt1:Tab):Prop:=vc Tryd.prog G75 zcJ (cdF Tryd.f75 [1,1,1]) (zbp Tryd.prog Tryd.f75 K) (zIw w node t4t1 dt1)
def zjA (w:web) (zah:Bool) (t4t2:Tab) (dt2:Tab):St:=⟨[(0,.one (.c (.p (.fp (zaD w) 0)))),(4,.one (.c (.ptr 4 0))),(5,.one (.c (.ptr 5 0))),(7,.one (.c (.ptr 7 0)))],[(4,.box 116 (zm (zac t4t2))),(5,.box 116 (zm (zac dt2))),(7,.box 4 [.p (.bool zah)])],[]⟩
def zlg (K:List PA->Prop) (w:web) (zah:Bool) (t4t2:Tab) (dt2:Tab):Prop:=vc Tryd.prog G75 zcJ (cdF Tryd.f75 [1,1,1,1,0,1,0]) (zas 2 (sqK Tryd.prog G75 zcJ (cdF Tryd.f75 [1,1,1,1,1]) (zbp Tryd.prog Tryd.f75 K))) (zjA w zah t4t2 dt2)
def zf7 (w:web) (zaa:Bool) (t4t3:Tab) (dt3:Tab):St:=⟨[(0,.one (.c (.p (.fp (zaD w) 0)))),(4,.one (.c (.ptr 4 0))),(5,.one (.c (.ptr 5 0))),(7,.one (.c (.ptr 7 0))),(22,.one (.c (.p (.fn 110 [] [.fp [.fp (zaD w) 0] 0]))))],[(4,.box 116 (zm (zac t4t3))),(5,.box 116 (zm (zac dt3))),(7,.box 4 [.p (.bool zaa)])],[]⟩
def zlh (K:List PA->Prop) (X2:St->Prop) (w:web) (zaa:Bool) (t4t3:Tab) (dt3:Tab):Prop:=vc Tryd.prog G75 zcJ (cdF Tryd.f75 [1,1,1,1,0,1,0,0,1,0,0,1,1,0]) (zas 4 (zas 3 (sqK Tryd.prog G75 zcJ (cdF Tryd.f75 [1,1,1,1,0,1,0,0,1,1]) (zbr Tryd.prog zcJ 9 X2 (zas 2 (sqK Tryd.prog G75 zcJ (cdF Tryd.f75 [1,1,1,1,1]) (zbp Tryd.prog Tryd.f75 K))))))) (zf7 w zaa t4t3 dt3)
theorem zER (w : web) (node : Int) (K : List PA -> Prop) :
  vcFun Tryd.prog G75 zcJ 75 [.one (.fp (zaD w) 0),.one (.int .i64 node)] K =
  (zlf K w node (0:Int) (λ _=>(0:Int)) (λ _=>(0:Int))):=by kernel_rfl
def zpC (K:List PA->Prop) (X0:St->Prop) (w:web) (node:Int) (zaO:Int) (t4t0:Tab) (dt0:Tab):Prop :=
  (zbR (decide (zaO < (40:Int)))
 (((0≤zaO/\zaO < (40:Int))) /\
 (X0 (zle w node (w64 (zaO+(1:Int))) t4t0 (ts 80 dt0 (0+zaO.toNat * 2+0) [(1000000000000:Int),(0:Int)]))))
 (znY K w node t4t0 dt0))
theorem zru (K : List PA -> Prop) (X0 : St -> Prop) (w : web) (node : Int) (zaO : Int) (t4t0 : Tab) (dt0 : Tab) :
  vc Tryd.prog G75 zcJ (cd (cdF Tryd.f75 [1,1,0,1,0]) [0]) (zbr Tryd.prog zcJ 3 X0 (zas 0 (sqK Tryd.prog G75 zcJ (cdF Tryd.f75 [1,1,1]) (zbp Tryd.prog Tryd.f75 K)))) (zle w node zaO t4t0 dt0) =
  zpC K X0 w node zaO t4t0 dt0:=by kernel_rfl
theorem zxq (K : List PA -> Prop) (w : web) (node : Int) (zaO : Int) (t4t0 : Tab) (dt0 : Tab)
  (h:∀ X0:St->Prop,(∀ (zaO:Int) (t4t0:Tab) (dt0:Tab),zpC K X0 w node zaO t4t0 dt0->X0 (zle w node zaO t4t0 dt0))->X0 (zle w node zaO t4t0 dt0)) :
  zlf K w node zaO t4t0 dt0:=by
  have e:zlf K w node zaO t4t0 dt0=(∀ X:St->Prop,(∀ s,vc Tryd.prog G75 zcJ (cd (cdF Tryd.f75 [1,1,0,1,0]) [0]) (zbr Tryd.prog zcJ 3 X (zas 0 (sqK Tryd.prog G75 zcJ (cdF Tryd.f75 [1,1,1]) (zbp Tryd.prog Tryd.f75 K)))) s->X s)->X (zle w node zaO t4t0 dt0)):=by kernel_rfl
  refine zbk e ?_
  intro X hX
  refine h X ?_
  intro zaO t4t0 dt0 hs
  refine hX _ ?_
  have e2:=zru K X w node zaO t4t0 dt0
  rw[e2]
  exact hs
theorem zES (K : List PA -> Prop) (w : web) (node : Int) (t4t1 : Tab) (dt1 : Tab) :
  znY K w node t4t1 dt1 =
  (((0≤node/\node < (40:Int))) /\
 (zlg K w true t4t1 (ts 80 dt1 (0+node.toNat * 2+0) [(0:Int),(0:Int)]))):=by kernel_rfl
def zpD (K:List PA->Prop) (X2:St->Prop) (w:web) (zah:Bool) (t4t2:Tab) (dt2:Tab):Prop :=
  (zbR zah
 ((IsE enc_40 4 4 (λ i=>enc_40 (w.Net.Ties.get i))/\((false,1,false,[none]):MQ)=(false,1,false,[none])) /\
 (zlh K X2 w false t4t2 dt2))
 (K [.agg (zac dt2)]))
theorem zrv (K : List PA -> Prop) (X2 : St -> Prop) (w : web) (zah : Bool) (t4t2 : Tab) (dt2 : Tab) :
  vc Tryd.prog G75 zcJ (cd (cdF Tryd.f75 [1,1,1,1,0,1,0]) [0]) (zbr Tryd.prog zcJ 9 X2 (zas 2 (sqK Tryd.prog G75 zcJ (cdF Tryd.f75 [1,1,1,1,1]) (zbp Tryd.prog Tryd.f75 K)))) (zjA w zah t4t2 dt2) =
  zpD K X2 w zah t4t2 dt2:=by kernel_rfl
theorem zxr (K : List PA -> Prop) (w : web) (zah : Bool) (t4t2 : Tab) (dt2 : Tab)
  (h:∀ X2:St->Prop,(∀ (zah:Bool) (t4t2:Tab) (dt2:Tab),zpD K X2 w zah t4t2 dt2->X2 (zjA w zah t4t2 dt2))->X2 (zjA w zah t4t2 dt2)) :
  zlg K w zah t4t2 dt2:=by
  have e:zlg K w zah t4t2 dt2=(∀ X:St->Prop,(∀ s,vc Tryd.prog G75 zcJ (cd (cdF Tryd.f75 [1,1,1,1,0,1,0]) [0]) (zbr Tryd.prog zcJ 9 X (zas 2 (sqK Tryd.prog G75 zcJ (cdF Tryd.f75 [1,1,1,1,1]) (zbp Tryd.prog Tryd.f75 K)))) s->X s)->X (zjA w zah t4t2 dt2)):=by kernel_rfl
  refine zbk e ?_
  intro X hX
  refine h X ?_
  intro zah t4t2 dt2 hs
  refine hX _ ?_
  have e2:=zrv K X w zah t4t2 dt2
  rw[e2]
  exact hs
def zpE (K:List PA->Prop) (X2:St->Prop) (w:web) (zaa:Bool) (t4t3:Tab) (dt3:Tab):Prop :=
  (X2 (zjA w zaa t4t3 dt3))
def zpF (K:List PA->Prop) (X2:St->Prop) (X3:List (List PA)->St->Prop) (y3:step) (rest3:List (List PA)) (w:web) (zaa:Bool) (t4t3:Tab) (dt3:Tab):Prop :=
  (((0≤y3.to/\y3.to < (40:Int))) /\
 (zbR (nvr (tL dt3 y3.to) (tU dt3 y3.to))
 (X3 rest3 (zf7 w zaa t4t3 dt3))
 (((0≤y3.from_/\y3.from_ < (40:Int))) /\
 (((0≤y3.to/\y3.to < (40:Int))) /\
 (((0≤y3.to/\y3.to < (40:Int))) /\
 ((IsE zcF 2 2 (λ _=>(zcF (⟨(w64 ((tL dt3 y3.to)+y3.length)),(w64 ((tV dt3 y3.to)+(1:Int)))⟩:far)))/\(zvv (⟨(tL dt3 y3.from_),(tU dt3 y3.from_)⟩:far) (⟨1,λ _=>(⟨(w64 ((tL dt3 y3.to)+y3.length)),(w64 ((tV dt3 y3.to)+(1:Int)))⟩:far)⟩:(Sl far))=true)) /\
 (zbR zaa
 (((0≤y3.from_/\y3.from_ < (40:Int))) /\
 (X3 rest3 (zf7 w true t4t3 (ts 80 dt3 (0+y3.from_.toNat * 2+0) [(zch (⟨(tL dt3 y3.from_),(tU dt3 y3.from_)⟩:far) (⟨1,λ _=>(⟨(w64 ((tL dt3 y3.to)+y3.length)),(w64 ((tV dt3 y3.to)+(1:Int)))⟩:far)⟩:(Sl far))).length,(zch (⟨(tL dt3 y3.from_),(tU dt3 y3.from_)⟩:far) (⟨1,λ _=>(⟨(w64 ((tL dt3 y3.to)+y3.length)),(w64 ((tV dt3 y3.to)+(1:Int)))⟩:far)⟩:(Sl far))).uses]))))
 (((0≤y3.from_/\y3.from_ < (40:Int))) /\
 (((0≤y3.from_/\y3.from_ < (40:Int))) /\
 (X3 rest3 (zf7 w (!(match ((zch (⟨(tL dt3 y3.from_),(tU dt3 y3.from_)⟩:far) (⟨1,λ _=>(⟨(w64 ((tL dt3 y3.to)+y3.length)),(w64 ((tV dt3 y3.to)+(1:Int)))⟩:far)⟩:(Sl far))).length == (tL dt3 y3.from_)) with | true=>(match ((zch (⟨(tL dt3 y3.from_),(tU dt3 y3.from_)⟩:far) (⟨1,λ _=>(⟨(w64 ((tL dt3 y3.to)+y3.length)),(w64 ((tV dt3 y3.to)+(1:Int)))⟩:far)⟩:(Sl far))).uses == (tU dt3 y3.from_)) with | true=>true | false=>false) | false=>false)) t4t3 (ts 80 dt3 (0+y3.from_.toNat * 2+0) [(zch (⟨(tL dt3 y3.from_),(tU dt3 y3.from_)⟩:far) (⟨1,λ _=>(⟨(w64 ((tL dt3 y3.to)+y3.length)),(w64 ((tV dt3 y3.to)+(1:Int)))⟩:far)⟩:(Sl far))).length,(zch (⟨(tL dt3 y3.from_),(tU dt3 y3.from_)⟩:far) (⟨1,λ _=>(⟨(w64 ((tL dt3 y3.to)+y3.length)),(w64 ((tV dt3 y3.to)+(1:Int)))⟩:far)⟩:(Sl far))).uses]))))))))))))
theorem zrx (K:List PA->Prop) (X2:St->Prop) (w:web) (zaa:Bool) (t4t3:Tab) (dt3:Tab):(zas 4 (zas 3 (sqK Tryd.prog G75 zcJ (cdF Tryd.f75 [1,1,1,1,0,1,0,0,1,1]) (zbr Tryd.prog zcJ 9 X2 (zas 2 (sqK Tryd.prog G75 zcJ (cdF Tryd.f75 [1,1,1,1,1]) (zbp Tryd.prog Tryd.f75 K))))))) .normal (zf7 w zaa t4t3 dt3)=zpE K X2 w zaa t4t3 dt3:=by kernel_rfl
theorem zry (K : List PA -> Prop) (X2 : St -> Prop) (X3 : List (List PA) -> St -> Prop) (y3 : step) (rest3 : List (List PA)) (w : web) (zaa : Bool) (t4t3 : Tab) (dt3 : Tab) :
  zvu Tryd.prog G75 zcJ 12 [23] (cd (cdF Tryd.f75 [1,1,1,1,0,1,0,0,1,0,0,1,1,0]) [0]) (cd (cdF Tryd.f75 [1,1,1,1,0,1,0,0,1,0,0,1,1,0]) [1]) X3 (zas 4 (zas 3 (sqK Tryd.prog G75 zcJ (cdF Tryd.f75 [1,1,1,1,0,1,0,0,1,1]) (zbr Tryd.prog zcJ 9 X2 (zas 2 (sqK Tryd.prog G75 zcJ (cdF Tryd.f75 [1,1,1,1,1]) (zbp Tryd.prog Tryd.f75 K))))))) [.agg (zai y3)] rest3 (zf7 w zaa t4t3 dt3)=zpF K X2 X3 y3 rest3 w zaa t4t3 dt3:=by kernel_rfl
theorem zxs (K : List PA -> Prop) (X2 : St -> Prop) (w : web) (zaa : Bool) (t4t3 : Tab) (dt3 : Tab)
  (hsafe:IsE enc_40 4 4 (λ i=>enc_40 (w.Net.Ties.get i))/\((false,1,false,[none]):MQ)=(false,1,false,[none])/\(zme w=true)) (h:∀ X3:List (List PA)->St->Prop,(∀ (zaa:Bool) (t4t3:Tab) (dt3:Tab),zpE K X2 w zaa t4t3 dt3->X3 [] (zf7 w zaa t4t3 dt3))->(∀ (y:step) (rest:List (List PA)) (zaa:Bool) (t4t3:Tab) (dt3:Tab),zpF K X2 X3 y rest w zaa t4t3 dt3->X3 ([.agg (zai y)] :: rest) (zf7 w zaa t4t3 dt3))->X3 ((zit w).map λ y=>[.agg (zai y)]) (zf7 w zaa t4t3 dt3)) :
  zlh K X2 w zaa t4t3 dt3:=by
  have e:zlh K X2 w zaa t4t3 dt3=((IsE enc_40 4 4 (λ i=>enc_40 (w.Net.Ties.get i))/\((false,1,false,[none]):MQ)=(false,1,false,[none])/\(zme w=true))/\∀ X:List (List PA)->St->Prop,(∀ s,(zas 4 (zas 3 (sqK Tryd.prog G75 zcJ (cdF Tryd.f75 [1,1,1,1,0,1,0,0,1,1]) (zbr Tryd.prog zcJ 9 X2 (zas 2 (sqK Tryd.prog G75 zcJ (cdF Tryd.f75 [1,1,1,1,1]) (zbp Tryd.prog Tryd.f75 K))))))) .normal s->X [] s)->(∀ y rest s,zvu Tryd.prog G75 zcJ 12 [23] (cd (cdF Tryd.f75 [1,1,1,1,0,1,0,0,1,0,0,1,1,0]) [0]) (cd (cdF Tryd.f75 [1,1,1,1,0,1,0,0,1,0,0,1,1,0]) [1]) X (zas 4 (zas 3 (sqK Tryd.prog G75 zcJ (cdF Tryd.f75 [1,1,1,1,0,1,0,0,1,1]) (zbr Tryd.prog zcJ 9 X2 (zas 2 (sqK Tryd.prog G75 zcJ (cdF Tryd.f75 [1,1,1,1,1]) (zbp Tryd.prog Tryd.f75 K))))))) y rest s->X (y :: rest) s)->X ((zit w).map λ y=>[.agg (zai y)]) (zf7 w zaa t4t3 dt3)):=by kernel_rfl
  refine zbk e ⟨hsafe,?_⟩
  intro X h0 h1
  refine h X (λ zaa t4t3 dt3 hs=>h0 _ ?_) (λ y rest zaa t4t3 dt3 hs=>h1 _ rest _ ?_)
  · rw[zrx K X2 w zaa t4t3 dt3];exact hs
  · have e2 := zry K X2 X y rest w zaa t4t3 dt3
    rw[e2];exact hs
abbrev e75 (r:Tab):List PA:=[.agg (zac r)]
attribute [irreducible] zlf znY zlg zlh
def zrz (S2:Bool->Tab->Tab->Tab) (w:web) (zaa:Bool) (t4t3:Tab) (dt3:Tab):Tab :=
  (S2 zaa t4t3 dt3)
def zrA (P2:Bool->Tab->Tab->Bool) (w:web) (zaa:Bool) (t4t3:Tab) (dt3:Tab):Bool :=
  (P2 zaa t4t3 dt3)
def zli (S2:Bool->Tab->Tab->Tab) (w:web) (y3:step) (S3:Bool->Tab->Tab->Tab) (zaa:Bool) (t4t3:Tab) (dt3:Tab):Tab :=
  (cond (nvr (tL dt3 y3.to) (tU dt3 y3.to))
 (S3 zaa t4t3 dt3)
 (cond zaa
 (S3 true t4t3 (ts 80 dt3 (0+y3.from_.toNat * 2+0) [(zch (⟨(tL dt3 y3.from_),(tU dt3 y3.from_)⟩:far) (⟨1,λ _=>(⟨(w64 ((tL dt3 y3.to)+y3.length)),(w64 ((tV dt3 y3.to)+(1:Int)))⟩:far)⟩:(Sl far))).length,(zch (⟨(tL dt3 y3.from_),(tU dt3 y3.from_)⟩:far) (⟨1,λ _=>(⟨(w64 ((tL dt3 y3.to)+y3.length)),(w64 ((tV dt3 y3.to)+(1:Int)))⟩:far)⟩:(Sl far))).uses]))
 (S3 (!(match ((zch (⟨(tL dt3 y3.from_),(tU dt3 y3.from_)⟩:far) (⟨1,λ _=>(⟨(w64 ((tL dt3 y3.to)+y3.length)),(w64 ((tV dt3 y3.to)+(1:Int)))⟩:far)⟩:(Sl far))).length == (tL dt3 y3.from_)) with | true=>(match ((zch (⟨(tL dt3 y3.from_),(tU dt3 y3.from_)⟩:far) (⟨1,λ _=>(⟨(w64 ((tL dt3 y3.to)+y3.length)),(w64 ((tV dt3 y3.to)+(1:Int)))⟩:far)⟩:(Sl far))).uses == (tU dt3 y3.from_)) with | true=>true | false=>false) | false=>false)) t4t3 (ts 80 dt3 (0+y3.from_.toNat * 2+0) [(zch (⟨(tL dt3 y3.from_),(tU dt3 y3.from_)⟩:far) (⟨1,λ _=>(⟨(w64 ((tL dt3 y3.to)+y3.length)),(w64 ((tV dt3 y3.to)+(1:Int)))⟩:far)⟩:(Sl far))).length,(zch (⟨(tL dt3 y3.from_),(tU dt3 y3.from_)⟩:far) (⟨1,λ _=>(⟨(w64 ((tL dt3 y3.to)+y3.length)),(w64 ((tV dt3 y3.to)+(1:Int)))⟩:far)⟩:(Sl far))).uses]))))
def zlj (P2:Bool->Tab->Tab->Bool) (w:web) (y3:step) (P3:Bool->Tab->Tab->Bool) (zaa:Bool) (t4t3:Tab) (dt3:Tab):Bool :=
  (decide ((0≤y3.to/\y3.to < (40:Int))) &&
 (cond (nvr (tL dt3 y3.to) (tU dt3 y3.to))
 (P3 zaa t4t3 dt3)
 (decide ((0≤y3.from_/\y3.from_ < (40:Int))) &&
 (decide ((0≤y3.to/\y3.to < (40:Int))) &&
 (decide ((0≤y3.to/\y3.to < (40:Int))) &&
 (decide ((zvv (⟨(tL dt3 y3.from_),(tU dt3 y3.from_)⟩:far) (⟨1,λ _=>(⟨(w64 ((tL dt3 y3.to)+y3.length)),(w64 ((tV dt3 y3.to)+(1:Int)))⟩:far)⟩:(Sl far))=true)) &&
 (cond zaa
 (decide ((0≤y3.from_/\y3.from_ < (40:Int))) &&
 (P3 true t4t3 (ts 80 dt3 (0+y3.from_.toNat * 2+0) [(zch (⟨(tL dt3 y3.from_),(tU dt3 y3.from_)⟩:far) (⟨1,λ _=>(⟨(w64 ((tL dt3 y3.to)+y3.length)),(w64 ((tV dt3 y3.to)+(1:Int)))⟩:far)⟩:(Sl far))).length,(zch (⟨(tL dt3 y3.from_),(tU dt3 y3.from_)⟩:far) (⟨1,λ _=>(⟨(w64 ((tL dt3 y3.to)+y3.length)),(w64 ((tV dt3 y3.to)+(1:Int)))⟩:far)⟩:(Sl far))).uses])))
 (decide ((0≤y3.from_/\y3.from_ < (40:Int))) &&
 (decide ((0≤y3.from_/\y3.from_ < (40:Int))) &&
 (P3 (!(match ((zch (⟨(tL dt3 y3.from_),(tU dt3 y3.from_)⟩:far) (⟨1,λ _=>(⟨(w64 ((tL dt3 y3.to)+y3.length)),(w64 ((tV dt3 y3.to)+(1:Int)))⟩:far)⟩:(Sl far))).length == (tL dt3 y3.from_)) with | true=>(match ((zch (⟨(tL dt3 y3.from_),(tU dt3 y3.from_)⟩:far) (⟨1,λ _=>(⟨(w64 ((tL dt3 y3.to)+y3.length)),(w64 ((tV dt3 y3.to)+(1:Int)))⟩:far)⟩:(Sl far))).uses == (tU dt3 y3.from_)) with | true=>true | false=>false) | false=>false)) t4t3 (ts 80 dt3 (0+y3.from_.toNat * 2+0) [(zch (⟨(tL dt3 y3.from_),(tU dt3 y3.from_)⟩:far) (⟨1,λ _=>(⟨(w64 ((tL dt3 y3.to)+y3.length)),(w64 ((tV dt3 y3.to)+(1:Int)))⟩:far)⟩:(Sl far))).length,(zch (⟨(tL dt3 y3.from_),(tU dt3 y3.from_)⟩:far) (⟨1,λ _=>(⟨(w64 ((tL dt3 y3.to)+y3.length)),(w64 ((tV dt3 y3.to)+(1:Int)))⟩:far)⟩:(Sl far))).uses])))))))))))
def zho (S2 : Bool -> Tab -> Tab -> Tab) (w : web) : List step -> Bool -> Tab -> Tab -> Tab
  | []=>zrz S2 w
  | y :: r=>zli S2 w y (zho S2 w r)
def zhp (P2 : Bool -> Tab -> Tab -> Bool) (w : web) : List step -> Bool -> Tab -> Tab -> Bool
  | []=>zrA P2 w
  | y :: r=>zlj P2 w y (zhp P2 w r)
def zrB (S2:Bool->Tab->Tab->Tab) (w:web) (zaa:Bool) (t4t3:Tab) (dt3:Tab):Tab:=zho S2 w (zit w) zaa t4t3 dt3
def znZ (P2:Bool->Tab->Tab->Bool) (w:web) (zaa:Bool) (t4t3:Tab) (dt3:Tab):Bool:=decide ((zme w=true)) && zhp P2 w (zit w) zaa t4t3 dt3
theorem zET (K : List PA -> Prop) (w : web)
  (X2:St->Prop) (P2:Bool->Tab->Tab->Bool) (S2:Bool->Tab->Tab->Tab)
  (hX2:∀ (zah:Bool) (t4t2:Tab) (dt2:Tab),P2 zah t4t2 dt2=true->K (e75 (S2 zah t4t2 dt2))->X2 (zjA w zah t4t2 dt2)) (zaa:Bool) (t4t3:Tab) (dt3:Tab) (hs:znZ P2 w zaa t4t3 dt3=true) (hk:K (e75 (zrB S2 w zaa t4t3 dt3))):zlh K X2 w zaa t4t3 dt3:=by
  unfold znZ at hs
  rw[Bool.and_eq_true] at hs
  obtain⟨hsf,hs⟩:=hs
  have hc:=of_decide_eq_true hsf
  refine zxs K X2 w zaa t4t3 dt3 ⟨isE,rfl,hc⟩ ?_
  intro X3 hexit hstep
  have key:∀ (l:List step) (zaa:Bool) (t4t3:Tab) (dt3:Tab),zhp P2 w l zaa t4t3 dt3=true->K (e75 (zho S2 w l zaa t4t3 dt3))->X3 (l.map λ y=>[.agg (zai y)]) (zf7 w zaa t4t3 dt3):=by
    intro l
    induction l with
    | nil =>
      intro zaa t4t3 dt3 hs hk
      refine hexit zaa t4t3 dt3 ?_
      have hs:zrA P2 w zaa t4t3 dt3=true:=hs
      have hk:K (e75 (zrz S2 w zaa t4t3 dt3)):=hk
      unfold zrA at hs
      unfold zrz at hk
      exact (hX2 zaa t4t3 dt3 hs hk)
    | cons y3 l ih =>
      intro zaa t4t3 dt3 hs hk
      refine hstep y3 _ zaa t4t3 dt3 ?_
      have hs:zlj P2 w y3 (zhp P2 w l) zaa t4t3 dt3=true:=hs
      have hk:K (e75 (zli S2 w y3 (zho S2 w l) zaa t4t3 dt3)):=hk
      unfold zlj at hs
      unfold zli at hk
      generalize zho S2 w l=S3 at hk ih
      generalize zhp P2 w l=P3 at hs ih
      have hX3:=ih
      exact (zaX hs λ hc hs => ⟨hc, (za2 (K := λ r => K (e75 r))
 (λ hs hk=>(hX3 zaa t4t3 dt3 hs hk))
 (λ hs hk => (zaX hs λ hc hs => ⟨hc, (zaX hs λ hc hs => ⟨hc, (zaX hs λ hc hs => ⟨hc, (zaX hs λ hc hs => ⟨⟨zw2, hc⟩, (za2 (K := λ r => K (e75 r))
 (λ hs hk=>(zaX hs λ hc hs=>⟨hc,(hX3 true t4t3 (ts 80 dt3 (0+y3.from_.toNat * 2+0) [(zch (⟨(tL dt3 y3.from_),(tU dt3 y3.from_)⟩:far) (⟨1,λ _=>(⟨(w64 ((tL dt3 y3.to)+y3.length)),(w64 ((tV dt3 y3.to)+(1:Int)))⟩:far)⟩:(Sl far))).length,(zch (⟨(tL dt3 y3.from_),(tU dt3 y3.from_)⟩:far) (⟨1,λ _=>(⟨(w64 ((tL dt3 y3.to)+y3.length)),(w64 ((tV dt3 y3.to)+(1:Int)))⟩:far)⟩:(Sl far))).uses]) hs hk)⟩))
 (λ hs hk=>(zaX hs λ hc hs=>⟨hc,(zaX hs λ hc hs=>⟨hc,(hX3 (!(match ((zch (⟨(tL dt3 y3.from_),(tU dt3 y3.from_)⟩:far) (⟨1,λ _=>(⟨(w64 ((tL dt3 y3.to)+y3.length)),(w64 ((tV dt3 y3.to)+(1:Int)))⟩:far)⟩:(Sl far))).length == (tL dt3 y3.from_)) with | true=>(match ((zch (⟨(tL dt3 y3.from_),(tU dt3 y3.from_)⟩:far) (⟨1,λ _=>(⟨(w64 ((tL dt3 y3.to)+y3.length)),(w64 ((tV dt3 y3.to)+(1:Int)))⟩:far)⟩:(Sl far))).uses == (tU dt3 y3.from_)) with | true=>true | false=>false) | false=>false)) t4t3 (ts 80 dt3 (0+y3.from_.toNat * 2+0) [(zch (⟨(tL dt3 y3.from_),(tU dt3 y3.from_)⟩:far) (⟨1,λ _=>(⟨(w64 ((tL dt3 y3.to)+y3.length)),(w64 ((tV dt3 y3.to)+(1:Int)))⟩:far)⟩:(Sl far))).length,(zch (⟨(tL dt3 y3.from_),(tU dt3 y3.from_)⟩:far) (⟨1,λ _=>(⟨(w64 ((tL dt3 y3.to)+y3.length)),(w64 ((tV dt3 y3.to)+(1:Int)))⟩:far)⟩:(Sl far))).uses]) hs hk)⟩)⟩)) hs hk)⟩)⟩)⟩)⟩)) hs hk)⟩)
  exact key _ zaa t4t3 dt3 hs hk
def zlk (w:web) (S2:Bool->Tab->Tab->Tab) (zah:Bool) (t4t2:Tab) (dt2:Tab):Tab :=
  (cond zah
 (zrB S2 w false t4t2 dt2)
 dt2)
def zll (w:web) (P2:Bool->Tab->Tab->Bool) (zah:Bool) (t4t2:Tab) (dt2:Tab):Bool :=
  (cond zah
 (znZ P2 w false t4t2 dt2)
 true)
def zej (w : web) : Nat -> Bool -> Tab -> Tab -> Tab
  | 0=>λ _ _ _=>default
  | k+1=>zlk w (zej w k)
def zek (w : web) : Nat -> Bool -> Tab -> Tab -> Bool
  | 0=>λ _ _ _=>false
  | k+1=>zll w (zek w k)
def zrC (w:web) (zah:Bool) (t4t2:Tab) (dt2:Tab):Tab:=zej w Fuel zah t4t2 dt2
def zrD (w:web) (zah:Bool) (t4t2:Tab) (dt2:Tab):Bool:=zek w Fuel zah t4t2 dt2
theorem zEU (K:List PA->Prop) (w:web) (zah:Bool) (t4t2:Tab) (dt2:Tab) (hs:zrD w zah t4t2 dt2=true) (hk:K (e75 (zrC w zah t4t2 dt2))):zlg K w zah t4t2 dt2:=by
  refine zxr K w zah t4t2 dt2 ?_
  intro X2 hstep
  have key:∀ (k:Nat) (zah:Bool) (t4t2:Tab) (dt2:Tab),zek w k zah t4t2 dt2=true->K (e75 (zej w k zah t4t2 dt2))->X2 (zjA w zah t4t2 dt2):=by
    intro k
    induction k with
    | zero=>intro zah t4t2 dt2 hs;exact absurd hs Bool.false_ne_true
    | succ k ih =>
      intro zah t4t2 dt2 hs hk
      refine hstep zah t4t2 dt2 ?_
      have hs:zll w (zek w k) zah t4t2 dt2=true:=hs
      have hk:K (e75 (zlk w (zej w k) zah t4t2 dt2)):=hk
      unfold zll at hs
      unfold zlk at hk
      generalize zej w k=S2 at hk ih
      generalize zek w k=P2 at hs ih
      have hX2:=ih
      exact (za2 (K := λ r => K (e75 r))
 (λ hs hk=>⟨⟨isE,rfl⟩,(zET K w X2 P2 S2 hX2 false t4t2 dt2 hs hk)⟩)
 (λ hs hk=>hk) hs hk)
  exact key _ zah t4t2 dt2 hs hk
def zlm (w:web) (node:Int) (t4t1:Tab) (dt1:Tab):Tab :=
  (zrC w true t4t1 (ts 80 dt1 (0+node.toNat * 2+0) [(0:Int),(0:Int)]))
def zln (w:web) (node:Int) (t4t1:Tab) (dt1:Tab):Bool :=
  (decide ((0≤node/\node < (40:Int))) &&
 (zrD w true t4t1 (ts 80 dt1 (0+node.toNat * 2+0) [(0:Int),(0:Int)])))
theorem zEV (K:List PA->Prop) (w:web) (node:Int) (t4t1:Tab) (dt1:Tab) (hs:zln w node t4t1 dt1=true) (hk:K (e75 (zlm w node t4t1 dt1))):znY K w node t4t1 dt1:=by
  refine zbk (zES K w node t4t1 dt1) ?_
  unfold zln at hs
  unfold zlm at hk
  exact (zaX hs λ hc hs=>⟨hc,(zEU K w true t4t1 (ts 80 dt1 (0+node.toNat * 2+0) [(0:Int),(0:Int)]) hs hk)⟩)
def zhq (w:web) (node:Int) (S0:Int->Tab->Tab->Tab) (zaO:Int) (t4t0:Tab) (dt0:Tab):Tab :=
  (cond (decide (zaO < (40:Int)))
 (S0 (w64 (zaO+(1:Int))) t4t0 (ts 80 dt0 (0+zaO.toNat * 2+0) [(1000000000000:Int),(0:Int)]))
 (zlm w node t4t0 dt0))
def zhr (w:web) (node:Int) (P0:Int->Tab->Tab->Bool) (zaO:Int) (t4t0:Tab) (dt0:Tab):Bool :=
  (cond (decide (zaO < (40:Int)))
 (decide ((0≤zaO/\zaO < (40:Int))) &&
 (P0 (w64 (zaO+(1:Int))) t4t0 (ts 80 dt0 (0+zaO.toNat * 2+0) [(1000000000000:Int),(0:Int)])))
 (zln w node t4t0 dt0))
def zfu (w : web) (node : Int) : Nat -> Int -> Tab -> Tab -> Tab
  | 0=>λ _ _ _=>default
  | k+1=>zhq w node (zfu w node k)
def zfv (w : web) (node : Int) : Nat -> Int -> Tab -> Tab -> Bool
  | 0=>λ _ _ _=>false
  | k+1=>zhr w node (zfv w node k)
def zxt (w:web) (node:Int) (zaO:Int) (t4t0:Tab) (dt0:Tab):Tab:=zfu w node Fuel zaO t4t0 dt0
def zxu (w:web) (node:Int) (zaO:Int) (t4t0:Tab) (dt0:Tab):Bool:=zfv w node Fuel zaO t4t0 dt0
theorem zEW (K:List PA->Prop) (w:web) (node:Int) (zaO:Int) (t4t0:Tab) (dt0:Tab) (hs:zxu w node zaO t4t0 dt0=true) (hk:K (e75 (zxt w node zaO t4t0 dt0))):zlf K w node zaO t4t0 dt0:=by
  refine zxq K w node zaO t4t0 dt0 ?_
  intro X0 hstep
  have key:∀ (k:Nat) (zaO:Int) (t4t0:Tab) (dt0:Tab),zfv w node k zaO t4t0 dt0=true->K (e75 (zfu w node k zaO t4t0 dt0))->X0 (zle w node zaO t4t0 dt0):=by
    intro k
    induction k with
    | zero=>intro zaO t4t0 dt0 hs;exact absurd hs Bool.false_ne_true
    | succ k ih =>
      intro zaO t4t0 dt0 hs hk
      refine hstep zaO t4t0 dt0 ?_
      have hs:zhr w node (zfv w node k) zaO t4t0 dt0=true:=hs
      have hk:K (e75 (zhq w node (zfu w node k) zaO t4t0 dt0)):=hk
      unfold zhr at hs
      unfold zhq at hk
      generalize zfu w node k=S0 at hk ih
      generalize zfv w node k=P0 at hs ih
      have hX0:=ih
      exact (za2 (K := λ r => K (e75 r))
 (λ hs hk=>(zaX hs λ hc hs=>⟨hc,(hX0 (w64 (zaO+(1:Int))) t4t0 (ts 80 dt0 (0+zaO.toNat * 2+0) [(1000000000000:Int),(0:Int)]) hs hk)⟩))
 (λ hs hk=>(zEV K w node t4t0 dt0 hs hk)) hs hk)
  exact key _ zaO t4t0 dt0 hs hk
def s75 (w:web) (node:Int):Tab :=
  (zxt w node (0:Int) (λ _=>(0:Int)) (λ _=>(0:Int)))
def p75 (w:web) (node:Int):Bool :=
  (zxu w node (0:Int) (λ _=>(0:Int)) (λ _=>(0:Int)))
theorem q75 (w:web) (node:Int) (K:List PA->Prop) (hs:p75 w node=true) (hk:K (e75 (s75 w node))):vcFun Tryd.prog G75 zcJ 75 [.one (.fp (zaD w) 0),.one (.int .i64 node)] K:=by
  refine zbk (zER w node K) ?_
  unfold p75 at hs
  unfold s75 at hk
  exact (zEW K w node (0:Int) (λ _=>(0:Int)) (λ _=>(0:Int)) hs hk)
def zve : List PA -> COut
  | [.one (.fp [.int .i64 zan,.sl zal zaE zam,.fm zbq zaL zaM] 0),.one (.int .i64 a1)]=>.det (IsE enc_40 4 zaE zam/\zbq=(false,1,false,[none])/\p75 (⟨(⟨zan,(⟨zal,zar zam⟩:(Sl Tie))⟩:Net),(⟨zaL,zaM⟩:Mp)⟩:web) a1=true) [.agg (zac ((s75 (⟨(⟨zan,(⟨zal,zar zam⟩:(Sl Tie))⟩:Net),(⟨zaL,zaM⟩:Mp)⟩:web) a1)))]
  | _=>.no
theorem zIx:zaA Tryd.prog 75:=⟨_,rfl,rfl,by kernel_rfl⟩
theorem zKG:Ok Tryd.prog 75 zve:=zbH zLh zIx λ args K h=>by
  unfold zve at h
  split at h
  · rename_i zan zal zaE zam zbq zaL zaM a1
    obtain⟨⟨⟨rfl,zay,rfl⟩,rfl,hs⟩,hk⟩:=h
    try rw[zao zay] at hs
    try rw[zao zay] at hk
    exact⟨(λ _ _=>[]),(λ _=>false),zcJ,q75 (⟨(⟨zan,(⟨zal,zay⟩:(Sl Tie))⟩:Net),(⟨zaL,zaM⟩:Mp)⟩:web) a1 K hs hk⟩
  · exact h.elim
abbrev T76:Tabs:=(((Tabs.nil.addF 93 zpv).addF 104 zpB).addI 110 zpx)
theorem zLi:TabsOk Tryd.prog T76:=(((TabsOk.nil.addF zHq).addF zEQ).addI zvc)
abbrev G76:Ctrs:=csm T76 (λ _ _=>[]) (λ _=>false)
def zcK:Ann:=⟨66,[(0,zK [0,1,4] [4]),(1,zK [0,1,4,5] [4,5]),(2,zK [0,1,4,5,10] [4,5]),(3,zK [0,1,4,5,10,11] [4,5]),(4,zK [0,1,4,5,6,10] [4,5]),(5,zK [0,1,4,5,10] [4,5]),(6,zK [0,1,4,5,10] [4,5]),(7,zK [0,4,5] [4,5]),(8,zK [0,4,5,7] [4,5,7]),(9,zK [0,4,5,7,20] [4,5,7]),(10,zK [0,4,5,7] [4,5,7]),(11,zK [0,4,5,7,22] [4,5,7]),(12,zK [0,4,5,7,8,22] [4,5,7,8]),(13,zK [0,4,5,7,8,22,29] [4,5,7,8]),(14,zK [0,4,5,7,8,9,22] [4,5,7,8,9]),(15,zK [0,4,5,7,8,9,22] [4,5,7,8,9]),(16,zK [0,4,5,7,22] [4,5,7]),(17,zK [0,4,5,64] [4,5]),(18,zK [0,4,5,7] [4,5,7]),(19,zK [4] [4])],
 [(3,zK [0,1,4,5,10] [4,5]),(9,zK [0,4,5,7] [4,5,7]),(12,zK [0,4,5,7,22] [4,5,7])],
 [(7,zK [0,1,4,5] [4,5])],
 [],[]⟩
def zlo (w:web) (node:Int) (zaO:Int) (t4t0:Tab) (dt0:Tab):St:=⟨[(0,.one (.c (.p (.fp (zaD w) 0)))),(1,.one (.c (.p (.int .i64 node)))),(4,.one (.c (.ptr 4 0))),(5,.one (.c (.ptr 5 0))),(10,.one (.c (.p (.int .i64 zaO))))],[(4,.box 116 (zm (zac t4t0))),(5,.box 116 (zm (zac dt0)))],[]⟩
def zlp (K:List PA->Prop) (w:web) (node:Int) (zaO:Int) (t4t0:Tab) (dt0:Tab):Prop:=vc Tryd.prog G76 zcK (cdF Tryd.f76 [1,1,0,1,0]) (zas 0 (sqK Tryd.prog G76 zcK (cdF Tryd.f76 [1,1,1]) (zbp Tryd.prog Tryd.f76 K))) (zlo w node zaO t4t0 dt0)
def zIy (w:web) (node:Int) (t4t1:Tab) (dt1:Tab):St:=⟨[(0,.one (.c (.p (.fp (zaD w) 0)))),(1,.one (.c (.p (.int .i64 node)))),(4,.one (.c (.ptr 4 0))),(5,.one (.c (.ptr 5 0)))],[(4,.box 116 (zm (zac t4t1))),(5,.box 116 (zm (zac dt1)))],[]⟩
def zn0 (K:List PA->Prop) (w:web) (node:Int) (t4t1:Tab) (dt1:Tab):Prop:=vc Tryd.prog G76 zcK (cdF Tryd.f76 [1,1,1]) (zbp Tryd.prog Tryd.f76 K) (zIy w node t4t1 dt1)
def zjB (w:web) (zah:Bool) (t4t2:Tab) (dt2:Tab):St:=⟨[(0,.one (.c (.p (.fp (zaD w) 0)))),(4,.one (.c (.ptr 4 0))),(5,.one (.c (.ptr 5 0))),(7,.one (.c (.ptr 7 0)))],[(4,.box 116 (zm (zac t4t2))),(5,.box 116 (zm (zac dt2))),(7,.box 4 [.p (.bool zah)])],[]⟩
def zlq (K:List PA->Prop) (w:web) (zah:Bool) (t4t2:Tab) (dt2:Tab):Prop:=vc Tryd.prog G76 zcK (cdF Tryd.f76 [1,1,1,1,0,1,0]) (zas 2 (sqK Tryd.prog G76 zcK (cdF Tryd.f76 [1,1,1,1,1]) (zbp Tryd.prog Tryd.f76 K))) (zjB w zah t4t2 dt2)
def zf8 (w:web) (zaa:Bool) (t4t3:Tab) (dt3:Tab):St:=⟨[(0,.one (.c (.p (.fp (zaD w) 0)))),(4,.one (.c (.ptr 4 0))),(5,.one (.c (.ptr 5 0))),(7,.one (.c (.ptr 7 0))),(22,.one (.c (.p (.fn 110 [] [.fp [.fp (zaD w) 0] 0]))))],[(4,.box 116 (zm (zac t4t3))),(5,.box 116 (zm (zac dt3))),(7,.box 4 [.p (.bool zaa)])],[]⟩
def zlr (K:List PA->Prop) (X2:St->Prop) (w:web) (zaa:Bool) (t4t3:Tab) (dt3:Tab):Prop:=vc Tryd.prog G76 zcK (cdF Tryd.f76 [1,1,1,1,0,1,0,0,1,0,0,1,1,0]) (zas 4 (zas 3 (sqK Tryd.prog G76 zcK (cdF Tryd.f76 [1,1,1,1,0,1,0,0,1,1]) (zbr Tryd.prog zcK 9 X2 (zas 2 (sqK Tryd.prog G76 zcK (cdF Tryd.f76 [1,1,1,1,1]) (zbp Tryd.prog Tryd.f76 K))))))) (zf8 w zaa t4t3 dt3)
theorem zEX (w : web) (node : Int) (K : List PA -> Prop) :
  vcFun Tryd.prog G76 zcK 76 [.one (.fp (zaD w) 0),.one (.int .i64 node)] K =
  (zlp K w node (0:Int) (λ _=>(0:Int)) (λ _=>(0:Int))):=by kernel_rfl
def zpG (K:List PA->Prop) (X0:St->Prop) (w:web) (node:Int) (zaO:Int) (t4t0:Tab) (dt0:Tab):Prop :=
  (zbR (decide (zaO < (40:Int)))
 (((0≤zaO/\zaO < (40:Int))) /\
 (X0 (zlo w node (w64 (zaO+(1:Int))) t4t0 (ts 80 dt0 (0+zaO.toNat * 2+0) [(1000000000000:Int),(0:Int)]))))
 (zn0 K w node t4t0 dt0))
theorem zrE (K : List PA -> Prop) (X0 : St -> Prop) (w : web) (node : Int) (zaO : Int) (t4t0 : Tab) (dt0 : Tab) :
  vc Tryd.prog G76 zcK (cd (cdF Tryd.f76 [1,1,0,1,0]) [0]) (zbr Tryd.prog zcK 3 X0 (zas 0 (sqK Tryd.prog G76 zcK (cdF Tryd.f76 [1,1,1]) (zbp Tryd.prog Tryd.f76 K)))) (zlo w node zaO t4t0 dt0) =
  zpG K X0 w node zaO t4t0 dt0:=by kernel_rfl
theorem zxv (K : List PA -> Prop) (w : web) (node : Int) (zaO : Int) (t4t0 : Tab) (dt0 : Tab)
  (h:∀ X0:St->Prop,(∀ (zaO:Int) (t4t0:Tab) (dt0:Tab),zpG K X0 w node zaO t4t0 dt0->X0 (zlo w node zaO t4t0 dt0))->X0 (zlo w node zaO t4t0 dt0)) :
  zlp K w node zaO t4t0 dt0:=by
  have e:zlp K w node zaO t4t0 dt0=(∀ X:St->Prop,(∀ s,vc Tryd.prog G76 zcK (cd (cdF Tryd.f76 [1,1,0,1,0]) [0]) (zbr Tryd.prog zcK 3 X (zas 0 (sqK Tryd.prog G76 zcK (cdF Tryd.f76 [1,1,1]) (zbp Tryd.prog Tryd.f76 K)))) s->X s)->X (zlo w node zaO t4t0 dt0)):=by kernel_rfl
  refine zbk e ?_
  intro X hX
  refine h X ?_
  intro zaO t4t0 dt0 hs
  refine hX _ ?_
  have e2:=zrE K X w node zaO t4t0 dt0
  rw[e2]
  exact hs
theorem zEY (K : List PA -> Prop) (w : web) (node : Int) (t4t1 : Tab) (dt1 : Tab) :
  zn0 K w node t4t1 dt1 =
  (((0≤node/\node < (40:Int))) /\
 (zlq K w true t4t1 (ts 80 dt1 (0+node.toNat * 2+0) [(0:Int),(0:Int)]))):=by kernel_rfl
def zpH (K:List PA->Prop) (X2:St->Prop) (w:web) (zah:Bool) (t4t2:Tab) (dt2:Tab):Prop :=
  (zbR zah
 ((IsE enc_40 4 4 (λ i=>enc_40 (w.Net.Ties.get i))/\((false,1,false,[none]):MQ)=(false,1,false,[none])) /\
 (zlr K X2 w false t4t2 dt2))
 (K [.agg (zac dt2)]))
theorem zrF (K : List PA -> Prop) (X2 : St -> Prop) (w : web) (zah : Bool) (t4t2 : Tab) (dt2 : Tab) :
  vc Tryd.prog G76 zcK (cd (cdF Tryd.f76 [1,1,1,1,0,1,0]) [0]) (zbr Tryd.prog zcK 9 X2 (zas 2 (sqK Tryd.prog G76 zcK (cdF Tryd.f76 [1,1,1,1,1]) (zbp Tryd.prog Tryd.f76 K)))) (zjB w zah t4t2 dt2) =
  zpH K X2 w zah t4t2 dt2:=by kernel_rfl
theorem zxw (K : List PA -> Prop) (w : web) (zah : Bool) (t4t2 : Tab) (dt2 : Tab)
  (h:∀ X2:St->Prop,(∀ (zah:Bool) (t4t2:Tab) (dt2:Tab),zpH K X2 w zah t4t2 dt2->X2 (zjB w zah t4t2 dt2))->X2 (zjB w zah t4t2 dt2)) :
  zlq K w zah t4t2 dt2:=by
  have e:zlq K w zah t4t2 dt2=(∀ X:St->Prop,(∀ s,vc Tryd.prog G76 zcK (cd (cdF Tryd.f76 [1,1,1,1,0,1,0]) [0]) (zbr Tryd.prog zcK 9 X (zas 2 (sqK Tryd.prog G76 zcK (cdF Tryd.f76 [1,1,1,1,1]) (zbp Tryd.prog Tryd.f76 K)))) s->X s)->X (zjB w zah t4t2 dt2)):=by kernel_rfl
  refine zbk e ?_
  intro X hX
  refine h X ?_
  intro zah t4t2 dt2 hs
  refine hX _ ?_
  have e2:=zrF K X w zah t4t2 dt2
  rw[e2]
  exact hs
def zpI (K:List PA->Prop) (X2:St->Prop) (w:web) (zaa:Bool) (t4t3:Tab) (dt3:Tab):Prop :=
  (X2 (zjB w zaa t4t3 dt3))
def zpJ (K:List PA->Prop) (X2:St->Prop) (X3:List (List PA)->St->Prop) (y3:step) (rest3:List (List PA)) (w:web) (zaa:Bool) (t4t3:Tab) (dt3:Tab):Prop :=
  (((0≤y3.from_/\y3.from_ < (40:Int))) /\
 (zbR (nvr (tL dt3 y3.from_) (tU dt3 y3.from_))
 (X3 rest3 (zf8 w zaa t4t3 dt3))
 (((0≤y3.to/\y3.to < (40:Int))) /\
 (((0≤y3.from_/\y3.from_ < (40:Int))) /\
 (((0≤y3.from_/\y3.from_ < (40:Int))) /\
 ((IsE zcF 2 2 (λ _=>(zcF (⟨(w64 ((tL dt3 y3.from_)+y3.length)),(w64 ((tV dt3 y3.from_)+(1:Int)))⟩:far)))/\(zvv (⟨(tL dt3 y3.to),(tU dt3 y3.to)⟩:far) (⟨1,λ _=>(⟨(w64 ((tL dt3 y3.from_)+y3.length)),(w64 ((tV dt3 y3.from_)+(1:Int)))⟩:far)⟩:(Sl far))=true)) /\
 (zbR zaa
 (((0≤y3.to/\y3.to < (40:Int))) /\
 (X3 rest3 (zf8 w true t4t3 (ts 80 dt3 (0+y3.to.toNat * 2+0) [(zch (⟨(tL dt3 y3.to),(tU dt3 y3.to)⟩:far) (⟨1,λ _=>(⟨(w64 ((tL dt3 y3.from_)+y3.length)),(w64 ((tV dt3 y3.from_)+(1:Int)))⟩:far)⟩:(Sl far))).length,(zch (⟨(tL dt3 y3.to),(tU dt3 y3.to)⟩:far) (⟨1,λ _=>(⟨(w64 ((tL dt3 y3.from_)+y3.length)),(w64 ((tV dt3 y3.from_)+(1:Int)))⟩:far)⟩:(Sl far))).uses]))))
 (((0≤y3.to/\y3.to < (40:Int))) /\
 (((0≤y3.to/\y3.to < (40:Int))) /\
 (X3 rest3 (zf8 w (!(match ((zch (⟨(tL dt3 y3.to),(tU dt3 y3.to)⟩:far) (⟨1,λ _=>(⟨(w64 ((tL dt3 y3.from_)+y3.length)),(w64 ((tV dt3 y3.from_)+(1:Int)))⟩:far)⟩:(Sl far))).length == (tL dt3 y3.to)) with | true=>(match ((zch (⟨(tL dt3 y3.to),(tU dt3 y3.to)⟩:far) (⟨1,λ _=>(⟨(w64 ((tL dt3 y3.from_)+y3.length)),(w64 ((tV dt3 y3.from_)+(1:Int)))⟩:far)⟩:(Sl far))).uses == (tU dt3 y3.to)) with | true=>true | false=>false) | false=>false)) t4t3 (ts 80 dt3 (0+y3.to.toNat * 2+0) [(zch (⟨(tL dt3 y3.to),(tU dt3 y3.to)⟩:far) (⟨1,λ _=>(⟨(w64 ((tL dt3 y3.from_)+y3.length)),(w64 ((tV dt3 y3.from_)+(1:Int)))⟩:far)⟩:(Sl far))).length,(zch (⟨(tL dt3 y3.to),(tU dt3 y3.to)⟩:far) (⟨1,λ _=>(⟨(w64 ((tL dt3 y3.from_)+y3.length)),(w64 ((tV dt3 y3.from_)+(1:Int)))⟩:far)⟩:(Sl far))).uses]))))))))))))
theorem zrG (K:List PA->Prop) (X2:St->Prop) (w:web) (zaa:Bool) (t4t3:Tab) (dt3:Tab):(zas 4 (zas 3 (sqK Tryd.prog G76 zcK (cdF Tryd.f76 [1,1,1,1,0,1,0,0,1,1]) (zbr Tryd.prog zcK 9 X2 (zas 2 (sqK Tryd.prog G76 zcK (cdF Tryd.f76 [1,1,1,1,1]) (zbp Tryd.prog Tryd.f76 K))))))) .normal (zf8 w zaa t4t3 dt3)=zpI K X2 w zaa t4t3 dt3:=by kernel_rfl
theorem zrH (K : List PA -> Prop) (X2 : St -> Prop) (X3 : List (List PA) -> St -> Prop) (y3 : step) (rest3 : List (List PA)) (w : web) (zaa : Bool) (t4t3 : Tab) (dt3 : Tab) :
  zvu Tryd.prog G76 zcK 12 [23] (cd (cdF Tryd.f76 [1,1,1,1,0,1,0,0,1,0,0,1,1,0]) [0]) (cd (cdF Tryd.f76 [1,1,1,1,0,1,0,0,1,0,0,1,1,0]) [1]) X3 (zas 4 (zas 3 (sqK Tryd.prog G76 zcK (cdF Tryd.f76 [1,1,1,1,0,1,0,0,1,1]) (zbr Tryd.prog zcK 9 X2 (zas 2 (sqK Tryd.prog G76 zcK (cdF Tryd.f76 [1,1,1,1,1]) (zbp Tryd.prog Tryd.f76 K))))))) [.agg (zai y3)] rest3 (zf8 w zaa t4t3 dt3)=zpJ K X2 X3 y3 rest3 w zaa t4t3 dt3:=by kernel_rfl
theorem zxx (K : List PA -> Prop) (X2 : St -> Prop) (w : web) (zaa : Bool) (t4t3 : Tab) (dt3 : Tab)
  (hsafe:IsE enc_40 4 4 (λ i=>enc_40 (w.Net.Ties.get i))/\((false,1,false,[none]):MQ)=(false,1,false,[none])/\(zme w=true)) (h:∀ X3:List (List PA)->St->Prop,(∀ (zaa:Bool) (t4t3:Tab) (dt3:Tab),zpI K X2 w zaa t4t3 dt3->X3 [] (zf8 w zaa t4t3 dt3))->(∀ (y:step) (rest:List (List PA)) (zaa:Bool) (t4t3:Tab) (dt3:Tab),zpJ K X2 X3 y rest w zaa t4t3 dt3->X3 ([.agg (zai y)] :: rest) (zf8 w zaa t4t3 dt3))->X3 ((zit w).map λ y=>[.agg (zai y)]) (zf8 w zaa t4t3 dt3)) :
  zlr K X2 w zaa t4t3 dt3:=by
  have e:zlr K X2 w zaa t4t3 dt3=((IsE enc_40 4 4 (λ i=>enc_40 (w.Net.Ties.get i))/\((false,1,false,[none]):MQ)=(false,1,false,[none])/\(zme w=true))/\∀ X:List (List PA)->St->Prop,(∀ s,(zas 4 (zas 3 (sqK Tryd.prog G76 zcK (cdF Tryd.f76 [1,1,1,1,0,1,0,0,1,1]) (zbr Tryd.prog zcK 9 X2 (zas 2 (sqK Tryd.prog G76 zcK (cdF Tryd.f76 [1,1,1,1,1]) (zbp Tryd.prog Tryd.f76 K))))))) .normal s->X [] s)->(∀ y rest s,zvu Tryd.prog G76 zcK 12 [23] (cd (cdF Tryd.f76 [1,1,1,1,0,1,0,0,1,0,0,1,1,0]) [0]) (cd (cdF Tryd.f76 [1,1,1,1,0,1,0,0,1,0,0,1,1,0]) [1]) X (zas 4 (zas 3 (sqK Tryd.prog G76 zcK (cdF Tryd.f76 [1,1,1,1,0,1,0,0,1,1]) (zbr Tryd.prog zcK 9 X2 (zas 2 (sqK Tryd.prog G76 zcK (cdF Tryd.f76 [1,1,1,1,1]) (zbp Tryd.prog Tryd.f76 K))))))) y rest s->X (y :: rest) s)->X ((zit w).map λ y=>[.agg (zai y)]) (zf8 w zaa t4t3 dt3)):=by kernel_rfl
  refine zbk e ⟨hsafe,?_⟩
  intro X h0 h1
  refine h X (λ zaa t4t3 dt3 hs=>h0 _ ?_) (λ y rest zaa t4t3 dt3 hs=>h1 _ rest _ ?_)
  · rw[zrG K X2 w zaa t4t3 dt3];exact hs
  · have e2 := zrH K X2 X y rest w zaa t4t3 dt3
    rw[e2];exact hs
abbrev e76 (r:Tab):List PA:=[.agg (zac r)]
attribute [irreducible] zlp zn0 zlq zlr
def zrI (S2:Bool->Tab->Tab->Tab) (w:web) (zaa:Bool) (t4t3:Tab) (dt3:Tab):Tab :=
  (S2 zaa t4t3 dt3)
def zrJ (P2:Bool->Tab->Tab->Bool) (w:web) (zaa:Bool) (t4t3:Tab) (dt3:Tab):Bool :=
  (P2 zaa t4t3 dt3)
def zls (S2:Bool->Tab->Tab->Tab) (w:web) (y3:step) (S3:Bool->Tab->Tab->Tab) (zaa:Bool) (t4t3:Tab) (dt3:Tab):Tab :=
  (cond (nvr (tL dt3 y3.from_) (tU dt3 y3.from_))
 (S3 zaa t4t3 dt3)
 (cond zaa
 (S3 true t4t3 (ts 80 dt3 (0+y3.to.toNat * 2+0) [(zch (⟨(tL dt3 y3.to),(tU dt3 y3.to)⟩:far) (⟨1,λ _=>(⟨(w64 ((tL dt3 y3.from_)+y3.length)),(w64 ((tV dt3 y3.from_)+(1:Int)))⟩:far)⟩:(Sl far))).length,(zch (⟨(tL dt3 y3.to),(tU dt3 y3.to)⟩:far) (⟨1,λ _=>(⟨(w64 ((tL dt3 y3.from_)+y3.length)),(w64 ((tV dt3 y3.from_)+(1:Int)))⟩:far)⟩:(Sl far))).uses]))
 (S3 (!(match ((zch (⟨(tL dt3 y3.to),(tU dt3 y3.to)⟩:far) (⟨1,λ _=>(⟨(w64 ((tL dt3 y3.from_)+y3.length)),(w64 ((tV dt3 y3.from_)+(1:Int)))⟩:far)⟩:(Sl far))).length == (tL dt3 y3.to)) with | true=>(match ((zch (⟨(tL dt3 y3.to),(tU dt3 y3.to)⟩:far) (⟨1,λ _=>(⟨(w64 ((tL dt3 y3.from_)+y3.length)),(w64 ((tV dt3 y3.from_)+(1:Int)))⟩:far)⟩:(Sl far))).uses == (tU dt3 y3.to)) with | true=>true | false=>false) | false=>false)) t4t3 (ts 80 dt3 (0+y3.to.toNat * 2+0) [(zch (⟨(tL dt3 y3.to),(tU dt3 y3.to)⟩:far) (⟨1,λ _=>(⟨(w64 ((tL dt3 y3.from_)+y3.length)),(w64 ((tV dt3 y3.from_)+(1:Int)))⟩:far)⟩:(Sl far))).length,(zch (⟨(tL dt3 y3.to),(tU dt3 y3.to)⟩:far) (⟨1,λ _=>(⟨(w64 ((tL dt3 y3.from_)+y3.length)),(w64 ((tV dt3 y3.from_)+(1:Int)))⟩:far)⟩:(Sl far))).uses]))))
def zlt (P2:Bool->Tab->Tab->Bool) (w:web) (y3:step) (P3:Bool->Tab->Tab->Bool) (zaa:Bool) (t4t3:Tab) (dt3:Tab):Bool :=
  (decide ((0≤y3.from_/\y3.from_ < (40:Int))) &&
 (cond (nvr (tL dt3 y3.from_) (tU dt3 y3.from_))
 (P3 zaa t4t3 dt3)
 (decide ((0≤y3.to/\y3.to < (40:Int))) &&
 (decide ((0≤y3.from_/\y3.from_ < (40:Int))) &&
 (decide ((0≤y3.from_/\y3.from_ < (40:Int))) &&
 (decide ((zvv (⟨(tL dt3 y3.to),(tU dt3 y3.to)⟩:far) (⟨1,λ _=>(⟨(w64 ((tL dt3 y3.from_)+y3.length)),(w64 ((tV dt3 y3.from_)+(1:Int)))⟩:far)⟩:(Sl far))=true)) &&
 (cond zaa
 (decide ((0≤y3.to/\y3.to < (40:Int))) &&
 (P3 true t4t3 (ts 80 dt3 (0+y3.to.toNat * 2+0) [(zch (⟨(tL dt3 y3.to),(tU dt3 y3.to)⟩:far) (⟨1,λ _=>(⟨(w64 ((tL dt3 y3.from_)+y3.length)),(w64 ((tV dt3 y3.from_)+(1:Int)))⟩:far)⟩:(Sl far))).length,(zch (⟨(tL dt3 y3.to),(tU dt3 y3.to)⟩:far) (⟨1,λ _=>(⟨(w64 ((tL dt3 y3.from_)+y3.length)),(w64 ((tV dt3 y3.from_)+(1:Int)))⟩:far)⟩:(Sl far))).uses])))
 (decide ((0≤y3.to/\y3.to < (40:Int))) &&
 (decide ((0≤y3.to/\y3.to < (40:Int))) &&
 (P3 (!(match ((zch (⟨(tL dt3 y3.to),(tU dt3 y3.to)⟩:far) (⟨1,λ _=>(⟨(w64 ((tL dt3 y3.from_)+y3.length)),(w64 ((tV dt3 y3.from_)+(1:Int)))⟩:far)⟩:(Sl far))).length == (tL dt3 y3.to)) with | true=>(match ((zch (⟨(tL dt3 y3.to),(tU dt3 y3.to)⟩:far) (⟨1,λ _=>(⟨(w64 ((tL dt3 y3.from_)+y3.length)),(w64 ((tV dt3 y3.from_)+(1:Int)))⟩:far)⟩:(Sl far))).uses == (tU dt3 y3.to)) with | true=>true | false=>false) | false=>false)) t4t3 (ts 80 dt3 (0+y3.to.toNat * 2+0) [(zch (⟨(tL dt3 y3.to),(tU dt3 y3.to)⟩:far) (⟨1,λ _=>(⟨(w64 ((tL dt3 y3.from_)+y3.length)),(w64 ((tV dt3 y3.from_)+(1:Int)))⟩:far)⟩:(Sl far))).length,(zch (⟨(tL dt3 y3.to),(tU dt3 y3.to)⟩:far) (⟨1,λ _=>(⟨(w64 ((tL dt3 y3.from_)+y3.length)),(w64 ((tV dt3 y3.from_)+(1:Int)))⟩:far)⟩:(Sl far))).uses])))))))))))
def zhs (S2 : Bool -> Tab -> Tab -> Tab) (w : web) : List step -> Bool -> Tab -> Tab -> Tab
  | []=>zrI S2 w
  | y :: r=>zls S2 w y (zhs S2 w r)
def zht (P2 : Bool -> Tab -> Tab -> Bool) (w : web) : List step -> Bool -> Tab -> Tab -> Bool
  | []=>zrJ P2 w
  | y :: r=>zlt P2 w y (zht P2 w r)
def zrK (S2:Bool->Tab->Tab->Tab) (w:web) (zaa:Bool) (t4t3:Tab) (dt3:Tab):Tab:=zhs S2 w (zit w) zaa t4t3 dt3
def zn1 (P2:Bool->Tab->Tab->Bool) (w:web) (zaa:Bool) (t4t3:Tab) (dt3:Tab):Bool:=decide ((zme w=true)) && zht P2 w (zit w) zaa t4t3 dt3
theorem zEZ (K : List PA -> Prop) (w : web)
  (X2:St->Prop) (P2:Bool->Tab->Tab->Bool) (S2:Bool->Tab->Tab->Tab)
  (hX2:∀ (zah:Bool) (t4t2:Tab) (dt2:Tab),P2 zah t4t2 dt2=true->K (e76 (S2 zah t4t2 dt2))->X2 (zjB w zah t4t2 dt2)) (zaa:Bool) (t4t3:Tab) (dt3:Tab) (hs:zn1 P2 w zaa t4t3 dt3=true) (hk:K (e76 (zrK S2 w zaa t4t3 dt3))):zlr K X2 w zaa t4t3 dt3:=by
  unfold zn1 at hs
  rw[Bool.and_eq_true] at hs
  obtain⟨hsf,hs⟩:=hs
  have hc:=of_decide_eq_true hsf
  refine zxx K X2 w zaa t4t3 dt3 ⟨isE,rfl,hc⟩ ?_
  intro X3 hexit hstep
  have key:∀ (l:List step) (zaa:Bool) (t4t3:Tab) (dt3:Tab),zht P2 w l zaa t4t3 dt3=true->K (e76 (zhs S2 w l zaa t4t3 dt3))->X3 (l.map λ y=>[.agg (zai y)]) (zf8 w zaa t4t3 dt3):=by
    intro l
    induction l with
    | nil =>
      intro zaa t4t3 dt3 hs hk
      refine hexit zaa t4t3 dt3 ?_
      have hs:zrJ P2 w zaa t4t3 dt3=true:=hs
      have hk:K (e76 (zrI S2 w zaa t4t3 dt3)):=hk
      unfold zrJ at hs
      unfold zrI at hk
      exact (hX2 zaa t4t3 dt3 hs hk)
    | cons y3 l ih =>
      intro zaa t4t3 dt3 hs hk
      refine hstep y3 _ zaa t4t3 dt3 ?_
      have hs:zlt P2 w y3 (zht P2 w l) zaa t4t3 dt3=true:=hs
      have hk:K (e76 (zls S2 w y3 (zhs S2 w l) zaa t4t3 dt3)):=hk
      unfold zlt at hs
      unfold zls at hk
      generalize zhs S2 w l=S3 at hk ih
      generalize zht P2 w l=P3 at hs ih
      have hX3:=ih
      exact (zaX hs λ hc hs => ⟨hc, (za2 (K := λ r => K (e76 r))
 (λ hs hk=>(hX3 zaa t4t3 dt3 hs hk))
 (λ hs hk => (zaX hs λ hc hs => ⟨hc, (zaX hs λ hc hs => ⟨hc, (zaX hs λ hc hs => ⟨hc, (zaX hs λ hc hs => ⟨⟨zw2, hc⟩, (za2 (K := λ r => K (e76 r))
 (λ hs hk=>(zaX hs λ hc hs=>⟨hc,(hX3 true t4t3 (ts 80 dt3 (0+y3.to.toNat * 2+0) [(zch (⟨(tL dt3 y3.to),(tU dt3 y3.to)⟩:far) (⟨1,λ _=>(⟨(w64 ((tL dt3 y3.from_)+y3.length)),(w64 ((tV dt3 y3.from_)+(1:Int)))⟩:far)⟩:(Sl far))).length,(zch (⟨(tL dt3 y3.to),(tU dt3 y3.to)⟩:far) (⟨1,λ _=>(⟨(w64 ((tL dt3 y3.from_)+y3.length)),(w64 ((tV dt3 y3.from_)+(1:Int)))⟩:far)⟩:(Sl far))).uses]) hs hk)⟩))
 (λ hs hk=>(zaX hs λ hc hs=>⟨hc,(zaX hs λ hc hs=>⟨hc,(hX3 (!(match ((zch (⟨(tL dt3 y3.to),(tU dt3 y3.to)⟩:far) (⟨1,λ _=>(⟨(w64 ((tL dt3 y3.from_)+y3.length)),(w64 ((tV dt3 y3.from_)+(1:Int)))⟩:far)⟩:(Sl far))).length == (tL dt3 y3.to)) with | true=>(match ((zch (⟨(tL dt3 y3.to),(tU dt3 y3.to)⟩:far) (⟨1,λ _=>(⟨(w64 ((tL dt3 y3.from_)+y3.length)),(w64 ((tV dt3 y3.from_)+(1:Int)))⟩:far)⟩:(Sl far))).uses == (tU dt3 y3.to)) with | true=>true | false=>false) | false=>false)) t4t3 (ts 80 dt3 (0+y3.to.toNat * 2+0) [(zch (⟨(tL dt3 y3.to),(tU dt3 y3.to)⟩:far) (⟨1,λ _=>(⟨(w64 ((tL dt3 y3.from_)+y3.length)),(w64 ((tV dt3 y3.from_)+(1:Int)))⟩:far)⟩:(Sl far))).length,(zch (⟨(tL dt3 y3.to),(tU dt3 y3.to)⟩:far) (⟨1,λ _=>(⟨(w64 ((tL dt3 y3.from_)+y3.length)),(w64 ((tV dt3 y3.from_)+(1:Int)))⟩:far)⟩:(Sl far))).uses]) hs hk)⟩)⟩)) hs hk)⟩)⟩)⟩)⟩)) hs hk)⟩)
  exact key _ zaa t4t3 dt3 hs hk
def zlu (w:web) (S2:Bool->Tab->Tab->Tab) (zah:Bool) (t4t2:Tab) (dt2:Tab):Tab :=
  (cond zah
 (zrK S2 w false t4t2 dt2)
 dt2)
def zlv (w:web) (P2:Bool->Tab->Tab->Bool) (zah:Bool) (t4t2:Tab) (dt2:Tab):Bool :=
  (cond zah
 (zn1 P2 w false t4t2 dt2)
 true)
def zel (w : web) : Nat -> Bool -> Tab -> Tab -> Tab
  | 0=>λ _ _ _=>default
  | k+1=>zlu w (zel w k)
def zem (w : web) : Nat -> Bool -> Tab -> Tab -> Bool
  | 0=>λ _ _ _=>false
  | k+1=>zlv w (zem w k)
def zrL (w:web) (zah:Bool) (t4t2:Tab) (dt2:Tab):Tab:=zel w Fuel zah t4t2 dt2
def zrM (w:web) (zah:Bool) (t4t2:Tab) (dt2:Tab):Bool:=zem w Fuel zah t4t2 dt2
theorem zE0 (K:List PA->Prop) (w:web) (zah:Bool) (t4t2:Tab) (dt2:Tab) (hs:zrM w zah t4t2 dt2=true) (hk:K (e76 (zrL w zah t4t2 dt2))):zlq K w zah t4t2 dt2:=by
  refine zxw K w zah t4t2 dt2 ?_
  intro X2 hstep
  have key:∀ (k:Nat) (zah:Bool) (t4t2:Tab) (dt2:Tab),zem w k zah t4t2 dt2=true->K (e76 (zel w k zah t4t2 dt2))->X2 (zjB w zah t4t2 dt2):=by
    intro k
    induction k with
    | zero=>intro zah t4t2 dt2 hs;exact absurd hs Bool.false_ne_true
    | succ k ih =>
      intro zah t4t2 dt2 hs hk
      refine hstep zah t4t2 dt2 ?_
      have hs:zlv w (zem w k) zah t4t2 dt2=true:=hs
      have hk:K (e76 (zlu w (zel w k) zah t4t2 dt2)):=hk
      unfold zlv at hs
      unfold zlu at hk
      generalize zel w k=S2 at hk ih
      generalize zem w k=P2 at hs ih
      have hX2:=ih
      exact (za2 (K := λ r => K (e76 r))
 (λ hs hk=>⟨⟨isE,rfl⟩,(zEZ K w X2 P2 S2 hX2 false t4t2 dt2 hs hk)⟩)
 (λ hs hk=>hk) hs hk)
  exact key _ zah t4t2 dt2 hs hk
def zlw (w:web) (node:Int) (t4t1:Tab) (dt1:Tab):Tab :=
  (zrL w true t4t1 (ts 80 dt1 (0+node.toNat * 2+0) [(0:Int),(0:Int)]))
def zlx (w:web) (node:Int) (t4t1:Tab) (dt1:Tab):Bool :=
  (decide ((0≤node/\node < (40:Int))) &&
 (zrM w true t4t1 (ts 80 dt1 (0+node.toNat * 2+0) [(0:Int),(0:Int)])))
theorem zE1 (K:List PA->Prop) (w:web) (node:Int) (t4t1:Tab) (dt1:Tab) (hs:zlx w node t4t1 dt1=true) (hk:K (e76 (zlw w node t4t1 dt1))):zn0 K w node t4t1 dt1:=by
  refine zbk (zEY K w node t4t1 dt1) ?_
  unfold zlx at hs
  unfold zlw at hk
  exact (zaX hs λ hc hs=>⟨hc,(zE0 K w true t4t1 (ts 80 dt1 (0+node.toNat * 2+0) [(0:Int),(0:Int)]) hs hk)⟩)
def zhu (w:web) (node:Int) (S0:Int->Tab->Tab->Tab) (zaO:Int) (t4t0:Tab) (dt0:Tab):Tab :=
  (cond (decide (zaO < (40:Int)))
 (S0 (w64 (zaO+(1:Int))) t4t0 (ts 80 dt0 (0+zaO.toNat * 2+0) [(1000000000000:Int),(0:Int)]))
 (zlw w node t4t0 dt0))
def zhv (w:web) (node:Int) (P0:Int->Tab->Tab->Bool) (zaO:Int) (t4t0:Tab) (dt0:Tab):Bool :=
  (cond (decide (zaO < (40:Int)))
 (decide ((0≤zaO/\zaO < (40:Int))) &&
 (P0 (w64 (zaO+(1:Int))) t4t0 (ts 80 dt0 (0+zaO.toNat * 2+0) [(1000000000000:Int),(0:Int)])))
 (zlx w node t4t0 dt0))
def zfw (w : web) (node : Int) : Nat -> Int -> Tab -> Tab -> Tab
  | 0=>λ _ _ _=>default
  | k+1=>zhu w node (zfw w node k)
def zfx (w : web) (node : Int) : Nat -> Int -> Tab -> Tab -> Bool
  | 0=>λ _ _ _=>false
  | k+1=>zhv w node (zfx w node k)
def zxy (w:web) (node:Int) (zaO:Int) (t4t0:Tab) (dt0:Tab):Tab:=zfw w node Fuel zaO t4t0 dt0
def zxz (w:web) (node:Int) (zaO:Int) (t4t0:Tab) (dt0:Tab):Bool:=zfx w node Fuel zaO t4t0 dt0
theorem zE2 (K:List PA->Prop) (w:web) (node:Int) (zaO:Int) (t4t0:Tab) (dt0:Tab) (hs:zxz w node zaO t4t0 dt0=true) (hk:K (e76 (zxy w node zaO t4t0 dt0))):zlp K w node zaO t4t0 dt0:=by
  refine zxv K w node zaO t4t0 dt0 ?_
  intro X0 hstep
  have key:∀ (k:Nat) (zaO:Int) (t4t0:Tab) (dt0:Tab),zfx w node k zaO t4t0 dt0=true->K (e76 (zfw w node k zaO t4t0 dt0))->X0 (zlo w node zaO t4t0 dt0):=by
    intro k
    induction k with
    | zero=>intro zaO t4t0 dt0 hs;exact absurd hs Bool.false_ne_true
    | succ k ih =>
      intro zaO t4t0 dt0 hs hk
      refine hstep zaO t4t0 dt0 ?_
      have hs:zhv w node (zfx w node k) zaO t4t0 dt0=true:=hs
      have hk:K (e76 (zhu w node (zfw w node k) zaO t4t0 dt0)):=hk
      unfold zhv at hs
      unfold zhu at hk
      generalize zfw w node k=S0 at hk ih
      generalize zfx w node k=P0 at hs ih
      have hX0:=ih
      exact (za2 (K := λ r => K (e76 r))
 (λ hs hk=>(zaX hs λ hc hs=>⟨hc,(hX0 (w64 (zaO+(1:Int))) t4t0 (ts 80 dt0 (0+zaO.toNat * 2+0) [(1000000000000:Int),(0:Int)]) hs hk)⟩))
 (λ hs hk=>(zE1 K w node t4t0 dt0 hs hk)) hs hk)
  exact key _ zaO t4t0 dt0 hs hk
def s76 (w:web) (node:Int):Tab :=
  (zxy w node (0:Int) (λ _=>(0:Int)) (λ _=>(0:Int)))
def p76 (w:web) (node:Int):Bool :=
  (zxz w node (0:Int) (λ _=>(0:Int)) (λ _=>(0:Int)))
theorem q76 (w:web) (node:Int) (K:List PA->Prop) (hs:p76 w node=true) (hk:K (e76 (s76 w node))):vcFun Tryd.prog G76 zcK 76 [.one (.fp (zaD w) 0),.one (.int .i64 node)] K:=by
  refine zbk (zEX w node K) ?_
  unfold p76 at hs
  unfold s76 at hk
  exact (zE2 K w node (0:Int) (λ _=>(0:Int)) (λ _=>(0:Int)) hs hk)
def zvf : List PA -> COut
  | [.one (.fp [.int .i64 zan,.sl zal zaE zam,.fm zbq zaL zaM] 0),.one (.int .i64 a1)]=>.det (IsE enc_40 4 zaE zam/\zbq=(false,1,false,[none])/\p76 (⟨(⟨zan,(⟨zal,zar zam⟩:(Sl Tie))⟩:Net),(⟨zaL,zaM⟩:Mp)⟩:web) a1=true) [.agg (zac ((s76 (⟨(⟨zan,(⟨zal,zar zam⟩:(Sl Tie))⟩:Net),(⟨zaL,zaM⟩:Mp)⟩:web) a1)))]
  | _=>.no
theorem zIz:zaA Tryd.prog 76:=⟨_,rfl,rfl,by kernel_rfl⟩
theorem zKH:Ok Tryd.prog 76 zvf:=zbH zLi zIz λ args K h=>by
  unfold zvf at h
  split at h
  · rename_i zan zal zaE zam zbq zaL zaM a1
    obtain⟨⟨⟨rfl,zay,rfl⟩,rfl,hs⟩,hk⟩:=h
    try rw[zao zay] at hs
    try rw[zao zay] at hk
    exact⟨(λ _ _=>[]),(λ _=>false),zcK,q76 (⟨(⟨zan,(⟨zal,zay⟩:(Sl Tie))⟩:Net),(⟨zaL,zaM⟩:Mp)⟩:web) a1 K hs hk⟩
  · exact h.elim
abbrev T26:Tabs:=(((Tabs.nil.addF 74 zvd).addF 75 zve).addF 76 zvf)
theorem zLj:TabsOk Tryd.prog T26:=(((TabsOk.nil.addF zKE).addF zKG).addF zKH)
abbrev G26:Ctrs:=csm T26 (λ _ _=>[]) (λ _=>false)
def zE3:Ann:=⟨45,[(0,zK [1] [1]),(1,zK [1,4,5] [1]),(2,zK [1,4,5,16] [1]),(3,zK [2,3] []),(4,zK [1,6,7] [1,6,7]),(5,zK [6,7,8] [6,7,24]),(6,zK [6,7,8,26,27] [6,7,24]),(7,zK [6,7,8,26,27,28] [6,7,24]),(8,zK [6,7,8,9,26,27] [6,7,24]),(9,zK [6,7,8,26,27] [6,7,24]),(10,zK [6,7,8,26,27] [6,7,24]),(11,zK [2,3] [24])],
 [(7,zK [6,7,8,26,27] [6,7,24])],
 [],
 [],[]⟩
abbrev R26:=((Sl Span)×Int)
abbrev e26 (r:R26):List PA:=[.one (.sl r.1.len 2 (λ i=>za7 (r.1.get i))),.one (.int .i64 r.2)]
@[irreducible] def z26:=ptF Tryd.prog G26 zE3 Tryd.f26
def zCZ (n:Net) (zcL:Int) (zdm:(Sl Span)) (tot0:Tab) (fromt0:Tab) (zf9:Nat->List PV):St:=⟨[(6,zp 6 0),(7,zp 7 0),(8,zv 24),(26,zI (n.Nodes.toNat:Int)),(27,zI zcL)],[(6,.box 116 (zm (zac tot0))),(7,.box 116 (zm (zac fromt0))),(24,.vec 43 2 16 zdm.len zf9)],[]⟩
abbrev zIA (K:List PA->Prop) (n:Net) (X:St->Prop) (P:Int->(Sl Span)->Tab->Tab->Bool) (S:Int->(Sl Span)->Tab->Tab->((Sl Span)×Int)):Prop:=∀ ⦃zcL:Int⦄ ⦃zdm:(Sl Span)⦄ ⦃tot0:Tab⦄ ⦃fromt0:Tab⦄ ⦃zf9:Nat->List PV⦄,P zcL zdm tot0 fromt0=true->K (e26 (S zcL zdm tot0 fromt0))->zf9=zg za7 zdm->X (zCZ n zcL zdm tot0 fromt0 zf9)
section
variable {K:List PA->Prop}{n:Net}{zcL:Int}{zdm:(Sl Span)}{tot0:Tab}{fromt0:Tab}{zf9:Nat->List PV}{X0:St->Prop}{P0:Int->(Sl Span)->Tab->Tab->Bool}{S0:Int->(Sl Span)->Tab->Tab->((Sl Span)×Int)}
def ziS (n:Net) (S0:Int->(Sl Span)->Tab->Tab->((Sl Span)×Int)) (zcL:Int) (zdm:(Sl Span)) (tot0:Tab) (fromt0:Tab):((Sl Span)×Int) :=
  (cond (decide (zcL < (n.Nodes.toNat : Int)))
 (S0 (w64 (zcL+(1:Int))) (⟨zdm.len,(setT zcL.toNat (⟨(w64 (0 - (tg 80 tot0 (0+zcL.toNat * 2+0)))),(tg 80 fromt0 (0+zcL.toNat * 2+0))⟩:Span) zdm.get)⟩:Sl Span) tot0 fromt0)
 (zdm,(0:Int)))
def ziT (n:Net) (P0:Int->(Sl Span)->Tab->Tab->Bool) (zcL:Int) (zdm:(Sl Span)) (tot0:Tab) (fromt0:Tab):Bool :=
  (cond (decide (zcL < (n.Nodes.toNat : Int)))
 (decide ((0≤zcL/\zcL < (40:Int))) &&
 (decide ((0≤zcL/\zcL < (40:Int))) &&
 (decide ((0≤zcL/\zcL < (zdm.len:Int))) &&
 (decide ((zcL.toNat < zdm.len)) &&
 (P0 (w64 (zcL+(1:Int))) (⟨zdm.len,(setT zcL.toNat (⟨(w64 (0 - (tg 80 tot0 (0+zcL.toNat * 2+0)))),(tg 80 fromt0 (0+zcL.toNat * 2+0))⟩:Span) zdm.get)⟩:Sl Span) tot0 fromt0)))))
 true)
def zhw (n:Net):Nat->Int->(Sl Span)->Tab->Tab->((Sl Span)×Int):=lpO (λ _ _ _ _=>default) (ziS n)
def zhx (n:Net):Nat->Int->(Sl Span)->Tab->Tab->Bool:=lpO (λ _ _ _ _=>false) (ziT n)
def zxA (n:Net) (zcL:Int) (zdm:(Sl Span)) (tot0:Tab) (fromt0:Tab):((Sl Span)×Int):=zhw n Fuel zcL zdm tot0 fromt0
def zrN (n:Net) (zcL:Int) (zdm:(Sl Span)) (tot0:Tab) (fromt0:Tab):Bool:=zhx n Fuel zcL zdm tot0 fromt0
theorem zE4 (hs:zrN n zcL zdm tot0 fromt0=true) (hk:K (e26 (zxA n zcL zdm tot0 fromt0))) (zrO:zf9=zg za7 zdm):z26 (Wk K) [1,1,1,1,1,0,1,0] [] (zCZ n zcL zdm tot0 fromt0 zf9) :=
  zl (λ X=>z26 (Wk K) [1,1,1,1,1,0,1,0,0] [X]) (by kernel_rfl) λ X0 hX =>
  (show ∀ k, zIA K n X0 (zhx n k) (zhw n k) from ziH _ _ (ziT n) (ziS n) (zIA K n X0)
 (by intro _ _ _ _ _ hs;exact absurd hs Bool.false_ne_true)
 (by intro P0 S0 hX0 zcL zdm tot0 fromt0 zf9 hs hk zrO;subst zrO;exact hX _ (zbk (by kernel_rfl) (zc hs hk (λ hs hk=>(zaX hs λ hc hs=>And.intro hc (zaX hs λ hc hs=>And.intro hc (zaX hs λ hc hs=>And.intro hc (zaX hs λ hc hs=>And.intro hc (hX0 hs hk (zfH (enc:=za7) (i:=zcL.toNat) (k:=0) (f:=zdm.get) (new:=(za7 (⟨(w64 (0 - (tg 80 tot0 (0+zcL.toNat * 2+0)))),(tg 80 fromt0 (0+zcL.toNat * 2+0))⟩:Span))) (v:=(⟨(w64 (0 - (tg 80 tot0 (0+zcL.toNat * 2+0)))),(tg 80 fromt0 (0+zcL.toNat * 2+0))⟩:Span)) rfl rfl))))))) (λ hs hk=>((zg5 hk):Wk K [.one (.sl zdm.len 2 (λ i=>za7 (zdm.get i))),.one (.int .i64 (0:Int))])))))) _ hs hk zrO
def s26 (n:Net):((Sl Span)×Int) :=
  (cond ((s74 n (⟨0, λ _ => default⟩ : (Sl Int))).2 == 0)
 (cond ((0:Int) != (0:Int))
 ((⟨0,λ _=>default⟩:(Sl Span)),(0:Int))
 (zxA n (0:Int) (⟨n.Nodes.toNat,(λ _=>(⟨(0:Int),(0:Int)⟩:Span))⟩:Sl Span) (s75 (⟨(s74 n (⟨0,λ _=>default⟩:(Sl Int))).1.Net,((s74 n (⟨0,λ _=>default⟩:(Sl Int))).1.out)⟩:web) (0:Int)) (s76 (⟨(s74 n (⟨0,λ _=>default⟩:(Sl Int))).1.Net,((s74 n (⟨0,λ _=>default⟩:(Sl Int))).1.out)⟩:web) (0:Int))))
 (cond ((s74 n (⟨0, λ _ => default⟩ : (Sl Int))).2 != (0:Int))
 ((⟨0,λ _=>default⟩:(Sl Span)),(s74 n (⟨0,λ _=>default⟩:(Sl Int))).2)
 default))
def p26 (n:Net):Bool :=
  (cond ((s74 n (⟨0, λ _ => default⟩ : (Sl Int))).2 == 0)
 (decide ((p74 n (⟨0,λ _=>default⟩:(Sl Int))=true)) &&
 (cond ((0:Int) != (0:Int))
 true
 (decide ((p75 (⟨(s74 n (⟨0,λ _=>default⟩:(Sl Int))).1.Net,((s74 n (⟨0,λ _=>default⟩:(Sl Int))).1.out)⟩:web) (0:Int)=true)) &&
 (decide ((p76 (⟨(s74 n (⟨0,λ _=>default⟩:(Sl Int))).1.Net,((s74 n (⟨0,λ _=>default⟩:(Sl Int))).1.out)⟩:web) (0:Int)=true)) &&
 (decide ((0≤n.Nodes/\n.Nodes=n.Nodes/\n.Nodes≤1000000)) &&
 (zrN n (0:Int) (⟨n.Nodes.toNat,(λ _=>(⟨(0:Int),(0:Int)⟩:Span))⟩:Sl Span) (s75 (⟨(s74 n (⟨0,λ _=>default⟩:(Sl Int))).1.Net,((s74 n (⟨0,λ _=>default⟩:(Sl Int))).1.out)⟩:web) (0:Int)) (s76 (⟨(s74 n (⟨0,λ _=>default⟩:(Sl Int))).1.Net,((s74 n (⟨0,λ _=>default⟩:(Sl Int))).1.out)⟩:web) (0:Int))))))))
 (decide ((p74 n (⟨0,λ _=>default⟩:(Sl Int))=true)) &&
 (cond ((s74 n (⟨0, λ _ => default⟩ : (Sl Int))).2 != (0:Int))
 true
 false)))
end
theorem q26 (n:Net) (K:List PA->Prop) (hs:p26 n=true) (hk:K (e26 (s26 n))):vcFun Tryd.prog G26 zE3 26 [.agg (enc_24 n)] (Wk K) :=
  zbk (by kernel_rfl) (zc hs hk (λ hs hk=>(zaX hs λ hc hs=>And.intro (And.intro (zE enc_40 4 n.Ties.get) hc) (zc hs hk (λ hs hk=>((wk hk (zis (.one (.nil _ _)) (zis (.one (.rfl _)) zpt))):Wk K [.one (.nils),.one (.int .i64 (0:Int))])) (λ hs hk=>(zaX hs λ hc hs=>And.intro (And.intro (zE enc_40 4 ((s74 n (⟨0,λ _=>default⟩:(Sl Int))).1.Net.Ties.get)) (And.intro (rfl:((false,1,false,[none]):MQ)=(false,1,false,[none])) hc)) (zaX hs λ hc hs=>And.intro (And.intro (zE enc_40 4 ((s74 n (⟨0,λ _=>default⟩:(Sl Int))).1.Net.Ties.get)) (And.intro (rfl:((false,1,false,[none]):MQ)=(false,1,false,[none])) hc)) (zaX hs λ hc hs=>And.intro hc (zE4 hs hk rfl)))))))) (λ hs hk=>(zaX hs λ hc hs=>And.intro (And.intro (zE enc_40 4 n.Ties.get) hc) (zc hs hk (λ hs hk=>((wk hk (zis (.one (.nil _ _)) (zis (.one (.rfl _)) zpt))):Wk K [.one (.nils),.one (.int .i64 ((s74 n (⟨0,λ _=>default⟩:(Sl Int))).2))])) (λ hs hk=>(absurd hs Bool.false_ne_true:False))))))
def zBO : List PA -> COut
  | [.agg [.int .i64 zaj,.sl zaf zaB zae]]=>.det (IsE enc_40 4 zaB zae/\p26 (⟨zaj,(⟨zaf,zar zae⟩:(Sl Tie))⟩:Net)=true) [.one (.sl (((s26 (⟨zaj,(⟨zaf,zar zae⟩:(Sl Tie))⟩:Net)).1).len) 2 (λ i=>za7 (((s26 (⟨zaj,(⟨zaf,zar zae⟩:(Sl Tie))⟩:Net)).1).get i))),.one (.int .i64 ((s26 (⟨zaj,(⟨zaf,zar zae⟩:(Sl Tie))⟩:Net)).2))]
  | _=>.no
theorem zIB:zaA Tryd.prog 26:=⟨_,rfl,rfl,by kernel_rfl⟩
theorem zMx:Ok Tryd.prog 26 zBO:=ziG zLj zIB λ args K h=>by
  unfold zBO at h
  split at h
  · rename_i zaj zaf zaB zae
    obtain⟨⟨⟨rfl,zat,rfl⟩,hs⟩,hk⟩:=h
    try rw[zao zat] at hs
    try rw[zao zat] at hk
    exact⟨_,zf5 zg4 _,(λ _ _=>[]),(λ _=>false),zE3,q26 (⟨zaj,(⟨zaf,zat⟩:(Sl Tie))⟩:Net) K hs hk⟩
  · exact h.elim
abbrev T32:Tabs:=Tabs.nil
theorem zLk:TabsOk Tryd.prog T32:=TabsOk.nil
abbrev G32:Ctrs:=csm T32 (λ _ _=>[]) (λ _=>false)
def zE5:Ann:=⟨26,[(0,zK [0,1] []),(1,zK [0,1,10] []),(2,zK [4] []),(3,zK [0,1,5] []),(4,zK [0,1,5,14] []),(5,zK [0,1,5] []),(6,zK [0,1,5,25] []),(7,zK [4] []),(8,zK [4] [])],
 [(4,zK [0,1,5] [])],
 [(3,zK [0,1] [])],
 [],[]⟩
abbrev R32:=Bool
abbrev e32 (r:R32):List PA:=[.one (.bool r)]
@[irreducible] def z32:=ptF Tryd.prog G32 zE5 Tryd.f32
def zC0 (a:(Sl Span)) (b:(Sl Span)) (iv1:Int):St:=⟨[(0,zS za7 2 a),(1,zS za7 2 b),(5,zI iv1)],[],[]⟩
abbrev zIC (K:List PA->Prop) (a:(Sl Span)) (b:(Sl Span)) (X:St->Prop) (P:Int->Bool) (S:Int->Bool):Prop:=∀ ⦃iv1:Int⦄,P iv1=true->K (e32 (S iv1))->X (zC0 a b iv1)
section
variable {K:List PA->Prop}{a:(Sl Span)}{b:(Sl Span)}{iv1:Int}{X1:St->Prop}{P1:Int->Bool}{S1:Int->Bool}
def ziU (a:(Sl Span)) (b:(Sl Span)) (S1:Int->Bool) (iv1:Int):Bool :=
  (cond (decide (iv1 < (a.len : Int)))
 (cond (!(match ((a.get iv1.toNat).Low == (b.get iv1.toNat).Low) with | true => (match ((a.get iv1.toNat).High == (b.get iv1.toNat).High) with | true => true | false => false) | false => false))
 false
 (S1 (w64 (iv1+(1:Int)))))
 true)
def ziV (a:(Sl Span)) (b:(Sl Span)) (P1:Int->Bool) (iv1:Int):Bool :=
  (cond (decide (iv1 < (a.len : Int)))
 (decide ((0≤iv1/\iv1 < (a.len:Int))) &&
 (decide ((0≤iv1/\iv1 < (b.len:Int))) &&
 (cond (!(match ((a.get iv1.toNat).Low == (b.get iv1.toNat).Low) with | true => (match ((a.get iv1.toNat).High == (b.get iv1.toNat).High) with | true => true | false => false) | false => false))
 true
 (P1 (w64 (iv1+(1:Int)))))))
 true)
def ziW (a:(Sl Span)) (b:(Sl Span)):Nat->Int->Bool:=lpO (λ _=>default) (ziU a b)
def ziX (a:(Sl Span)) (b:(Sl Span)):Nat->Int->Bool:=lpO (λ _=>false) (ziV a b)
def zxB (a:(Sl Span)) (b:(Sl Span)) (iv1:Int):Bool:=ziW a b Fuel iv1
def zxC (a:(Sl Span)) (b:(Sl Span)) (iv1:Int):Bool:=ziX a b Fuel iv1
theorem zE6 (hs:zxC a b iv1=true) (hk:K (e32 (zxB a b iv1))):z32 K [1,1,0,1,0] [] (zC0 a b iv1) :=
  zl (λ X=>z32 K [1,1,0,1,0,0] [X]) (by kernel_rfl) λ X1 hX =>
  (show ∀ k, zIC K a b X1 (ziX a b k) (ziW a b k) from ziH _ _ (ziV a b) (ziU a b) (zIC K a b X1)
 (by intro _ hs;exact absurd hs Bool.false_ne_true)
 (by intro P1 S1 hX1 iv1 hs hk;exact hX _ (zbk (by kernel_rfl) (zc hs hk (λ hs hk=>(zaX hs λ hc hs=>And.intro hc (zaX hs λ hc hs=>And.intro hc (zc hs hk (λ hs hk=>hk) (λ hs hk=>(hX1 hs hk)))))) (λ hs hk=>hk))))) _ hs hk
def zxD (a:(Sl Span)) (b:(Sl Span)):Bool :=
  (zxB a b (0:Int))
def zxE (a:(Sl Span)) (b:(Sl Span)):Bool :=
  (zxC a b (0:Int))
theorem zE7 (hs:zxE a b=true) (hk:K (e32 (zxD a b))):z32 K [1,1] [] ⟨[(0,zS za7 2 a),(1,zS za7 2 b)],[],[]⟩:=zbk (by kernel_rfl) (zE6 hs hk)
def s32 (a:(Sl Span)) (b:(Sl Span)):Bool :=
  (cond ((a.len : Int) != (b.len : Int))
 false
 (zxD a b))
def p32 (a:(Sl Span)) (b:(Sl Span)):Bool :=
  (cond ((a.len : Int) != (b.len : Int))
 true
 (zxE a b))
end
theorem q32 (a:(Sl Span)) (b:(Sl Span)) (K:List PA->Prop) (hs:p32 a b=true) (hk:K (e32 (s32 a b))):vcFun Tryd.prog G32 zE5 32 [.one (.sl a.len 2 (λ i=>za7 (a.get i))),.one (.sl b.len 2 (λ i=>za7 (b.get i)))] K :=
  zbk (by kernel_rfl) (zc hs hk (λ hs hk=>hk) (λ hs hk=>(zE7 hs hk)))
def zBP : List PA -> COut
  | [.one (.sl zga zmU zgb),.one (.sl zgX zoC zgI)]=>.det (IsE za7 2 zmU zgb/\IsE za7 2 zoC zgI/\p32 (⟨zga,zf6 zgb⟩:(Sl Span)) (⟨zgX,zf6 zgI⟩:(Sl Span))=true) [.one (.bool (s32 (⟨zga,zf6 zgb⟩:(Sl Span)) (⟨zgX,zf6 zgI⟩:(Sl Span))))]
  | _=>.no
theorem zID:zaA Tryd.prog 32:=⟨_,rfl,rfl,by kernel_rfl⟩
theorem ok32:Ok Tryd.prog 32 zBP:=zbH zLk zID λ args K h=>by
  unfold zBP at h
  split at h
  · rename_i zga zmU zgb zgX zoC zgI
    obtain⟨⟨⟨rfl,ziY,rfl⟩,⟨rfl,zld,rfl⟩,hs⟩,hk⟩:=h
    try rw[zfo ziY] at hs
    try rw[zfo ziY] at hk
    try rw[zfo zld] at hs
    try rw[zfo zld] at hk
    exact⟨(λ _ _=>[]),(λ _=>false),zE5,q32 (⟨zga,ziY⟩:(Sl Span)) (⟨zgX,zld⟩:(Sl Span)) K hs hk⟩
  · exact h.elim
abbrev zMy:Tabs:=(((Tabs.nil.addF 93 zpv).addF 104 zpB).addI 110 zpx)
theorem zIE:TabsOk Tryd.prog zMy:=(((TabsOk.nil.addF zHq).addF zEQ).addI zvc)
abbrev zfS:Ctrs:=csm zMy (λ _ _=>[]) (λ _=>false)
def zbj:Ann:=⟨91,[(0,zK [0,2,4] [4]),(1,zK [0,2,4,7] [4,7,15]),(2,zK [0,2,4,7,17,18] [4,7,15]),(3,zK [0,2,4,7,17,18,19] [4,7,15]),(4,zK [0,2,4,7,8,17,18] [4,7,15]),(5,zK [0,2,4,7,8,17,18,21] [4,7,15]),(6,zK [0,2,4,7,8,17,18,21,22] [4,7,15]),(7,zK [0,2,4,7,8,9,17,18,21] [4,7,15]),(8,zK [0,2,4,7,8,17,18,21] [4,7,15]),(9,zK [0,2,4,7,8,17,18,21] [4,7,15]),(10,zK [0,2,4,7,17,18] [4,7,15]),(11,zK [0,2,4,7] [4,7,15]),(12,zK [0,2,4,7,10] [4,7,10,15]),(13,zK [0,2,4,7,10,39] [4,7,10,15]),(14,zK [0,2,4,7,10] [4,7,10,15]),(15,zK [0,2,4,7,10,43] [4,7,10,15]),(16,zK [0,2,4,7,10,11,43] [4,7,10,11,15]),(17,zK [0,2,4,7,10,11,12,43] [4,7,10,11,12,15]),(18,zK [0,2,4,7,10,11,12,43,67] [4,7,10,11,12,15]),(19,zK [0,2,4,7,10,43] [4,7,10,15]),(20,zK [0,2,4,7,89] [4,7,15]),(21,zK [0,2,4,7,10] [4,7,10,15]),(22,zK [6] [15])],
 [(3,zK [0,2,4,7,17,18] [4,7,15]),(6,zK [0,2,4,7,8,17,18,21] [4,7,15]),(13,zK [0,2,4,7,10] [4,7,10,15]),(16,zK [0,2,4,7,10,43] [4,7,10,15])],
 [(11,zK [0,2,4,7] [4,7,15])],
 [],[]⟩
def zgc (w:web) (node:Int) (uses:Int) (zb7:Int) (zgd:Nat) (zcq:Nat->List PV):St:=⟨[(0,.one (.c (.p (.fp (zaD w) 0)))),(2,.one (.c (.p (.int .i64 uses)))),(4,.one (.c (.ptr 4 0))),(7,.one (.c (.ptr 7 0))),(17,.one (.c (.p (.int .i64 ((w64 (uses+(1:Int))).toNat:Int))))),(18,.one (.c (.p (.int .i64 zb7))))],[(4,.box 3 [.p (.int .i64 node)]),(7,.box 159 [.vec 15]),(15,.vec 116 80 640 zgd zcq)],[]⟩
def zh6 (K:List PA->Prop) (w:web) (node:Int) (uses:Int) (zb7:Int) (zgd:Nat) (zcq:Nat->List PV):Prop:=vc Tryd.prog zfS zbj (cdF Tryd.f106 [1,1,0,1,0]) (zas 0 (sqK Tryd.prog zfS zbj (cdF Tryd.f106 [1,1,1]) (zbp Tryd.prog Tryd.f106 K))) (zgc w node uses zb7 zgd zcq)
def zhy (w:web) (node:Int) (uses:Int) (iv1:Int) (zb1:Int) (zbT:Int) (zge:Nat) (zbW:Nat->List PV):St:=⟨[(0,.one (.c (.p (.fp (zaD w) 0)))),(2,.one (.c (.p (.int .i64 uses)))),(4,.one (.c (.ptr 4 0))),(7,.one (.c (.ptr 7 0))),(8,.one (.c (.p (.int .i64 iv1)))),(17,.one (.c (.p (.int .i64 ((w64 (uses+(1:Int))).toNat:Int))))),(18,.one (.c (.p (.int .i64 zb1)))),(21,.one (.c (.p (.int .i64 zbT))))],[(4,.box 3 [.p (.int .i64 node)]),(7,.box 159 [.vec 15]),(15,.vec 116 80 640 zge zbW)],[]⟩
def zh7 (K:List PA->Prop) (X0:St->Prop) (w:web) (node:Int) (uses:Int) (iv1:Int) (zb1:Int) (zbT:Int) (zge:Nat) (zbW:Nat->List PV):Prop:=vc Tryd.prog zfS zbj (cdF Tryd.f106 [1,1,0,1,0,0,1,1,0,0,1,1,0]) (zas 2 (zas 1 (sqK Tryd.prog zfS zbj (cdF Tryd.f106 [1,1,0,1,0,0,1,1,1]) (zbr Tryd.prog zbj 3 X0 (zas 0 (sqK Tryd.prog zfS zbj (cdF Tryd.f106 [1,1,1]) (zbp Tryd.prog Tryd.f106 K))))))) (zhy w node uses iv1 zb1 zbT zge zbW)
def zE8 (w:web) (node:Int) (uses:Int) (zrP:Nat) (zfy:Nat->List PV):St:=⟨[(0,.one (.c (.p (.fp (zaD w) 0)))),(2,.one (.c (.p (.int .i64 uses)))),(4,.one (.c (.ptr 4 0))),(7,.one (.c (.ptr 7 0)))],[(4,.box 3 [.p (.int .i64 node)]),(7,.box 159 [.vec 15]),(15,.vec 116 80 640 zrP zfy)],[]⟩
def zj0 (K:List PA->Prop) (w:web) (node:Int) (uses:Int) (zrP:Nat) (zfy:Nat->List PV):Prop:=vc Tryd.prog zfS zbj (cdF Tryd.f106 [1,1,1]) (zbp Tryd.prog Tryd.f106 K) (zE8 w node uses zrP zfy)
def zgf (w:web) (node:Int) (uses:Int) (kv3:Int) (zgg:Nat) (zbL:Nat->List PV):St:=⟨[(0,.one (.c (.p (.fp (zaD w) 0)))),(2,.one (.c (.p (.int .i64 uses)))),(4,.one (.c (.ptr 4 0))),(7,.one (.c (.ptr 7 0))),(10,.one (.c (.ptr 10 0)))],[(4,.box 3 [.p (.int .i64 node)]),(7,.box 159 [.vec 15]),(10,.box 3 [.p (.int .i64 kv3)]),(15,.vec 116 80 640 zgg zbL)],[]⟩
def zh8 (K:List PA->Prop) (w:web) (node:Int) (uses:Int) (kv3:Int) (zgg:Nat) (zbL:Nat->List PV):Prop:=vc Tryd.prog zfS zbj (cdF Tryd.f106 [1,1,1,1,0,1,0]) (zas 4 (sqK Tryd.prog zfS zbj (cdF Tryd.f106 [1,1,1,1,1]) (zbp Tryd.prog Tryd.f106 K))) (zgf w node uses kv3 zgg zbL)
def zdI (w:web) (node:Int) (uses:Int) (kv4:Int) (zgh:Nat) (zbX:Nat->List PV):St:=⟨[(0,.one (.c (.p (.fp (zaD w) 0)))),(2,.one (.c (.p (.int .i64 uses)))),(4,.one (.c (.ptr 4 0))),(7,.one (.c (.ptr 7 0))),(10,.one (.c (.ptr 10 0))),(43,.one (.c (.p (.fn 110 [] [.fp [.fp (zaD w) 0] 0]))))],[(4,.box 3 [.p (.int .i64 node)]),(7,.box 159 [.vec 15]),(10,.box 3 [.p (.int .i64 kv4)]),(15,.vec 116 80 640 zgh zbX)],[]⟩
def zh9 (K:List PA->Prop) (X3:St->Prop) (w:web) (node:Int) (uses:Int) (kv4:Int) (zgh:Nat) (zbX:Nat->List PV):Prop:=vc Tryd.prog zfS zbj (cdF Tryd.f106 [1,1,1,1,0,1,0,0,1,0,0,1,0]) (zas 6 (zas 5 (sqK Tryd.prog zfS zbj (cdF Tryd.f106 [1,1,1,1,0,1,0,0,1,1]) (zbr Tryd.prog zbj 13 X3 (zas 4 (sqK Tryd.prog zfS zbj (cdF Tryd.f106 [1,1,1,1,1]) (zbp Tryd.prog Tryd.f106 K))))))) (zdI w node uses kv4 zgh zbX)
theorem zBQ (w : web) (node : Int) (uses : Int) (K : List PA -> Prop) :
  vcFun Tryd.prog zfS zbj 106 [.one (.fp (zaD w) 0),.one (.int .i64 node),.one (.int .i64 uses)] K =
  (((0≤(w64 (uses+(1:Int)))/\(w64 (uses+(1:Int)))=(w64 (uses+(1:Int)))/\(w64 (uses+(1:Int)))≤1000000)) /\
 (zh6 K w node uses (0:Int) ((w64 (uses+(1:Int))).toNat) (λ _=>(zac (λ _=>(0:Int)))))):=by kernel_rfl
def zmV (K:List PA->Prop) (X0:St->Prop) (w:web) (node:Int) (uses:Int) (zb7:Int) (zca:(Sl Tab)):Prop :=
  (zbR (decide (zb7 < ((w64 (uses + (1:Int))).toNat : Int)))
 (zh7 K X0 w node uses zb7 zb7 (0:Int) zca.len (λ i=>zac (zca.get i)))
 (zj0 K w node uses zca.len (λ i=>zac (zca.get i))))
theorem zpK (K : List PA -> Prop) (X0 : St -> Prop) (w : web) (node : Int) (uses : Int) (zb7 : Int) (zca : (Sl Tab)) :
  vc Tryd.prog zfS zbj (cd (cdF Tryd.f106 [1,1,0,1,0]) [0]) (zbr Tryd.prog zbj 3 X0 (zas 0 (sqK Tryd.prog zfS zbj (cdF Tryd.f106 [1,1,1]) (zbp Tryd.prog Tryd.f106 K)))) (zgc w node uses zb7 zca.len (λ i=>zac (zca.get i))) =
  zmV K X0 w node uses zb7 zca:=by kernel_rfl
theorem zvg (K : List PA -> Prop) (w : web) (node : Int) (uses : Int) (zb7 : Int) (zgd : Nat) (zcq : Nat -> List PV)
  (h:∀ X0:St->Prop,(∀ (zb7:Int) (zca:(Sl Tab)),zmV K X0 w node uses zb7 zca->X0 (zgc w node uses zb7 zca.len (λ i=>zac (zca.get i))))->X0 (zgc w node uses zb7 zgd zcq)) :
  zh6 K w node uses zb7 zgd zcq:=by
  have e:zh6 K w node uses zb7 zgd zcq=(∀ X:St->Prop,(∀ s,vc Tryd.prog zfS zbj (cd (cdF Tryd.f106 [1,1,0,1,0]) [0]) (zbr Tryd.prog zbj 3 X (zas 0 (sqK Tryd.prog zfS zbj (cdF Tryd.f106 [1,1,1]) (zbp Tryd.prog Tryd.f106 K)))) s->X s)->X (zgc w node uses zb7 zgd zcq)):=by kernel_rfl
  refine zbk e ?_
  intro X hX
  refine h X ?_
  intro zb7 zca hs
  refine hX _ ?_
  have e2:=zpK K X w node uses zb7 zca
  rw[e2]
  exact hs
def zmW (K:List PA->Prop) (X0:St->Prop) (X1:St->Prop) (w:web) (node:Int) (uses:Int) (iv1:Int) (zb1:Int) (zbT:Int) (za6:(Sl Tab)):Prop :=
  (zbR (decide (zbT < (40:Int)))
 (((0≤iv1/\iv1 < (za6.len:Int))) /\
 (((0≤zbT/\zbT < (40:Int))) /\
 (((iv1.toNat < za6.len)) /\
 (X1 (zhy w node uses iv1 zb1 (w64 (zbT+(1:Int))) za6.len (zjP iv1.toNat 0 (λ i=>zac (za6.get i)) (zac (ts 80 (za6.get iv1.toNat) (0+zbT.toNat * 2+0) [(1000000000000:Int),(0:Int)]))))))))
 (X0 (zgc w node uses (w64 (zb1+(1:Int))) za6.len (λ i=>zac (za6.get i)))))
theorem zpL (K : List PA -> Prop) (X0 : St -> Prop) (X1 : St -> Prop) (w : web) (node : Int) (uses : Int) (iv1 : Int) (zb1 : Int) (zbT : Int) (za6 : (Sl Tab)) :
  vc Tryd.prog zfS zbj (cd (cdF Tryd.f106 [1,1,0,1,0,0,1,1,0,0,1,1,0]) [0]) (zbr Tryd.prog zbj 6 X1 (zas 2 (zas 1 (sqK Tryd.prog zfS zbj (cdF Tryd.f106 [1,1,0,1,0,0,1,1,1]) (zbr Tryd.prog zbj 3 X0 (zas 0 (sqK Tryd.prog zfS zbj (cdF Tryd.f106 [1,1,1]) (zbp Tryd.prog Tryd.f106 K)))))))) (zhy w node uses iv1 zb1 zbT za6.len (λ i=>zac (za6.get i))) =
  zmW K X0 X1 w node uses iv1 zb1 zbT za6:=by kernel_rfl
theorem zvh (K : List PA -> Prop) (X0 : St -> Prop) (w : web) (node : Int) (uses : Int) (iv1 : Int) (zb1 : Int) (zbT : Int) (zge : Nat) (zbW : Nat -> List PV)
  (h:∀ X1:St->Prop,(∀ (iv1:Int) (zb1:Int) (zbT:Int) (za6:(Sl Tab)),zmW K X0 X1 w node uses iv1 zb1 zbT za6->X1 (zhy w node uses iv1 zb1 zbT za6.len (λ i=>zac (za6.get i))))->X1 (zhy w node uses iv1 zb1 zbT zge zbW)) :
  zh7 K X0 w node uses iv1 zb1 zbT zge zbW:=by
  have e:zh7 K X0 w node uses iv1 zb1 zbT zge zbW=(∀ X:St->Prop,(∀ s,vc Tryd.prog zfS zbj (cd (cdF Tryd.f106 [1,1,0,1,0,0,1,1,0,0,1,1,0]) [0]) (zbr Tryd.prog zbj 6 X (zas 2 (zas 1 (sqK Tryd.prog zfS zbj (cdF Tryd.f106 [1,1,0,1,0,0,1,1,1]) (zbr Tryd.prog zbj 3 X0 (zas 0 (sqK Tryd.prog zfS zbj (cdF Tryd.f106 [1,1,1]) (zbp Tryd.prog Tryd.f106 K)))))))) s->X s)->X (zhy w node uses iv1 zb1 zbT zge zbW)):=by kernel_rfl
  refine zbk e ?_
  intro X hX
  refine h X ?_
  intro iv1 zb1 zbT za6 hs
  refine hX _ ?_
  have e2:=zpL K X0 X w node uses iv1 zb1 zbT za6
  rw[e2]
  exact hs
theorem zBR (K : List PA -> Prop) (w : web) (node : Int) (uses : Int) (zci : (Sl Tab)) :
  zj0 K w node uses zci.len (λ i=>zac (zci.get i)) =
  (((0≤(0:Int)/\(0:Int) < (zci.len:Int))) /\
 (((0≤node/\node < (40:Int))) /\
 (((0 < zci.len)) /\
 (zh8 K w node uses (1:Int) zci.len (zjP 0 0 (λ i=>zac (zci.get i)) (zac (ts 80 (zci.get 0) (0+node.toNat * 2+0) [(0:Int),(0:Int)]))))))):=by kernel_rfl
def zmX (K:List PA->Prop) (X3:St->Prop) (w:web) (node:Int) (uses:Int) (kv3:Int) (zbw:(Sl Tab)):Prop :=
  (zbR (decide (kv3 ≤ uses))
 ((IsE enc_40 4 4 (λ i=>enc_40 (w.Net.Ties.get i))/\((false,1,false,[none]):MQ)=(false,1,false,[none])) /\
 (zh9 K X3 w node uses kv3 zbw.len (λ i=>zac (zbw.get i))))
 (K [.one (.sl zbw.len 80 (λ i=>zac (zbw.get i)))]))
theorem zpM (K : List PA -> Prop) (X3 : St -> Prop) (w : web) (node : Int) (uses : Int) (kv3 : Int) (zbw : (Sl Tab)) :
  vc Tryd.prog zfS zbj (cd (cdF Tryd.f106 [1,1,1,1,0,1,0]) [0]) (zbr Tryd.prog zbj 13 X3 (zas 4 (sqK Tryd.prog zfS zbj (cdF Tryd.f106 [1,1,1,1,1]) (zbp Tryd.prog Tryd.f106 K)))) (zgf w node uses kv3 zbw.len (λ i=>zac (zbw.get i))) =
  zmX K X3 w node uses kv3 zbw:=by kernel_rfl
theorem zvi (K : List PA -> Prop) (w : web) (node : Int) (uses : Int) (kv3 : Int) (zgg : Nat) (zbL : Nat -> List PV)
  (h:∀ X3:St->Prop,(∀ (kv3:Int) (zbw:(Sl Tab)),zmX K X3 w node uses kv3 zbw->X3 (zgf w node uses kv3 zbw.len (λ i=>zac (zbw.get i))))->X3 (zgf w node uses kv3 zgg zbL)) :
  zh8 K w node uses kv3 zgg zbL:=by
  have e:zh8 K w node uses kv3 zgg zbL=(∀ X:St->Prop,(∀ s,vc Tryd.prog zfS zbj (cd (cdF Tryd.f106 [1,1,1,1,0,1,0]) [0]) (zbr Tryd.prog zbj 13 X (zas 4 (sqK Tryd.prog zfS zbj (cdF Tryd.f106 [1,1,1,1,1]) (zbp Tryd.prog Tryd.f106 K)))) s->X s)->X (zgf w node uses kv3 zgg zbL)):=by kernel_rfl
  refine zbk e ?_
  intro X hX
  refine h X ?_
  intro kv3 zbw hs
  refine hX _ ?_
  have e2:=zpM K X w node uses kv3 zbw
  rw[e2]
  exact hs
def zmY (K:List PA->Prop) (X3:St->Prop) (w:web) (node:Int) (uses:Int) (kv4:Int) (zau:(Sl Tab)):Prop :=
  (X3 (zgf w node uses (w64 (kv4+(1:Int))) zau.len (λ i=>zac (zau.get i))))
def zmZ (K:List PA->Prop) (X3:St->Prop) (X4:List (List PA)->St->Prop) (y4:step) (rest4:List (List PA)) (w:web) (node:Int) (uses:Int) (kv4:Int) (zau:(Sl Tab)):Prop :=
  (((0≤(w64 (kv4 - (1:Int)))/\(w64 (kv4 - (1:Int))) < (zau.len:Int))) /\
 (((0≤y4.to/\y4.to < (40:Int))) /\
 ((((w64 (kv4 - (1:Int))).toNat < zau.len)) /\
 (zbR (decide (y4.from_ ≥ node))
 (zbR (decide (y4.to ≥ node))
 (zbR (!(nvr (tg 80 (zau.get ((w64 (kv4 - (1:Int))).toNat)) (0 + y4.to.toNat * 2 + 0)) (tg 80 (zau.get ((w64 (kv4 - (1:Int))).toNat)) (0 + y4.to.toNat * 2 + 0 + 1))))
 (((0≤kv4/\kv4 < (zau.len:Int))) /\
 (((0≤y4.from_/\y4.from_ < (40:Int))) /\
 (((kv4.toNat < zau.len)) /\
 ((IsE zcF 2 2 (λ _=>(zcF (⟨(w64 ((tg 80 (zau.get ((w64 (kv4 - (1:Int))).toNat)) (0+y4.to.toNat * 2+0))+y4.length)),(0:Int)⟩:far)))/\(zvv (⟨(tL (zau.get kv4.toNat) y4.from_),(tU (zau.get kv4.toNat) y4.from_)⟩:far) (⟨1,λ _=>(⟨(w64 ((tg 80 (zau.get ((w64 (kv4 - (1:Int))).toNat)) (0+y4.to.toNat * 2+0))+y4.length)),(0:Int)⟩:far)⟩:(Sl far))=true)) /\
 (((0≤kv4/\kv4 < (zau.len:Int))) /\
 (((0≤y4.from_/\y4.from_ < (40:Int))) /\
 (((kv4.toNat < zau.len)) /\
 (X4 rest4 (zdI w node uses kv4 zau.len (zjP kv4.toNat 0 (λ i=>zac (zau.get i)) (zac (ts 80 (zau.get kv4.toNat) (0+y4.from_.toNat * 2+0) [(zch (⟨(tL (zau.get kv4.toNat) y4.from_),(tU (zau.get kv4.toNat) y4.from_)⟩:far) (⟨1,λ _=>(⟨(w64 ((tg 80 (zau.get ((w64 (kv4 - (1:Int))).toNat)) (0+y4.to.toNat * 2+0))+y4.length)),(0:Int)⟩:far)⟩:(Sl far))).length,(zch (⟨(tL (zau.get kv4.toNat) y4.from_),(tU (zau.get kv4.toNat) y4.from_)⟩:far) (⟨1,λ _=>(⟨(w64 ((tg 80 (zau.get ((w64 (kv4 - (1:Int))).toNat)) (0+y4.to.toNat * 2+0))+y4.length)),(0:Int)⟩:far)⟩:(Sl far))).uses]))))))))))))
 (X4 rest4 (zdI w node uses kv4 zau.len (λ i=>zac (zau.get i)))))
 (X4 rest4 (zdI w node uses kv4 zau.len (λ i=>zac (zau.get i)))))
 (X4 rest4 (zdI w node uses kv4 zau.len (λ i=>zac (zau.get i))))))))
theorem zpN (K:List PA->Prop) (X3:St->Prop) (w:web) (node:Int) (uses:Int) (kv4:Int) (zau:(Sl Tab)):(zas 6 (zas 5 (sqK Tryd.prog zfS zbj (cdF Tryd.f106 [1,1,1,1,0,1,0,0,1,1]) (zbr Tryd.prog zbj 13 X3 (zas 4 (sqK Tryd.prog zfS zbj (cdF Tryd.f106 [1,1,1,1,1]) (zbp Tryd.prog Tryd.f106 K))))))) .normal (zdI w node uses kv4 zau.len (λ i=>zac (zau.get i)))=zmY K X3 w node uses kv4 zau:=by kernel_rfl
theorem zpO (K : List PA -> Prop) (X3 : St -> Prop) (X4 : List (List PA) -> St -> Prop) (y4 : step) (rest4 : List (List PA)) (w : web) (node : Int) (uses : Int) (kv4 : Int) (zau : (Sl Tab)) :
  zvu Tryd.prog zfS zbj 16 [44] (cd (cdF Tryd.f106 [1,1,1,1,0,1,0,0,1,0,0,1,0]) [0]) (cd (cdF Tryd.f106 [1,1,1,1,0,1,0,0,1,0,0,1,0]) [1]) X4 (zas 6 (zas 5 (sqK Tryd.prog zfS zbj (cdF Tryd.f106 [1,1,1,1,0,1,0,0,1,1]) (zbr Tryd.prog zbj 13 X3 (zas 4 (sqK Tryd.prog zfS zbj (cdF Tryd.f106 [1,1,1,1,1]) (zbp Tryd.prog Tryd.f106 K))))))) [.agg (zai y4)] rest4 (zdI w node uses kv4 zau.len (λ i=>zac (zau.get i)))=zmZ K X3 X4 y4 rest4 w node uses kv4 zau:=by kernel_rfl
theorem zvj (K : List PA -> Prop) (X3 : St -> Prop) (w : web) (node : Int) (uses : Int) (kv4 : Int) (zgh : Nat) (zbX : Nat -> List PV)
  (hsafe:IsE enc_40 4 4 (λ i=>enc_40 (w.Net.Ties.get i))/\((false,1,false,[none]):MQ)=(false,1,false,[none])/\(zme w=true)) (h:∀ X4:List (List PA)->St->Prop,(∀ (kv4:Int) (zau:(Sl Tab)),zmY K X3 w node uses kv4 zau->X4 [] (zdI w node uses kv4 zau.len (λ i=>zac (zau.get i))))->(∀ (y:step) (rest:List (List PA)) (kv4:Int) (zau:(Sl Tab)),zmZ K X3 X4 y rest w node uses kv4 zau->X4 ([.agg (zai y)] :: rest) (zdI w node uses kv4 zau.len (λ i=>zac (zau.get i))))->X4 ((zit w).map λ y=>[.agg (zai y)]) (zdI w node uses kv4 zgh zbX)) :
  zh9 K X3 w node uses kv4 zgh zbX:=by
  have e:zh9 K X3 w node uses kv4 zgh zbX=((IsE enc_40 4 4 (λ i=>enc_40 (w.Net.Ties.get i))/\((false,1,false,[none]):MQ)=(false,1,false,[none])/\(zme w=true))/\∀ X:List (List PA)->St->Prop,(∀ s,(zas 6 (zas 5 (sqK Tryd.prog zfS zbj (cdF Tryd.f106 [1,1,1,1,0,1,0,0,1,1]) (zbr Tryd.prog zbj 13 X3 (zas 4 (sqK Tryd.prog zfS zbj (cdF Tryd.f106 [1,1,1,1,1]) (zbp Tryd.prog Tryd.f106 K))))))) .normal s->X [] s)->(∀ y rest s,zvu Tryd.prog zfS zbj 16 [44] (cd (cdF Tryd.f106 [1,1,1,1,0,1,0,0,1,0,0,1,0]) [0]) (cd (cdF Tryd.f106 [1,1,1,1,0,1,0,0,1,0,0,1,0]) [1]) X (zas 6 (zas 5 (sqK Tryd.prog zfS zbj (cdF Tryd.f106 [1,1,1,1,0,1,0,0,1,1]) (zbr Tryd.prog zbj 13 X3 (zas 4 (sqK Tryd.prog zfS zbj (cdF Tryd.f106 [1,1,1,1,1]) (zbp Tryd.prog Tryd.f106 K))))))) y rest s->X (y :: rest) s)->X ((zit w).map λ y=>[.agg (zai y)]) (zdI w node uses kv4 zgh zbX)):=by kernel_rfl
  refine zbk e ⟨hsafe,?_⟩
  intro X h0 h1
  refine h X (λ kv4 zau hs=>h0 _ ?_) (λ y rest kv4 zau hs=>h1 _ rest _ ?_)
  · rw[zpN K X3 w node uses kv4 zau];exact hs
  · have e2 := zpO K X3 X y rest w node uses kv4 zau
    rw[e2];exact hs
abbrev zly (r:(Sl Tab)):List PA:=[.one (.sl r.len 80 (λ i=>zac (r.get i)))]
attribute [irreducible] zh6 zh7 zj0 zh8 zh9
def zn2 (S3:Int->(Sl Tab)->(Sl Tab)) (w:web) (node:Int) (uses:Int) (kv4:Int) (zau:(Sl Tab)):(Sl Tab) :=
  (S3 (w64 (kv4+(1:Int))) zau)
def zn3 (P3:Int->(Sl Tab)->Bool) (w:web) (node:Int) (uses:Int) (kv4:Int) (zau:(Sl Tab)):Bool :=
  (P3 (w64 (kv4+(1:Int))) zau)
def zn4 (S3:Int->(Sl Tab)->(Sl Tab)) (w:web) (node:Int) (uses:Int) (y4:step) (S4:Int->(Sl Tab)->(Sl Tab)) (kv4:Int) (zau:(Sl Tab)):(Sl Tab) :=
  (cond (decide (y4.from_ ≥ node))
 (cond (decide (y4.to ≥ node))
 (cond (!(nvr (tg 80 (zau.get ((w64 (kv4 - (1:Int))).toNat)) (0 + y4.to.toNat * 2 + 0)) (tg 80 (zau.get ((w64 (kv4 - (1:Int))).toNat)) (0 + y4.to.toNat * 2 + 0 + 1))))
 (S4 kv4 (⟨zau.len,(setT kv4.toNat (ts 80 (zau.get kv4.toNat) (0+y4.from_.toNat * 2+0) [(zch (⟨(tL (zau.get kv4.toNat) y4.from_),(tU (zau.get kv4.toNat) y4.from_)⟩:far) (⟨1,λ _=>(⟨(w64 ((tg 80 (zau.get ((w64 (kv4 - (1:Int))).toNat)) (0+y4.to.toNat * 2+0))+y4.length)),(0:Int)⟩:far)⟩:(Sl far))).length,(zch (⟨(tL (zau.get kv4.toNat) y4.from_),(tU (zau.get kv4.toNat) y4.from_)⟩:far) (⟨1,λ _=>(⟨(w64 ((tg 80 (zau.get ((w64 (kv4 - (1:Int))).toNat)) (0+y4.to.toNat * 2+0))+y4.length)),(0:Int)⟩:far)⟩:(Sl far))).uses]) zau.get)⟩:Sl Tab))
 (S4 kv4 zau))
 (S4 kv4 zau))
 (S4 kv4 zau))
def zn5 (P3:Int->(Sl Tab)->Bool) (w:web) (node:Int) (uses:Int) (y4:step) (P4:Int->(Sl Tab)->Bool) (kv4:Int) (zau:(Sl Tab)):Bool :=
  (decide ((0≤(w64 (kv4 - (1:Int)))/\(w64 (kv4 - (1:Int))) < (zau.len:Int))) &&
 (decide ((0≤y4.to/\y4.to < (40:Int))) &&
 (decide (((w64 (kv4 - (1:Int))).toNat < zau.len)) &&
 (cond (decide (y4.from_ ≥ node))
 (cond (decide (y4.to ≥ node))
 (cond (!(nvr (tg 80 (zau.get ((w64 (kv4 - (1:Int))).toNat)) (0 + y4.to.toNat * 2 + 0)) (tg 80 (zau.get ((w64 (kv4 - (1:Int))).toNat)) (0 + y4.to.toNat * 2 + 0 + 1))))
 (decide ((0≤kv4/\kv4 < (zau.len:Int))) &&
 (decide ((0≤y4.from_/\y4.from_ < (40:Int))) &&
 (decide ((kv4.toNat < zau.len)) &&
 (decide ((zvv (⟨(tL (zau.get kv4.toNat) y4.from_),(tU (zau.get kv4.toNat) y4.from_)⟩:far) (⟨1,λ _=>(⟨(w64 ((tg 80 (zau.get ((w64 (kv4 - (1:Int))).toNat)) (0+y4.to.toNat * 2+0))+y4.length)),(0:Int)⟩:far)⟩:(Sl far))=true)) &&
 (decide ((0≤kv4/\kv4 < (zau.len:Int))) &&
 (decide ((0≤y4.from_/\y4.from_ < (40:Int))) &&
 (decide ((kv4.toNat < zau.len)) &&
 (P4 kv4 (⟨zau.len,(setT kv4.toNat (ts 80 (zau.get kv4.toNat) (0+y4.from_.toNat * 2+0) [(zch (⟨(tL (zau.get kv4.toNat) y4.from_),(tU (zau.get kv4.toNat) y4.from_)⟩:far) (⟨1,λ _=>(⟨(w64 ((tg 80 (zau.get ((w64 (kv4 - (1:Int))).toNat)) (0+y4.to.toNat * 2+0))+y4.length)),(0:Int)⟩:far)⟩:(Sl far))).length,(zch (⟨(tL (zau.get kv4.toNat) y4.from_),(tU (zau.get kv4.toNat) y4.from_)⟩:far) (⟨1,λ _=>(⟨(w64 ((tg 80 (zau.get ((w64 (kv4 - (1:Int))).toNat)) (0+y4.to.toNat * 2+0))+y4.length)),(0:Int)⟩:far)⟩:(Sl far))).uses]) zau.get)⟩:Sl Tab)))))))))
 (P4 kv4 zau))
 (P4 kv4 zau))
 (P4 kv4 zau)))))
def zia (S3 : Int -> (Sl Tab) -> (Sl Tab)) (w : web) (node : Int) (uses : Int) : List step -> Int -> (Sl Tab) -> (Sl Tab)
  | []=>zn2 S3 w node uses
  | y :: r=>zn4 S3 w node uses y (zia S3 w node uses r)
def zib (P3 : Int -> (Sl Tab) -> Bool) (w : web) (node : Int) (uses : Int) : List step -> Int -> (Sl Tab) -> Bool
  | []=>zn3 P3 w node uses
  | y :: r=>zn5 P3 w node uses y (zib P3 w node uses r)
def ztK (S3:Int->(Sl Tab)->(Sl Tab)) (w:web) (node:Int) (uses:Int) (kv4:Int) (zau:(Sl Tab)):(Sl Tab):=zia S3 w node uses (zit w) kv4 zau
def zn6 (P3:Int->(Sl Tab)->Bool) (w:web) (node:Int) (uses:Int) (kv4:Int) (zau:(Sl Tab)):Bool:=decide ((zme w=true)) && zib P3 w node uses (zit w) kv4 zau
theorem zBS (K : List PA -> Prop) (w : web) (node : Int) (uses : Int)
  (X3:St->Prop) (P3:Int->(Sl Tab)->Bool) (S3:Int->(Sl Tab)->(Sl Tab))
  (hX3:∀ (kv3:Int) (zbw:(Sl Tab)) (zbL:Nat->List PV) (zeT:zbL=λ i=>zac (zbw.get i)),P3 kv3 zbw=true->K (zly (S3 kv3 zbw))->X3 (zgf w node uses kv3 zbw.len zbL)) (kv4:Int) (zau:(Sl Tab)) (zbX:Nat->List PV) (zeU:zbX=λ i=>zac (zau.get i)) (hs:zn6 P3 w node uses kv4 zau=true) (hk:K (zly (ztK S3 w node uses kv4 zau))):zh9 K X3 w node uses kv4 zau.len zbX:=by
  unfold zn6 at hs
  rw[Bool.and_eq_true] at hs
  obtain⟨hsf,hs⟩:=hs
  have hc:=of_decide_eq_true hsf
  refine zvj K X3 w node uses kv4 zau.len zbX ⟨isE,rfl,hc⟩ ?_
  intro X4 hexit hstep
  have key:∀ (l:List step) (kv4:Int) (zau:(Sl Tab)) (zbX:Nat->List PV) (zeU:zbX=λ i=>zac (zau.get i)),zib P3 w node uses l kv4 zau=true->K (zly (zia S3 w node uses l kv4 zau))->X4 (l.map λ y=>[.agg (zai y)]) (zdI w node uses kv4 zau.len zbX):=by
    intro l
    induction l with
    | nil =>
      intro kv4 zau zbX zeU hs hk
      subst zeU
      refine hexit kv4 zau ?_
      have hs:zn3 P3 w node uses kv4 zau=true:=hs
      have hk:K (zly (zn2 S3 w node uses kv4 zau)):=hk
      unfold zn3 at hs
      unfold zn2 at hk
      exact (hX3 (w64 (kv4+(1:Int))) zau (λ i=>zac (zau.get i)) rfl hs hk)
    | cons y4 l ih =>
      intro kv4 zau zbX zeU hs hk
      subst zeU
      refine hstep y4 _ kv4 zau ?_
      have hs:zn5 P3 w node uses y4 (zib P3 w node uses l) kv4 zau=true:=hs
      have hk:K (zly (zn4 S3 w node uses y4 (zia S3 w node uses l) kv4 zau)):=hk
      unfold zn5 at hs
      unfold zn4 at hk
      generalize zia S3 w node uses l=S4 at hk ih
      generalize zib P3 w node uses l=P4 at hs ih
      have hX4:=ih
      exact (zaX hs λ hc hs => ⟨hc, (zaX hs λ hc hs => ⟨hc, (zaX hs λ hc hs => ⟨hc, (za2 (K := λ r => K (zly r))
 (λ hs hk => (za2 (K := λ r => K (zly r))
 (λ hs hk => (za2 (K := λ r => K (zly r))
 (λ hs hk=>(zaX hs λ hc hs=>⟨hc,(zaX hs λ hc hs=>⟨hc,(zaX hs λ hc hs=>⟨hc,(zaX hs λ hc hs=>⟨⟨zw2,hc⟩,(zaX hs λ hc hs=>⟨hc,(zaX hs λ hc hs=>⟨hc,(zaX hs λ hc hs=>⟨hc,(hX4 kv4 (⟨zau.len,(setT kv4.toNat (ts 80 (zau.get kv4.toNat) (0+y4.from_.toNat * 2+0) [(zch (⟨(tL (zau.get kv4.toNat) y4.from_),(tU (zau.get kv4.toNat) y4.from_)⟩:far) (⟨1,λ _=>(⟨(w64 ((tg 80 (zau.get ((w64 (kv4 - (1:Int))).toNat)) (0+y4.to.toNat * 2+0))+y4.length)),(0:Int)⟩:far)⟩:(Sl far))).length,(zch (⟨(tL (zau.get kv4.toNat) y4.from_),(tU (zau.get kv4.toNat) y4.from_)⟩:far) (⟨1,λ _=>(⟨(w64 ((tg 80 (zau.get ((w64 (kv4 - (1:Int))).toNat)) (0+y4.to.toNat * 2+0))+y4.length)),(0:Int)⟩:far)⟩:(Sl far))).uses]) zau.get)⟩:Sl Tab) (zjP kv4.toNat 0 (λ i=>zac (zau.get i)) (zac (ts 80 (zau.get kv4.toNat) (0+y4.from_.toNat * 2+0) [(zch (⟨(tL (zau.get kv4.toNat) y4.from_),(tU (zau.get kv4.toNat) y4.from_)⟩:far) (⟨1,λ _=>(⟨(w64 ((tg 80 (zau.get ((w64 (kv4 - (1:Int))).toNat)) (0+y4.to.toNat * 2+0))+y4.length)),(0:Int)⟩:far)⟩:(Sl far))).length,(zch (⟨(tL (zau.get kv4.toNat) y4.from_),(tU (zau.get kv4.toNat) y4.from_)⟩:far) (⟨1,λ _=>(⟨(w64 ((tg 80 (zau.get ((w64 (kv4 - (1:Int))).toNat)) (0+y4.to.toNat * 2+0))+y4.length)),(0:Int)⟩:far)⟩:(Sl far))).uses]))) (zfH (enc:=zac) (i:=kv4.toNat) (k:=0) (f:=zau.get) (new:=(zac (ts 80 (zau.get kv4.toNat) (0+y4.from_.toNat * 2+0) [(zch (⟨(tL (zau.get kv4.toNat) y4.from_),(tU (zau.get kv4.toNat) y4.from_)⟩:far) (⟨1,λ _=>(⟨(w64 ((tg 80 (zau.get ((w64 (kv4 - (1:Int))).toNat)) (0+y4.to.toNat * 2+0))+y4.length)),(0:Int)⟩:far)⟩:(Sl far))).length,(zch (⟨(tL (zau.get kv4.toNat) y4.from_),(tU (zau.get kv4.toNat) y4.from_)⟩:far) (⟨1,λ _=>(⟨(w64 ((tg 80 (zau.get ((w64 (kv4 - (1:Int))).toNat)) (0+y4.to.toNat * 2+0))+y4.length)),(0:Int)⟩:far)⟩:(Sl far))).uses]))) (v:=(ts 80 (zau.get kv4.toNat) (0+y4.from_.toNat * 2+0) [(zch (⟨(tL (zau.get kv4.toNat) y4.from_),(tU (zau.get kv4.toNat) y4.from_)⟩:far) (⟨1,λ _=>(⟨(w64 ((tg 80 (zau.get ((w64 (kv4 - (1:Int))).toNat)) (0+y4.to.toNat * 2+0))+y4.length)),(0:Int)⟩:far)⟩:(Sl far))).length,(zch (⟨(tL (zau.get kv4.toNat) y4.from_),(tU (zau.get kv4.toNat) y4.from_)⟩:far) (⟨1,λ _=>(⟨(w64 ((tg 80 (zau.get ((w64 (kv4 - (1:Int))).toNat)) (0+y4.to.toNat * 2+0))+y4.length)),(0:Int)⟩:far)⟩:(Sl far))).uses])) rfl znQ) hs hk)⟩)⟩)⟩)⟩)⟩)⟩)⟩))
 (λ hs hk=>(hX4 kv4 zau (λ i=>zac (zau.get i)) rfl hs hk)) hs hk))
 (λ hs hk=>(hX4 kv4 zau (λ i=>zac (zau.get i)) rfl hs hk)) hs hk))
 (λ hs hk=>(hX4 kv4 zau (λ i=>zac (zau.get i)) rfl hs hk)) hs hk)⟩)⟩)⟩)
  exact key _ kv4 zau zbX zeU hs hk
def zn7 (w:web) (node:Int) (uses:Int) (S3:Int->(Sl Tab)->(Sl Tab)) (kv3:Int) (zbw:(Sl Tab)):(Sl Tab) :=
  (cond (decide (kv3 ≤ uses))
 (ztK S3 w node uses kv3 zbw)
 zbw)
def zn8 (w:web) (node:Int) (uses:Int) (P3:Int->(Sl Tab)->Bool) (kv3:Int) (zbw:(Sl Tab)):Bool :=
  (cond (decide (kv3 ≤ uses))
 (zn6 P3 w node uses kv3 zbw)
 true)
def zic (w : web) (node : Int) (uses : Int) : Nat -> Int -> (Sl Tab) -> (Sl Tab)
  | 0=>λ _ _=>default
  | k+1=>zn7 w node uses (zic w node uses k)
def zid (w : web) (node : Int) (uses : Int) : Nat -> Int -> (Sl Tab) -> Bool
  | 0=>λ _ _=>false
  | k+1=>zn8 w node uses (zid w node uses k)
def ztL (w:web) (node:Int) (uses:Int) (kv3:Int) (zbw:(Sl Tab)):(Sl Tab):=zic w node uses Fuel kv3 zbw
def ztM (w:web) (node:Int) (uses:Int) (kv3:Int) (zbw:(Sl Tab)):Bool:=zid w node uses Fuel kv3 zbw
theorem zBT (K:List PA->Prop) (w:web) (node:Int) (uses:Int) (kv3:Int) (zbw:(Sl Tab)) (zbL:Nat->List PV) (zeT:zbL=λ i=>zac (zbw.get i)) (hs:ztM w node uses kv3 zbw=true) (hk:K (zly (ztL w node uses kv3 zbw))):zh8 K w node uses kv3 zbw.len zbL:=by
  refine zvi K w node uses kv3 zbw.len zbL ?_
  intro X3 hstep
  have key:∀ (k:Nat) (kv3:Int) (zbw:(Sl Tab)) (zbL:Nat->List PV) (zeT:zbL=λ i=>zac (zbw.get i)),zid w node uses k kv3 zbw=true->K (zly (zic w node uses k kv3 zbw))->X3 (zgf w node uses kv3 zbw.len zbL):=by
    intro k
    induction k with
    | zero=>intro kv3 zbw zbL zeT hs;exact absurd hs Bool.false_ne_true
    | succ k ih =>
      intro kv3 zbw zbL zeT hs hk
      subst zeT
      refine hstep kv3 zbw ?_
      have hs:zn8 w node uses (zid w node uses k) kv3 zbw=true:=hs
      have hk:K (zly (zn7 w node uses (zic w node uses k) kv3 zbw)):=hk
      unfold zn8 at hs
      unfold zn7 at hk
      generalize zic w node uses k=S3 at hk ih
      generalize zid w node uses k=P3 at hs ih
      have hX3:=ih
      exact (za2 (K := λ r => K (zly r))
 (λ hs hk=>⟨⟨isE,rfl⟩,(zBS K w node uses X3 P3 S3 hX3 kv3 zbw (λ i=>zac (zbw.get i)) rfl hs hk)⟩)
 (λ hs hk=>hk) hs hk)
  exact key _ kv3 zbw zbL zeT hs hk
def zn9 (w:web) (node:Int) (uses:Int) (zci:(Sl Tab)):(Sl Tab) :=
  (ztL w node uses (1:Int) (⟨zci.len,(setT 0 (ts 80 (zci.get 0) (0+node.toNat * 2+0) [(0:Int),(0:Int)]) zci.get)⟩:Sl Tab))
def zoa (w:web) (node:Int) (uses:Int) (zci:(Sl Tab)):Bool :=
  (decide ((0≤(0:Int)/\(0:Int) < (zci.len:Int))) &&
 (decide ((0≤node/\node < (40:Int))) &&
 (decide ((0 < zci.len)) &&
 (ztM w node uses (1:Int) (⟨zci.len,(setT 0 (ts 80 (zci.get 0) (0+node.toNat * 2+0) [(0:Int),(0:Int)]) zci.get)⟩:Sl Tab)))))
theorem zBU (K:List PA->Prop) (w:web) (node:Int) (uses:Int) (zci:(Sl Tab)) (zfy:Nat->List PV) (zrQ:zfy=λ i=>zac (zci.get i)) (hs:zoa w node uses zci=true) (hk:K (zly (zn9 w node uses zci))):zj0 K w node uses zci.len zfy:=by
  subst zrQ
  refine zbk (zBR K w node uses zci) ?_
  unfold zoa at hs
  unfold zn9 at hk
  exact (zaX hs λ hc hs=>⟨hc,(zaX hs λ hc hs=>⟨hc,(zaX hs λ hc hs=>⟨hc,(zBT K w node uses (1:Int) (⟨zci.len,(setT 0 (ts 80 (zci.get 0) (0+node.toNat * 2+0) [(0:Int),(0:Int)]) zci.get)⟩:Sl Tab) (zjP 0 0 (λ i=>zac (zci.get i)) (zac (ts 80 (zci.get 0) (0+node.toNat * 2+0) [(0:Int),(0:Int)]))) (zfH (enc:=zac) (i:=0) (k:=0) (f:=zci.get) (new:=(zac (ts 80 (zci.get 0) (0+node.toNat * 2+0) [(0:Int),(0:Int)]))) (v:=(ts 80 (zci.get 0) (0+node.toNat * 2+0) [(0:Int),(0:Int)])) rfl znQ) hs hk)⟩)⟩)⟩)
def zob (S0:Int->(Sl Tab)->(Sl Tab)) (w:web) (node:Int) (uses:Int) (S1:Int->Int->Int->(Sl Tab)->(Sl Tab)) (iv1:Int) (zb1:Int) (zbT:Int) (za6:(Sl Tab)):(Sl Tab) :=
  (cond (decide (zbT < (40:Int)))
 (S1 iv1 zb1 (w64 (zbT+(1:Int))) (⟨za6.len,(setT iv1.toNat (ts 80 (za6.get iv1.toNat) (0+zbT.toNat * 2+0) [(1000000000000:Int),(0:Int)]) za6.get)⟩:Sl Tab))
 (S0 (w64 (zb1+(1:Int))) za6))
def zoc (P0:Int->(Sl Tab)->Bool) (w:web) (node:Int) (uses:Int) (P1:Int->Int->Int->(Sl Tab)->Bool) (iv1:Int) (zb1:Int) (zbT:Int) (za6:(Sl Tab)):Bool :=
  (cond (decide (zbT < (40:Int)))
 (decide ((0≤iv1/\iv1 < (za6.len:Int))) &&
 (decide ((0≤zbT/\zbT < (40:Int))) &&
 (decide ((iv1.toNat < za6.len)) &&
 (P1 iv1 zb1 (w64 (zbT+(1:Int))) (⟨za6.len,(setT iv1.toNat (ts 80 (za6.get iv1.toNat) (0+zbT.toNat * 2+0) [(1000000000000:Int),(0:Int)]) za6.get)⟩:Sl Tab)))))
 (P0 (w64 (zb1+(1:Int))) za6))
def zie (S0 : Int -> (Sl Tab) -> (Sl Tab)) (w : web) (node : Int) (uses : Int) : Nat -> Int -> Int -> Int -> (Sl Tab) -> (Sl Tab)
  | 0=>λ _ _ _ _=>default
  | k+1=>zob S0 w node uses (zie S0 w node uses k)
def zif (P0 : Int -> (Sl Tab) -> Bool) (w : web) (node : Int) (uses : Int) : Nat -> Int -> Int -> Int -> (Sl Tab) -> Bool
  | 0=>λ _ _ _ _=>false
  | k+1=>zoc P0 w node uses (zif P0 w node uses k)
def ztN (S0:Int->(Sl Tab)->(Sl Tab)) (w:web) (node:Int) (uses:Int) (iv1:Int) (zb1:Int) (zbT:Int) (za6:(Sl Tab)):(Sl Tab):=zie S0 w node uses Fuel iv1 zb1 zbT za6
def ztO (P0:Int->(Sl Tab)->Bool) (w:web) (node:Int) (uses:Int) (iv1:Int) (zb1:Int) (zbT:Int) (za6:(Sl Tab)):Bool:=zif P0 w node uses Fuel iv1 zb1 zbT za6
theorem zBV (K : List PA -> Prop) (w : web) (node : Int) (uses : Int)
  (X0:St->Prop) (P0:Int->(Sl Tab)->Bool) (S0:Int->(Sl Tab)->(Sl Tab))
  (hX0:∀ (zb7:Int) (zca:(Sl Tab)) (zcq:Nat->List PV) (ziZ:zcq=λ i=>zac (zca.get i)),P0 zb7 zca=true->K (zly (S0 zb7 zca))->X0 (zgc w node uses zb7 zca.len zcq)) (iv1:Int) (zb1:Int) (zbT:Int) (za6:(Sl Tab)) (zbW:Nat->List PV) (zfz:zbW=λ i=>zac (za6.get i)) (hs:ztO P0 w node uses iv1 zb1 zbT za6=true) (hk:K (zly (ztN S0 w node uses iv1 zb1 zbT za6))):zh7 K X0 w node uses iv1 zb1 zbT za6.len zbW:=by
  refine zvh K X0 w node uses iv1 zb1 zbT za6.len zbW ?_
  intro X1 hstep
  have key:∀ (k:Nat) (iv1:Int) (zb1:Int) (zbT:Int) (za6:(Sl Tab)) (zbW:Nat->List PV) (zfz:zbW=λ i=>zac (za6.get i)),zif P0 w node uses k iv1 zb1 zbT za6=true->K (zly (zie S0 w node uses k iv1 zb1 zbT za6))->X1 (zhy w node uses iv1 zb1 zbT za6.len zbW):=by
    intro k
    induction k with
    | zero=>intro iv1 zb1 zbT za6 zbW zfz hs;exact absurd hs Bool.false_ne_true
    | succ k ih =>
      intro iv1 zb1 zbT za6 zbW zfz hs hk
      subst zfz
      refine hstep iv1 zb1 zbT za6 ?_
      have hs:zoc P0 w node uses (zif P0 w node uses k) iv1 zb1 zbT za6=true:=hs
      have hk:K (zly (zob S0 w node uses (zie S0 w node uses k) iv1 zb1 zbT za6)):=hk
      unfold zoc at hs
      unfold zob at hk
      generalize zie S0 w node uses k=S1 at hk ih
      generalize zif P0 w node uses k=P1 at hs ih
      have hX1:=ih
      exact (za2 (K := λ r => K (zly r))
 (λ hs hk=>(zaX hs λ hc hs=>⟨hc,(zaX hs λ hc hs=>⟨hc,(zaX hs λ hc hs=>⟨hc,(hX1 iv1 zb1 (w64 (zbT+(1:Int))) (⟨za6.len,(setT iv1.toNat (ts 80 (za6.get iv1.toNat) (0+zbT.toNat * 2+0) [(1000000000000:Int),(0:Int)]) za6.get)⟩:Sl Tab) (zjP iv1.toNat 0 (λ i=>zac (za6.get i)) (zac (ts 80 (za6.get iv1.toNat) (0+zbT.toNat * 2+0) [(1000000000000:Int),(0:Int)]))) (zfH (enc:=zac) (i:=iv1.toNat) (k:=0) (f:=za6.get) (new:=(zac (ts 80 (za6.get iv1.toNat) (0+zbT.toNat * 2+0) [(1000000000000:Int),(0:Int)]))) (v:=(ts 80 (za6.get iv1.toNat) (0+zbT.toNat * 2+0) [(1000000000000:Int),(0:Int)])) rfl znQ) hs hk)⟩)⟩)⟩))
 (λ hs hk=>(hX0 (w64 (zb1+(1:Int))) za6 (λ i=>zac (za6.get i)) rfl hs hk)) hs hk)
  exact key _ iv1 zb1 zbT za6 zbW zfz hs hk
def zod (w:web) (node:Int) (uses:Int) (S0:Int->(Sl Tab)->(Sl Tab)) (zb7:Int) (zca:(Sl Tab)):(Sl Tab) :=
  (cond (decide (zb7 < ((w64 (uses + (1:Int))).toNat : Int)))
 (ztN S0 w node uses zb7 zb7 (0:Int) zca)
 (zn9 w node uses zca))
def zoe (w:web) (node:Int) (uses:Int) (P0:Int->(Sl Tab)->Bool) (zb7:Int) (zca:(Sl Tab)):Bool :=
  (cond (decide (zb7 < ((w64 (uses + (1:Int))).toNat : Int)))
 (ztO P0 w node uses zb7 zb7 (0:Int) zca)
 (zoa w node uses zca))
def zih (w : web) (node : Int) (uses : Int) : Nat -> Int -> (Sl Tab) -> (Sl Tab)
  | 0=>λ _ _=>default
  | k+1=>zod w node uses (zih w node uses k)
def zii (w : web) (node : Int) (uses : Int) : Nat -> Int -> (Sl Tab) -> Bool
  | 0=>λ _ _=>false
  | k+1=>zoe w node uses (zii w node uses k)
def ztP (w:web) (node:Int) (uses:Int) (zb7:Int) (zca:(Sl Tab)):(Sl Tab):=zih w node uses Fuel zb7 zca
def ztQ (w:web) (node:Int) (uses:Int) (zb7:Int) (zca:(Sl Tab)):Bool:=zii w node uses Fuel zb7 zca
theorem zBW (K:List PA->Prop) (w:web) (node:Int) (uses:Int) (zb7:Int) (zca:(Sl Tab)) (zcq:Nat->List PV) (ziZ:zcq=λ i=>zac (zca.get i)) (hs:ztQ w node uses zb7 zca=true) (hk:K (zly (ztP w node uses zb7 zca))):zh6 K w node uses zb7 zca.len zcq:=by
  refine zvg K w node uses zb7 zca.len zcq ?_
  intro X0 hstep
  have key:∀ (k:Nat) (zb7:Int) (zca:(Sl Tab)) (zcq:Nat->List PV) (ziZ:zcq=λ i=>zac (zca.get i)),zii w node uses k zb7 zca=true->K (zly (zih w node uses k zb7 zca))->X0 (zgc w node uses zb7 zca.len zcq):=by
    intro k
    induction k with
    | zero=>intro zb7 zca zcq ziZ hs;exact absurd hs Bool.false_ne_true
    | succ k ih =>
      intro zb7 zca zcq ziZ hs hk
      subst ziZ
      refine hstep zb7 zca ?_
      have hs:zoe w node uses (zii w node uses k) zb7 zca=true:=hs
      have hk:K (zly (zod w node uses (zih w node uses k) zb7 zca)):=hk
      unfold zoe at hs
      unfold zod at hk
      generalize zih w node uses k=S0 at hk ih
      generalize zii w node uses k=P0 at hs ih
      have hX0:=ih
      exact (za2 (K := λ r => K (zly r))
 (λ hs hk=>(zBV K w node uses X0 P0 S0 hX0 zb7 zb7 (0:Int) zca (λ i=>zac (zca.get i)) rfl hs hk))
 (λ hs hk=>(zBU K w node uses zca (λ i=>zac (zca.get i)) rfl hs hk)) hs hk)
  exact key _ zb7 zca zcq ziZ hs hk
def zxF (w:web) (node:Int) (uses:Int):(Sl Tab) :=
  (ztP w node uses (0:Int) (⟨(w64 (uses+(1:Int))).toNat,(λ _=>(λ _=>(0:Int)))⟩:Sl Tab))
def zIF (w:web) (node:Int) (uses:Int):Bool :=
  (decide ((0≤(w64 (uses+(1:Int)))/\(w64 (uses+(1:Int)))=(w64 (uses+(1:Int)))/\(w64 (uses+(1:Int)))≤1000000)) &&
 (ztQ w node uses (0:Int) (⟨(w64 (uses+(1:Int))).toNat,(λ _=>(λ _=>(0:Int)))⟩:Sl Tab)))
theorem zM8 (w:web) (node:Int) (uses:Int) (K:List PA->Prop) (hs:zIF w node uses=true) (hk:K (zly (zxF w node uses))):vcFun Tryd.prog zfS zbj 106 [.one (.fp (zaD w) 0),.one (.int .i64 node),.one (.int .i64 uses)] K:=by
  refine zbk (zBQ w node uses K) ?_
  unfold zIF at hs
  unfold zxF at hk
  exact (zaX hs λ hc hs=>⟨hc,(zBW K w node uses (0:Int) (⟨(w64 (uses+(1:Int))).toNat,(λ _=>(λ _=>(0:Int)))⟩:Sl Tab) (λ _=>(zac (λ _=>(0:Int)))) rfl hs hk)⟩)
def zxG : List PA -> COut
  | [.one (.fp [.int .i64 zan,.sl zal zaE zam,.fm zbq zaL zaM] 0),.one (.int .i64 a1),.one (.int .i64 a2)]=>.det (IsE enc_40 4 zaE zam/\zbq=(false,1,false,[none])/\zIF (⟨(⟨zan,(⟨zal,zar zam⟩:(Sl Tie))⟩:Net),(⟨zaL,zaM⟩:Mp)⟩:web) a1 a2=true) [.one (.sl ((zxF (⟨(⟨zan,(⟨zal,zar zam⟩:(Sl Tie))⟩:Net),(⟨zaL,zaM⟩:Mp)⟩:web) a1 a2).len) 80 (λ i=>zac ((zxF (⟨(⟨zan,(⟨zal,zar zam⟩:(Sl Tie))⟩:Net),(⟨zaL,zaM⟩:Mp)⟩:web) a1 a2).get i)))]
  | _=>.no
theorem zE9:zaA Tryd.prog 106:=⟨_,rfl,rfl,by kernel_rfl⟩
theorem zLl:Ok Tryd.prog 106 zxG:=zbH zIE zE9 λ args K h=>by
  unfold zxG at h
  split at h
  · rename_i zan zal zaE zam zbq zaL zaM a1 a2
    obtain⟨⟨⟨rfl,zay,rfl⟩,rfl,hs⟩,hk⟩:=h
    try rw[zao zay] at hs
    try rw[zao zay] at hk
    exact⟨(λ _ _=>[]),(λ _=>false),zbj,zM8 (⟨(⟨zan,(⟨zal,zay⟩:(Sl Tie))⟩:Net),(⟨zaL,zaM⟩:Mp)⟩:web) a1 a2 K hs hk⟩
  · exact h.elim
abbrev zMz:Tabs:=Tabs.nil
theorem zIG:TabsOk Tryd.prog zMz:=TabsOk.nil
abbrev zMA:Ctrs:=csm zMz (λ _ _=>[]) (λ _=>false)
def zxH:Ann:=⟨18,[(0,zK [0] []),(1,zK [0,3] []),(2,zK [3,6,7,8] []),(3,zK [3,6,7,8,9] []),(4,zK [3,5,6,7,8] []),(5,zK [3,5,6,7,8,14] []),(6,zK [2] []),(7,zK [3,6,7,8] []),(8,zK [2] [])],
 [(3,zK [3,6,7,8] [])],
 [],
 [],[]⟩
abbrev zM9:=Int
abbrev zLm (r:zM9):List PA:=[.one (.int .i64 r)]
@[irreducible] def z100:=ptF Tryd.prog zMA zxH Tryd.f100
def zxI (vals:(Sl Int)) (zdO:Int):St:=⟨[(3,zI (0:Int)),(6,zS zad 1 vals),(7,zI (vals.len:Int)),(8,zI zdO)],[],[]⟩
abbrev zC1 (K:List PA->Prop) (vals:(Sl Int)) (X:St->Prop) (P:Int->Bool) (S:Int->Int):Prop:=∀ ⦃zdO:Int⦄,P zdO=true->K (zLm (S zdO))->X (zxI vals zdO)
section
variable {K:List PA->Prop}{vals:(Sl Int)}{zdO:Int}{X0:St->Prop}{P0:Int->Bool}{S0:Int->Int}
def ztR (vals:(Sl Int)) (S0:Int->Int) (zdO:Int):Int :=
  (cond (decide (zdO < (vals.len : Int)))
 (cond ((vals.get zdO.toNat) != (0:Int))
 (vals.get zdO.toNat)
 (S0 (w64 (zdO+(1:Int)))))
 (0:Int))
def ztS (vals:(Sl Int)) (P0:Int->Bool) (zdO:Int):Bool :=
  (cond (decide (zdO < (vals.len : Int)))
 (decide ((0≤zdO/\zdO < (vals.len:Int))) &&
 (cond ((vals.get zdO.toNat) != (0:Int))
 true
 (P0 (w64 (zdO+(1:Int))))))
 true)
def ztT (vals:(Sl Int)):Nat->Int->Int:=lpO (λ _=>default) (ztR vals)
def ztU (vals:(Sl Int)):Nat->Int->Bool:=lpO (λ _=>false) (ztS vals)
def ztV (vals:(Sl Int)) (zdO:Int):Int:=ztT vals Fuel zdO
def ztW (vals:(Sl Int)) (zdO:Int):Bool:=ztU vals Fuel zdO
theorem zBX (hs:ztW vals zdO=true) (hk:K (zLm (ztV vals zdO))):z100 K [1,1,0,1,0] [] (zxI vals zdO) :=
  zl (λ X=>z100 K [1,1,0,1,0,0] [X]) (by kernel_rfl) λ X0 hX =>
  (show ∀ k, zC1 K vals X0 (ztU vals k) (ztT vals k) from ziH _ _ (ztS vals) (ztR vals) (zC1 K vals X0)
 (by intro _ hs;exact absurd hs Bool.false_ne_true)
 (by intro P0 S0 hX0 zdO hs hk;exact hX _ (zbk (by kernel_rfl) (zc hs hk (λ hs hk=>(zaX hs λ hc hs=>And.intro hc (zc hs hk (λ hs hk=>hk) (λ hs hk=>(hX0 hs hk))))) (λ hs hk=>hk))))) _ hs hk
def zLn (vals:(Sl Int)):Int :=
  (ztV vals (0:Int))
def zLo (vals:(Sl Int)):Bool :=
  (ztW vals (0:Int))
end
theorem zNa (vals:(Sl Int)) (K:List PA->Prop) (hs:zLo vals=true) (hk:K (zLm (zLn vals))):vcFun Tryd.prog zMA zxH 100 [.one (.sl vals.len 1 (λ i=>zad (vals.get i)))] K :=
  zbk (by kernel_rfl) (zBX hs hk)
def zxJ : List PA -> COut
  | [.one (.sl zga zmU zgb)]=>.det (IsE zad 1 zmU zgb/\zLo (⟨zga,zax zgb⟩:(Sl Int))=true) [.one (.int .i64 (zLn (⟨zga,zax zgb⟩:(Sl Int))))]
  | _=>.no
theorem zFa:zaA Tryd.prog 100:=⟨_,rfl,rfl,by kernel_rfl⟩
theorem zLp:Ok Tryd.prog 100 zxJ:=zbH zIG zFa λ args K h=>by
  unfold zxJ at h
  split at h
  · rename_i zga zmU zgb
    obtain⟨⟨⟨rfl,ziY,rfl⟩,hs⟩,hk⟩:=h
    try rw[zck ziY] at hs
    try rw[zck ziY] at hk
    exact⟨(λ _ _=>[]),(λ _=>false),zxH,zNa (⟨zga,ziY⟩:(Sl Int)) K hs hk⟩
  · exact h.elim
abbrev zMB:Tabs:=Tabs.nil
theorem zIH:TabsOk Tryd.prog zMB:=TabsOk.nil
abbrev zNb:Ctrs:=csm zMB (λ _ _=>[]) (λ _=>false)
def zC2:Ann:=⟨6,[(0,zK [0] []),(1,zK [2] [])],
 [],
 [],
 [],[]⟩
abbrev zNc:=Bool
abbrev zNd (r:zNc):List PA:=[.one (.bool r)]
section
variable {K:List PA->Prop}{x:Int}
def zII (x:Int):Bool :=
  (x != x)
end
theorem zNe (x:Int) (K:List PA->Prop) (hk:K (zNd (zII x))):vcFun Tryd.prog zNb zC2 114 [.one (.int .i64 x)] K :=
  zbk (by kernel_rfl) hk
def zxK : List PA -> COut
  | [.one (.int .i64 a0)]=>.tot [.one (.bool (zII a0))]
  | _=>.no
theorem zFb:zaA Tryd.prog 114:=⟨_,rfl,rfl,by kernel_rfl⟩
theorem zLq:Ok Tryd.prog 114 zxK:=zbH zIH zFb λ args K h=>by
  unfold zxK at h
  split at h
  · rename_i a0
    have hk:=h
    exact⟨(λ _ _=>[]),(λ _=>false),zC2,zNe a0 K hk⟩
  · exact h.elim
abbrev zMC:Tabs:=(Tabs.nil.addF 114 zxK)
theorem zIJ:TabsOk Tryd.prog zMC:=(TabsOk.nil.addF zLq)
abbrev zNf:Ctrs:=csm zMC (λ _ _=>[]) (λ _=>false)
def zC3:Ann:=⟨20,[(0,zK [0,1] []),(1,zK [0,1,5] []),(2,zK [0,1,5,6] []),(3,zK [0,1,6,11] []),(4,zK [12] []),(5,zK [4] []),(6,zK [4] []),(7,zK [0,1,13] []),(8,zK [4] []),(9,zK [0,1,16] []),(10,zK [4] []),(11,zK [19] []),(12,zK [4] []),(13,zK [4] [])],
 [],
 [],
 [],[]⟩
abbrev zNg:=Int
abbrev zNh (r:zNg):List PA:=[.one (.int .i64 r)]
section
variable {K:List PA->Prop}{x:Int}{y_a1:Int}
def zAH (x:Int) (y_a1:Int):Int :=
  (cond (zII x)
 (cond (zII y_a1)
 (0:Int)
 (-1:Int))
 (cond (zII y_a1)
 (1:Int)
 (cond (decide (x < y_a1))
 (-1:Int)
 (cond (decide (x > y_a1))
 (1:Int)
 (0:Int)))))
end
theorem zNi (x:Int) (y_a1:Int) (K:List PA->Prop) (hk:K (zNh (zAH x y_a1))):vcFun Tryd.prog zNf zC3 101 [.one (.int .i64 x),.one (.int .i64 y_a1)] K :=
  zbk (by kernel_rfl) (zt hk (λ hk=>(zt hk (λ hk=>hk) (λ hk=>hk))) (λ hk=>(zt hk (λ hk=>hk) (λ hk=>(zt hk (λ hk=>hk) (λ hk=>(zt hk (λ hk=>hk) (λ hk=>hk))))))))
def ztX : List PA -> COut
  | [.one (.int .i64 a0),.one (.int .i64 a1)]=>.tot [.one (.int .i64 (zAH a0 a1))]
  | _=>.no
theorem zFc:zaA Tryd.prog 101:=⟨_,rfl,rfl,by kernel_rfl⟩
theorem zIK:Ok Tryd.prog 101 ztX:=zbH zIJ zFc λ args K h=>by
  unfold ztX at h
  split at h
  · rename_i a0 a1
    have hk:=h
    exact⟨(λ _ _=>[]),(λ _=>false),zC3,zNi a0 a1 K hk⟩
  · exact h.elim
abbrev zMD:Tabs:=Tabs.nil
theorem zIL:TabsOk Tryd.prog zMD:=TabsOk.nil
abbrev zNj:Ctrs:=csm zMD (λ _ _=>[]) (λ _=>false)
def zC4:Ann:=⟨6,[(0,zK [1] [1]),(1,zK [5] []),(2,zK [2] []),(3,zK [2] [])],
 [],
 [],
 [],[]⟩
abbrev zNk:=Int
abbrev e118 (r:zNk):List PA:=[.one (.int .i64 r)]
section
variable {K:List PA->Prop}{s:step}
def zC5 (s:step):Int :=
  (cond s.Use.Back
 (1:Int)
 (0:Int))
end
theorem zNl (s:step) (K:List PA->Prop) (hk:K (e118 (zC5 s))):vcFun Tryd.prog zNj zC4 118 [.agg (zai s)] K :=
  zbk (by kernel_rfl) (zt hk (λ hk=>hk) (λ hk=>hk))
def zxL : List PA -> COut
  | [.agg [.int .i64 zdd,.bool zcZ,.int .i64 zeJ,.int .i64 zpP,.int .i64 zcI]]=>.tot [.one (.int .i64 (zC5 (⟨(⟨zdd,zcZ⟩:Use),zeJ,zpP,zcI⟩:step)))]
  | _=>.no
theorem zFd:zaA Tryd.prog 118:=⟨_,rfl,rfl,by kernel_rfl⟩
theorem zLr:Ok Tryd.prog 118 zxL:=zbH zIL zFd λ args K h=>by
  unfold zxL at h
  split at h
  · rename_i zdd zcZ zeJ zpP zcI
    have hk:=h
    exact⟨(λ _ _=>[]),(λ _=>false),zC4,zNl (⟨(⟨zdd,zcZ⟩:Use),zeJ,zpP,zcI⟩:step) K hk⟩
  · exact h.elim
abbrev zME:Tabs:=(((Tabs.nil.addF 100 zxJ).addF 101 ztX).addF 118 zxL)
theorem zIM:TabsOk Tryd.prog zME:=(((TabsOk.nil.addF zLp).addF zIK).addF zLr)
abbrev zNm:Ctrs:=csm zME (λ _ _=>[]) (λ _=>false)
def zC6:Ann:=⟨22,[(0,zK [2,3] [2,3]),(1,zK [2,3,5] [2,3]),(2,zK [4] [])],
 [],
 [],
 [],[]⟩
abbrev zNn:=Int
abbrev e108 (r:zNn):List PA:=[.one (.int .i64 r)]
section
variable {K:List PA->Prop}{a:step}{b:step}
def zKI (a:step) (b:step):Int :=
  (zLn (⟨2,zax (zbz [(zad (zAH a.Use.Tie b.Use.Tie)),(zad (zAH (zC5 a) (zC5 b)))])⟩:(Sl Int)))
def zLs (a:step) (b:step):Bool :=
  (decide ((zLo (⟨2,zax (zbz [(zad (zAH a.Use.Tie b.Use.Tie)),(zad (zAH (zC5 a) (zC5 b)))])⟩:(Sl Int))=true)) &&
 true)
end
theorem zNo (a:step) (b:step) (K:List PA->Prop) (hs:zLs a b=true) (hk:K (e108 (zKI a b))):vcFun Tryd.prog zNm zC6 108 [.agg (zai a),.agg (zai b)] K :=
  zbk (by kernel_rfl) (zaX hs λ hc hs=>And.intro (And.intro ((zdx []):IsE zad 1 1 (zbz [(zad (zAH a.Use.Tie b.Use.Tie)),(zad (zAH (zC5 a) (zC5 b)))])) hc) hk)
def zxM : List PA -> COut
  | [.agg [.int .i64 zdd,.bool zcZ,.int .i64 zeJ,.int .i64 zpP,.int .i64 zcI],.agg [.int .i64 zgN,.bool zfA,.int .i64 zj1,.int .i64 zBY,.int .i64 zcn]]=>.det (zLs (⟨(⟨zdd,zcZ⟩:Use),zeJ,zpP,zcI⟩:step) (⟨(⟨zgN,zfA⟩:Use),zj1,zBY,zcn⟩:step)=true) [.one (.int .i64 (zKI (⟨(⟨zdd,zcZ⟩:Use),zeJ,zpP,zcI⟩:step) (⟨(⟨zgN,zfA⟩:Use),zj1,zBY,zcn⟩:step)))]
  | _=>.no
theorem zFe:zaA Tryd.prog 108:=⟨_,rfl,rfl,by kernel_rfl⟩
theorem zLt:Ok Tryd.prog 108 zxM:=zbH zIM zFe λ args K h=>by
  unfold zxM at h
  split at h
  · rename_i zdd zcZ zeJ zpP zcI zgN zfA zj1 zBY zcn
    obtain⟨hs,hk⟩:=h
    exact⟨(λ _ _=>[]),(λ _=>false),zC6,zNo (⟨(⟨zdd,zcZ⟩:Use),zeJ,zpP,zcI⟩:step) (⟨(⟨zgN,zfA⟩:Use),zj1,zBY,zcn⟩:step) K hs hk⟩
  · exact h.elim
abbrev zMF:Tabs:=(Tabs.nil.addF 108 zxM)
theorem zIN:TabsOk Tryd.prog zMF:=(TabsOk.nil.addF zLt)
abbrev zMG:Ctrs:=csm zMF (λ _ _=>[]) (λ _=>false)
def zxN:Ann:=⟨39,[(0,zK [0,1,2] []),(1,zK [0,1,2,11,12,13] []),(2,zK [0,1,2,11,12,13,14] []),(3,zK [0,1,2,7,8,11,12,13] [8]),(4,zK [0,1,2,7,8,11,12,13,21] [8]),(5,zK [6] []),(6,zK [0,1,2,8,9,11,12,13] [8,9]),(7,zK [0,1,2,10,11,12,13] []),(8,zK [0,1,2,10,11,12,13,31] []),(9,zK [6] []),(10,zK [0,1,2,11,12,13] []),(11,zK [38] []),(12,zK [6] []),(13,zK [6] [])],
 [(2,zK [0,1,2,11,12,13] [])],
 [(6,zK [0,1,2,7,8,11,12,13] [8]),(8,zK [0,1,2,10,11,12,13] [])],
 [],[]⟩
abbrev zNp:=Int
abbrev zIO (r:zNp):List PA:=[.one (.int .i64 r)]
@[irreducible] def z107:=ptF Tryd.prog zMG zxN Tryd.f107
def zxO (zeV:(Sl step)) (zen:(Sl step)) (za5:(Sl step)) (zbv:Int) (zco:Int) (zdC:Nat->List PV) (zdD:Nat->List PV) (zgi:Nat->List PV):St:=⟨[(0,zP (.sl zeV.len 5 zdC)),(1,zP (.sl zen.len 5 zdD)),(2,zP (.fn 108 [] [])),(11,zP (.sl za5.len 5 zgi)),(12,zI zbv),(13,zI zco)],[],[]⟩
abbrev ztY (K:List PA->Prop) (X:St->Prop) (P:(Sl step)->(Sl step)->(Sl step)->Int->Int->Bool) (S:(Sl step)->(Sl step)->(Sl step)->Int->Int->Int):Prop:=∀ ⦃zeV:(Sl step)⦄ ⦃zen:(Sl step)⦄ ⦃za5:(Sl step)⦄ ⦃zbv:Int⦄ ⦃zco:Int⦄ ⦃zdC:Nat->List PV⦄ ⦃zdD:Nat->List PV⦄ ⦃zgi:Nat->List PV⦄,P zeV zen za5 zbv zco=true->K (zIO (S zeV zen za5 zbv zco))->zdC=zg zai zeV->zdD=zg zai zen->zgi=zg zai za5->X (zxO zeV zen za5 zbv zco zdC zdD zgi)
section
variable {K:List PA->Prop}{s1_a0:(Sl step)}{s2_a1:(Sl step)}{zeV:(Sl step)}{zen:(Sl step)}{za5:(Sl step)}{zbv:Int}{zco:Int}{zdC:Nat->List PV}{zdD:Nat->List PV}{zgi:Nat->List PV}{X0:St->Prop}{P0:(Sl step)->(Sl step)->(Sl step)->Int->Int->Bool}{S0:(Sl step)->(Sl step)->(Sl step)->Int->Int->Int}{zpQ:(Sl step)}{zj2:(Sl step)}{iv1:Int}{zc5:(Sl step)}{zbi:Int}{zrR:Int}{zjC:Int}{zjD:Bool}{zjE:Int}{zjF:Int}{zjG:Int}{zpR:Nat->List PV}{zpS:Nat->List PV}{zxP:Nat->List PV}{zpT:(Sl step)}{zpU:(Sl step)}{cv2:Int}{zrS:Int}{zpV:Nat->List PV}{zpW:Nat->List PV}
def ztZ (S0:(Sl step)->(Sl step)->(Sl step)->Int->Int->Int) (zc5:(Sl step)) (zbi:Int) (zpT:(Sl step)) (zpU:(Sl step)) (cv2:Int) (zrS:Int):Int :=
  (cond (cv2 != (0:Int))
 cv2
 (S0 zpT zpU zc5 zbi (w64 (zrS+(1:Int)))))
def zt0 (P0:(Sl step)->(Sl step)->(Sl step)->Int->Int->Bool) (zc5:(Sl step)) (zbi:Int) (zpT:(Sl step)) (zpU:(Sl step)) (cv2:Int) (zrS:Int):Bool :=
  (cond (cv2 != (0:Int))
 true
 (P0 zpT zpU zc5 zbi (w64 (zrS+(1:Int)))))
theorem zBZ (hX0:ztY K X0 P0 S0) (hs:zt0 P0 zc5 zbi zpT zpU cv2 zrS=true) (hk:K (zIO (ztZ S0 zc5 zbi zpT zpU cv2 zrS))) (zxQ:zpV=zg zai zpT) (zxR:zpW=zg zai zpU):z107 K [1,0,1,0,0,1,1,0,0,1,1,1,1] [X0] ⟨[(0,zP (.sl zpT.len 5 zpV)),(1,zP (.sl zpU.len 5 zpW)),(2,zP (.fn 108 [] [])),(10,zI cv2),(11,zS zai 5 zc5),(12,zI zbi),(13,zI zrS)],[],[]⟩:=by subst zxQ;subst zxR;exact zbk (by kernel_rfl) (zc hs hk (λ hs hk=>hk) (λ hs hk=>(hX0 hs hk rfl rfl rfl)))
def zt1 (S0:(Sl step)->(Sl step)->(Sl step)->Int->Int->Int) (zpQ:(Sl step)) (zj2:(Sl step)) (iv1:Int) (zc5:(Sl step)) (zbi:Int) (zrR:Int) (zjC:Int) (zjD:Bool) (zjE:Int) (zjF:Int) (zjG:Int):Int :=
  (ztZ S0 zc5 zbi zpQ zj2 (zKI (⟨(⟨zjC,zjD⟩:Use),zjE,zjF,zjG⟩:step) (zj2.get iv1.toNat)) zrR)
def zt2 (P0:(Sl step)->(Sl step)->(Sl step)->Int->Int->Bool) (zpQ:(Sl step)) (zj2:(Sl step)) (iv1:Int) (zc5:(Sl step)) (zbi:Int) (zrR:Int) (zjC:Int) (zjD:Bool) (zjE:Int) (zjF:Int) (zjG:Int):Bool :=
  (decide ((0≤iv1/\iv1 < (zj2.len:Int))) &&
 (decide ((zLs (⟨(⟨zjC,zjD⟩:Use),zjE,zjF,zjG⟩:step) (zj2.get iv1.toNat)=true)) &&
 (zt0 P0 zc5 zbi zpQ zj2 (zKI (⟨(⟨zjC,zjD⟩:Use),zjE,zjF,zjG⟩:step) (zj2.get iv1.toNat)) zrR)))
theorem zB0 (hX0:ztY K X0 P0 S0) (hs:zt2 P0 zpQ zj2 iv1 zc5 zbi zrR zjC zjD zjE zjF zjG=true) (hk:K (zIO (zt1 S0 zpQ zj2 iv1 zc5 zbi zrR zjC zjD zjE zjF zjG))) (zxS:zpR=zg zai zpQ) (zxT:zpS=zg zai zj2) (zFf:zxP=zg zai zc5):z107 K [1,0,1,0,0,1,1,0,0,1,1] [X0] ⟨[(0,zP (.sl zpQ.len 5 zpR)),(1,zP (.sl zj2.len 5 zpS)),(2,zP (.fn 108 [] [])),(7,zI iv1),(8,zp 8 0),(11,zP (.sl zc5.len 5 zxP)),(12,zI zbi),(13,zI zrR)],[(8,.box 130 (zm (zai (⟨(⟨zjC,zjD⟩:Use),zjE,zjF,zjG⟩:step))))],[]⟩:=by subst zxS;subst zxT;subst zFf;exact zbk (by kernel_rfl) (zaX hs λ hc hs=>And.intro hc (zaX hs λ hc hs=>And.intro hc (zBZ hX0 hs hk rfl rfl)))
def zt3 (S0:(Sl step)->(Sl step)->(Sl step)->Int->Int->Int) (zeV:(Sl step)) (zen:(Sl step)) (za5:(Sl step)) (zbv:Int) (zco:Int):Int :=
  (cond (decide (zco < zbv))
 (cond (decide (zco ≥ (zen.len : Int)))
 (1:Int)
 (zt1 S0 zeV zen zco za5 zbv zco ((za5.get zco.toNat).Use.Tie) ((za5.get zco.toNat).Use.Back) ((za5.get zco.toNat).from_) ((za5.get zco.toNat).to) ((za5.get zco.toNat).length)))
 (cond (decide ((zeV.len : Int) < (zen.len : Int)))
 (-1:Int)
 (0:Int)))
def zt4 (P0:(Sl step)->(Sl step)->(Sl step)->Int->Int->Bool) (zeV:(Sl step)) (zen:(Sl step)) (za5:(Sl step)) (zbv:Int) (zco:Int):Bool :=
  (cond (decide (zco < zbv))
 (decide ((0≤zco/\zco < (za5.len:Int))) &&
 (cond (decide (zco ≥ (zen.len : Int)))
 true
 (zt2 P0 zeV zen zco za5 zbv zco ((za5.get zco.toNat).Use.Tie) ((za5.get zco.toNat).Use.Back) ((za5.get zco.toNat).from_) ((za5.get zco.toNat).to) ((za5.get zco.toNat).length))))
 true)
def zt5:Nat->(Sl step)->(Sl step)->(Sl step)->Int->Int->Int:=lpO (λ _ _ _ _ _=>default) (zt3)
def zt6:Nat->(Sl step)->(Sl step)->(Sl step)->Int->Int->Bool:=lpO (λ _ _ _ _ _=>false) (zt4)
def zt7 (zeV:(Sl step)) (zen:(Sl step)) (za5:(Sl step)) (zbv:Int) (zco:Int):Int:=zt5 Fuel zeV zen za5 zbv zco
def zt8 (zeV:(Sl step)) (zen:(Sl step)) (za5:(Sl step)) (zbv:Int) (zco:Int):Bool:=zt6 Fuel zeV zen za5 zbv zco
theorem zB1 (hs:zt8 zeV zen za5 zbv zco=true) (hk:K (zIO (zt7 zeV zen za5 zbv zco))) (zlz:zdC=zg zai zeV) (zlA:zdD=zg zai zen) (zrT:zgi=zg zai za5):z107 K [1,0,1,0] [] (zxO zeV zen za5 zbv zco zdC zdD zgi) :=
  zl (λ X=>z107 K [1,0,1,0,0] [X]) (by kernel_rfl) λ X0 hX =>
  (show ∀ k, ztY K X0 (zt6 k) (zt5 k) from ziH _ _ (zt4) (zt3) (ztY K X0)
 (by intro _ _ _ _ _ _ _ _ hs;exact absurd hs Bool.false_ne_true)
 (by intro P0 S0 hX0 zeV zen za5 zbv zco zdC zdD zgi hs hk zlz zlA zrT;subst zlz;subst zlA;subst zrT;exact hX _ (zbk (by kernel_rfl) (zc hs hk (λ hs hk=>(zaX hs λ hc hs=>And.intro hc (zc hs hk (λ hs hk=>hk) (λ hs hk=>(zB0 hX0 hs hk rfl rfl rfl))))) (λ hs hk=>(zt hk (λ hk=>hk) (λ hk=>hk))))))) _ hs hk zlz zlA zrT
def zHr (s1_a0:(Sl step)) (s2_a1:(Sl step)):Int :=
  (zt7 s1_a0 s2_a1 s1_a0 (s1_a0.len:Int) (0:Int))
def zKJ (s1_a0:(Sl step)) (s2_a1:(Sl step)):Bool :=
  (zt8 s1_a0 s2_a1 s1_a0 (s1_a0.len:Int) (0:Int))
end
theorem zNq (s1_a0:(Sl step)) (s2_a1:(Sl step)) (K:List PA->Prop) (hs:zKJ s1_a0 s2_a1=true) (hk:K (zIO (zHr s1_a0 s2_a1))):vcFun Tryd.prog zMG zxN 107 [.one (.sl s1_a0.len 5 (λ i=>zai (s1_a0.get i))),.one (.sl s2_a1.len 5 (λ i=>zai (s2_a1.get i))),.one (.fn 108 [] [])] K :=
  zbk (by kernel_rfl) (zB1 hs hk rfl rfl rfl)
def zxU : List PA -> COut
  | [.one (.sl zga zmU zgb),.one (.sl zgX zoC zgI),.one (.fn 108 [] [])]=>.det (IsE zai 5 zmU zgb/\IsE zai 5 zoC zgI/\zKJ (⟨zga,zh4 zgb⟩:(Sl step)) (⟨zgX,zh4 zgI⟩:(Sl step))=true) [.one (.int .i64 (zHr (⟨zga,zh4 zgb⟩:(Sl step)) (⟨zgX,zh4 zgI⟩:(Sl step))))]
  | _=>.no
theorem zFg:zaA Tryd.prog 107:=⟨_,rfl,rfl,by kernel_rfl⟩
theorem zLu:Ok Tryd.prog 107 zxU:=zbH zIN zFg λ args K h=>by
  unfold zxU at h
  split at h
  · rename_i zga zmU zgb zgX zoC zgI
    obtain⟨⟨⟨rfl,ziY,rfl⟩,⟨rfl,zld,rfl⟩,hs⟩,hk⟩:=h
    try rw[zeG ziY] at hs
    try rw[zeG ziY] at hk
    try rw[zeG zld] at hs
    try rw[zeG zld] at hk
    exact⟨(λ _ _=>[]),(λ _=>false),zxN,zNq (⟨zga,ziY⟩:(Sl step)) (⟨zgX,zld⟩:(Sl step)) K hs hk⟩
  · exact h.elim
end Go.Proofs
