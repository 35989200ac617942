/- Part 4 of what the proof rests on: a machine that runs functions of the program on pure values, proved sound; the functions that the law reaches, and what they compute. -/
import Derived.Test.YtedhjaaikeakoaaDoorQ3
import Derived.Sort.OwnSortedInts
import Derived.Lib.SlicesCompact
import Derived.Test.YtedhjaaikeakoaaDoorProg
import Derived.ProofKit
import Derived.Deep.Slices
import Derived.OpenShut
import Derived.Shelf.SlIterI.Nil
import Derived.Shelf.SortM.Plain
import Derived.Shelf.SortM.SortNone
import Derived.Ground.GgzProg
import Derived.Ground.SlgmProg
import Derived.Tactics
import Derived.Tactics2
import Derived.Recover
import Derived.RecoverIn
import Derived.TacticsInMore
set_option linter.all false
namespace Go.Pm

structure Tabs where
  fn:List (Nat×(List PA->COut))
  own:List (Nat×OwnK)
  it:List (Nat×(List PA->Option (Prop×List (List PA))))
  mt:List (Nat×MK)
def zwO : List (Nat × (List PA → COut)) → Nat → List PA → COut
  | [],_=>λ _=>.no
  | (k,c) :: r,n=>match Nat.beq k n with | true=>c | false=>zwO r n
def zwP (l:List (Nat×OwnK)) (f:Nat):OwnK:=match lk l f with | some c=>c | none=>.none
def zFk (l:List (Nat×(List PA->Option (Prop×List (List PA))))) (f:Nat):List PA->Option (Prop×List (List PA)):=match lk l f with | some c=>c | none=>λ _=>none
def csm (T:Tabs) (memo:Nat->Int->List Int) (vv:Nat->Bool):Ctrs:=⟨zwO T.fn,zwP T.own,zFk T.it,memo,vv,lk T.mt⟩
abbrev cs (T:Tabs):Ctrs:=csm T (λ _ _=>[]) (λ _=>false)
def Tabs.nil:Tabs:=⟨[],[],[],[]⟩
def Tabs.addF (T:Tabs) (f:Nat) (c:List PA->COut):Tabs:=⟨(f,c) :: T.fn,T.own,T.it,T.mt⟩
def Tabs.addO (T:Tabs) (f:Nat) (c:OwnK):Tabs:=⟨T.fn,(f,c) :: T.own,T.it,T.mt⟩
def Tabs.addI (T:Tabs) (f:Nat) (c:List PA->Option (Prop×List (List PA))):Tabs:=⟨T.fn,T.own,(f,c) :: T.it,T.mt⟩
def Tabs.addM (T:Tabs) (f:Nat) (c:MK):Tabs:=⟨T.fn,T.own,T.it,(f,c) :: T.mt⟩

theorem zMB {P:Program}{f:Nat} : Ok P f (λ _=>.no):=λ _ _ h=>h.elim
theorem zMC {P:Program}{f:Nat} : zDm P f (λ _=>none):=λ _ _ _ h=>by cases h

structure TabsOk (P : Program) (T : Tabs) : Prop where
  fn:∀ x∈T.fn,Ok P x.1 x.2
  own:∀ x∈T.own,zou P x.1 x.2
  it:∀ x∈T.it,zDm P x.1 x.2
  mt:∀ x∈T.mt,zjL P x.1 x.2
theorem TabsOk.nil {P:Program} : TabsOk P .nil:=⟨λ _ h=>(by cases h),λ _ h=>(by cases h),λ _ h=>(by cases h),λ _ h=>(by cases h)⟩
theorem TabsOk.addF {P:Program}{T:Tabs}(h:TabsOk P T){f:Nat}{c:List PA->COut}(hc:Ok P f c):TabsOk P (T.addF f c) :=
 ⟨λ x hx=>(dqq.1 hx).elim (λ e=>by rw[e];exact hc) (λ hx=>h.fn x hx),h.own,h.it,h.mt⟩
theorem TabsOk.addO {P:Program}{T:Tabs}(h:TabsOk P T){f:Nat}{c:OwnK}(hc:zou P f c):TabsOk P (T.addO f c) :=
 ⟨h.fn,λ x hx=>(dqq.1 hx).elim (λ e=>by rw[e];exact hc) (λ hx=>h.own x hx),h.it,h.mt⟩
theorem TabsOk.addI {P:Program}{T:Tabs}(h:TabsOk P T){f:Nat}{c:List PA->Option (Prop×List (List PA))}(hc:zDm P f c):TabsOk P (T.addI f c) :=
 ⟨h.fn,h.own,λ x hx=>(dqq.1 hx).elim (λ e=>by rw[e];exact hc) (λ hx=>h.it x hx),h.mt⟩
theorem TabsOk.addM {P:Program}{T:Tabs}(h:TabsOk P T){f:Nat}{c:MK}(hc:zjL P f c):TabsOk P (T.addM f c) :=
 ⟨h.fn,h.own,h.it,λ x hx=>(dqq.1 hx).elim (λ e=>by rw[e];exact hc) (λ hx=>h.mt x hx)⟩
theorem TabsOk.all {P:Program}{T:Tabs}(h:TabsOk P T) (memo:Nat->Int->List Int) (vv:Nat->Bool):OkAll P (csm T memo vv):=by
 refine⟨λ f C hC=>h.mt _ (zbP hC),λ f=>?_,λ f=>?_,λ f=>?_⟩
 ·show Ok P f (zwO T.fn f)
  have key:∀ l:List (Nat×(List PA->COut)),(∀ x∈l,Ok P x.1 x.2)->Ok P f (zwO l f):=by
   intro l
   induction l with
   | nil=>intro _;exact zMB
   | cons x l ih =>
    intro hl
    obtain⟨k,c⟩:=x
    simp only[zwO]
    split
    ·rename_i e
     have:=hl (k,c) dqj
     rw[<- dqc e];exact this
    ·exact ih λ x hx=>hl x (dqf _ hx)
  exact key T.fn h.fn
 ·show zou P f (zwP T.own f)
  unfold zwP
  split
  ·rename_i c hc;exact h.own _ (zbP hc)
  ·trivial
 ·show zDm P f (zFk T.it f)
  unfold zFk
  split
  ·rename_i c hc;exact h.it _ (zbP hc)
  ·exact zMC

theorem zbx {P : Program} {T : Tabs} (hT : TabsOk P T) {f : FuncId} {C : List PA → COut} (hc : zav P f)
    (h:∀ args K,(C args).wp K->∃ memo vv ann,vcFun P (csm T memo vv) ann f args K):Ok P f C :=
  zBW (hT.all (λ _ _=>[]) (λ _=>false)) hc h
theorem zFl {P : Program} {T : Tabs} (hT : TabsOk P T) {f : FuncId} {C : MK} (hc : zav P f)
    (h:∀ xs safe rs ys,C xs=some (safe,rs,ys)->safe->∀ K:List PA->List XA->Prop,K rs ys->∃ memo vv ann,zkY P (csm T memo vv) ann f xs K):zjL P f C :=
  zwN (hT.all (λ _ _=>[]) (λ _=>false)) hc h
theorem zJJ {P : Program} {T : Tabs} (hT : TabsOk P T) {f : FuncId} {C : List PA → Option (Prop × List (List PA))} (hc : zav P f)
    (h:∀ l caps safe ys,C caps=some (safe,ys)->safe->∃ memo vv ann,vcIter P (csm T memo vv) ann f l caps ys):zDm P f C :=
  zB0 (hT.all (λ _ _=>[]) (λ _=>false)) hc h
structure Sl (α : Type) where
  len:Nat
  get:Nat->α
instance {α:Type} [Inhabited α]:Inhabited (Sl α):=⟨⟨0,λ _=>default⟩⟩
abbrev w64 (x:Int):Int:=IntKind.i64.wrap x

def IsE {α:Type}(enc:α->List PV) (size s:Nat) (g:Nat->List PV):Prop:=s=size/\∃ f:Nat->α,g=λ i=>enc (f i)
theorem isE {α:Type}{enc:α->List PV}{size:Nat}{f:Nat->α} : IsE enc size size (λ i=>enc (f i)):=⟨rfl,f,rfl⟩
theorem zwQ {α:Type}{enc:α->List PV}{size:Nat}{x:α} : IsE enc size size (λ _=>enc x):=⟨rfl,λ _=>x,rfl⟩
def zdm {α:Type}(n:Nat) (get new:Nat->α):Nat->α:=λ j=>match Nat.ble n j with | true=>new (j - n) | false=>get j
theorem zB4 {α:Type}{enc:α->List PV}{n:Nat}{f h:Nat->α} : appG n (λ i=>enc (f i)) (λ i=>enc (h i))=λ i=>enc (zdm n f h i):=by
 funext j;simp only[appG,zdm];cases Nat.ble n j <;> rfl
def zpM {α : Type} (x : α) : List α → Nat → α
  | [],_=>x
  | y :: _,0=>y
  | _ :: r,i+1=>zpM x r i
theorem ztl {α:Type}{enc:α->List PV}{x y:α}{r:List α} : za9 (enc x :: enc y :: r.map enc)=λ i=>enc (zpM x (x :: y :: r) i):=by
 have key:∀ (l:List α) (i:Nat),(match (l.map enc)[i]? with | some z=>z | none=>enc x)=enc (zpM x l i):=by
  intro l
  induction l with
  | nil=>intro i;rfl
  | cons a l ih =>
   intro i
   cases i with
   | zero=>rfl
   | succ i=>simpa [zpM] using ih i
 funext i
 exact key (x :: y :: r) i
theorem zdv {α:Type}{enc:α->List PV}{size:Nat}{x y:α}(r:List α):IsE enc size size (za9 (enc x :: enc y :: r.map enc)):=⟨rfl,_,ztl⟩

theorem zfl {b:Bool}{A B:Prop}{S S':Bool}{α:Type}{K:α->Prop}{x y:α}(h1:S=true->K x->A) (h2:S'=true->K y->B) (hs:cond b S S'=true) (hk:K (cond b x y)):zdN b A B:=by
 cases b
 ·exact h2 hs hk
 ·exact h1 hs hk
theorem zh1 {b:Bool}{A B:Prop}{S S':Bool}{α β:Type}{f:α->β}{ys:List β}{x y:List α}(hs:cond b S S'=true) (hk:ys=(cond b x y).map f) (h1:S=true->ys=x.map f->A) (h2:S'=true->ys=y.map f->B):zdN b A B:=by
 cases b
 ·exact h2 hs hk
 ·exact h1 hs hk
theorem itY {α β:Type}{f:α->β}{ys:List β}{p:β}{x r:List α}{l:Nat}{A:List β->Prop}(hk:ys=x.map f) (e:x.map f=p :: r.map f) (h:∀ zs,zs=r.map f->A zs):l=l/\∃ z,ys=p :: z/\A z/\True :=
 ⟨rfl,_,hk.trans e,h _ rfl,trivial⟩
theorem zaI {C A:Prop} [d:Decidable C] {r:Bool}(hs:(decide C && r)=true) (k:C->r=true->A):A:=by
 rw[dqm] at hs
 exact k (of_decide_eq_true hs.1) hs.2
abbrev Fuel:Nat:=9223372036854775808
def setT {α:Type}(i:Nat) (v:α) (get:Nat->α):Nat->α:=λ j=>match Nat.beq j i with | true=>v | false=>get j
theorem zjx {α:Type}{enc:α->List PV}{n:Nat}{g g':Nat->List PV}{f h:Nat->α}(h1:g=λ i=>enc (f i)) (h2:g'=λ i=>enc (h i)):appG n g g'=λ i=>enc (zdm n f h i):=by
 subst h1;subst h2;exact zB4
theorem zfU {α:Type}{enc:α->List PV}{i k:Nat}{g:Nat->List PV}{f:Nat->α}{new:List PV}{v:α}(h1:g=λ i=>enc (f i)) (h2:spl (enc (f i)) k new=enc v):zpF i k g new=λ j=>enc (setT i v f j):=by
 subst h1
 funext j
 simp only[zpF,setT]
 cases e:Nat.beq j i
 ·rfl
 ·have := dqc e
  subst this;exact h2
def zMD (P:Program) (G:Ctrs) (ann:Ann) (hd:Nat) (ps:List Nat) (assign body:Code) (X:List (List PA)->St->Prop) (K:Exit->St->Prop) (y:List PA) (rest:List (List PA)) (s:St):Prop :=
 match lk ann.head hd with
 | some k=>match zhO ps y s.env with
  | some env=>vc P G ann assign (zDl (vc P G ann body (zlQ P k (X rest) K)) λ _ _=>False) ⟨env,s.objs,[]⟩
  | none=>False
 | none=>False
end Go.Pm
namespace Go.Pm
open Go Go.Sort

def VVE {α:Type}(enc:α->List PV) (ln:Nat->Nat) (gg:Nat->Nat->List PV) (f:Nat->Sl α):Prop:=ln=(λ i=>(f i).len)/\gg=λ i j=>enc ((f i).get j)
theorem zjN {α:Type}{enc:α->List PV}{f:Nat->Sl α} : VVE enc (λ i=>(f i).len) (λ i j=>enc ((f i).get j)) f:=⟨rfl,rfl⟩
theorem zME {α:Type}{enc:α->List PV}{d:α} : VVE enc (λ _=>0) (λ _ _=>enc d) (λ _=>⟨0,λ _=>d⟩):=⟨rfl,rfl⟩
def zk2 {α:Type}(i j:Nat) (v:α) (f:Nat->Sl α):Nat->Sl α:=λ q=>match Nat.beq q i with | true=>⟨(f q).len,setT j v (f q).get⟩ | false=>f q
theorem znb {α : Type} {enc : α → List PV} {i j k : Nat} {ln : Nat → Nat} {gg : Nat → Nat → List PV} {f : Nat → Sl α} {new : List PV} {v : α} (h : VVE enc ln gg f) (hv : spl (enc ((f i).get j)) k new = enc v) :
  VVE enc ln (zmt i j k gg new) (zk2 i j v f):=by
 obtain⟨rfl,rfl⟩:=h
 constructor
 ·funext q;simp only[zk2];cases Nat.beq q i <;> rfl
 ·funext q; simp only [zmt, zk2]
  cases e:Nat.beq q i
  ·rfl
  ·have := dqc e
   subst this
   exact zfU rfl hv

theorem zFm {α : Type} {enc : α → List PV} {i m : Nat} {ln : Nat → Nat} {gg : Nat → Nat → List PV} {f : Nat → Sl α} {new : Nat → List PV} {v : Nat → α} (h : VVE enc ln gg f) (hv : new = fun j => enc (v j)) :
  VVE enc (zcO i m ln) (zcO i new gg) (setT i ⟨m,v⟩ f):=by
 obtain⟨rfl,rfl⟩:=h
 subst hv
 constructor
 ·funext q;simp only[zcO,setT];cases Nat.beq q i <;> rfl
 ·funext q;simp only[zcO,setT];cases Nat.beq q i <;> rfl

/-! Nil slices are slices of length 0. -/
inductive PVle : PV → PV → Prop
  | rfl (p:PV):PVle p p
  | nil (s:Nat) (g:Nat->List PV):PVle .nils (.sl 0 s g)
  | nilm (q:MQ):PVle .nilm (.fm q 0 (λ _=>none))
inductive PAle : PA → PA → Prop
  | one {p q:PV} : PVle p q->PAle (.one p) (.one q)
  | agg {l m:List PV} : RL PVle l m->PAle (.agg l) (.agg m)
theorem zol {α β:Type}{R:α->β->Prop} : RL R [] []:=trivial
theorem zhB {α β:Type}{R:α->β->Prop}{a:α}{b:β}{l:List α}{m:List β}(h:R a b) (h':RL R l m):RL R (a :: l) (b :: m):=⟨h,h'⟩
theorem zfB {α : Type} {R : α → α → Prop} (h : ∀ a, R a a) : ∀ l : List α, RL R l l
  | []=>trivial
  | a :: l=>⟨h a,zfB h l⟩
theorem zfV (a:PA):PAle a a:=by
 cases a with
 | one p=>exact .one (.rfl p)
 | agg l=>exact .agg (zfB .rfl l)
def Wk (K:List PA->Prop) (l:List PA):Prop:=∃ l',RL PAle l l'/\K l'
theorem wk {K:List PA->Prop}{l l':List PA}(hk:K l') (h:RL PAle l l'):Wk K l:=⟨l',h,hk⟩
theorem zfW {K:List PA->Prop}{l:List PA}(hk:K l):Wk K l:=⟨l,zfB zfV l,hk⟩
theorem zJK {h:Fz}{p q:PV}{v:Value}(e:PVle p q) (r:Rep h p v):Rep h q v:=by
 cases e with
 | rfl=>exact r
 | nil s g=>cases r;exact .sl0 s g
 | nilm q=>cases r;exact .fmn q _ (λ _ _=>rfl)
theorem zwR {α β γ : Type} {R : α → β → Prop} {S : α → γ → Prop} {T : γ → β → Prop} (h : ∀ a b c, S a c → R a b → T c b) : ∀ (l : List α) (m : List β) (k : List γ), RL S l k → RL R l m → RL T k m
  | [],[],[],_,_=>trivial
  | a :: l,b :: m,c :: k,hs,hr=>⟨h a b c hs.1 hr.1,zwR h l m k hs.2 hr.2⟩
  | [],_ :: _,[],_,hr=>hr.elim
  | [],_,_ :: _,hs,_=>hs.elim
  | _ :: _,_,[],hs,_=>hs.elim
  | _ :: _,[],_ :: _,_,hr=>hr.elim
theorem zB5 {h:Fz}{a b:PA}{v:Value}(e:PAle a b) (r:paR h a v):paR h b v:=by
 cases e with
 | one e=>exact zJK e r
 | agg e =>
  obtain⟨vs,rfl,hv⟩:=r
  exact⟨vs,rfl,zwR (R:=Rep h) (S:=PVle) (T:=Rep h) (λ _ _ _ e r=>zJK e r) _ _ _ e hv⟩
theorem zwS {h:Fz}{l m:List PA}{v:Value}(e:RL PAle l m) (r:zok h l v):zok h m v:=by
 match l,m,e,r with
 | [a],[b],e,r=>exact zB5 e.1 r
 | [],[],_,r=>exact r
 | a :: b :: l,c :: d :: m,e,r =>
  obtain⟨vs,hv,hr⟩:=r
  exact⟨vs,hv,zwR (R:=paR h) (S:=PAle) (T:=paR h) (λ _ _ _ e r=>zB5 e r) _ _ _ e hr⟩
 | [_],_ :: _ :: _,e,_=>exact e.2.elim
 | _ :: _ :: _,[_],e,_=>exact e.2.elim
 | [],_ :: _,e,_=>exact e.elim
 | _ :: _,[],e,_=>exact e.elim
theorem zhl {P : Program} {T : Tabs} (hT : TabsOk P T) {f : FuncId} {C : List PA → COut} (hc : zav P f)
    (h:∀ args K,(C args).wp K->∃ args',RL PAle args args'/\∃ memo vv ann,vcFun P (csm T memo vv) ann f args' (Wk K)):Ok P f C:=by
  intro args K hK w h0 vs hvs hfz hgl
  obtain⟨args',hle,memo,vv,ann,hv⟩:=h args K hK
  refine⟨hc,(zwG (hT.all memo vv) hv (zwR (R:=paR h0) (S:=PAle) (T:=paR h0) (λ _ _ _ e r=>zB5 e r) _ _ _ hle hvs) hfz hgl).mono ?_⟩
  rintro e w' ⟨h',rs,v,⟨rs',hr,hk⟩,he,hres,rest⟩
  exact⟨h',rs',v,hk,he,zwS hr hres,rest⟩
theorem zB6 {P : Program} {T : Tabs} (hT : TabsOk P T) {f : FuncId} {C : MK} (hc : zav P f)
    (h:∀ xs safe rs ys,C xs=some (safe,rs,ys)->safe->∀ K:List PA->List XA->Prop,K rs ys->∃ memo vv ann,zkY P (csm T memo vv) ann f xs (λ a b=>Wk (λ a'=>K a' b) a)):zjL P f C:=by
  intro xs ys safe rs hC hs w h0 base vs hvs hn hK hw hgl hB
  obtain⟨memo,vv,ann,hv⟩:=h xs safe rs ys hC hs (λ l zs=>l=rs/\zs=ys) ⟨rfl,rfl⟩
  refine⟨hc,(zwM (hT.all memo vv) hv hvs hn hK hw hgl hB).mono ?_⟩
  rintro e w' ⟨h',v,rs',ys',⟨rs2,hr,rfl,rfl⟩,he,hres,r⟩
  exact⟨h',v,he,zwS hr hres,r⟩
def WkM (K:List PA×List XA->Prop) (p:List PA×List XA):Prop:=Wk (λ a=>K (a,p.2)) p.1
theorem wkM {K:List PA×List XA->Prop}{l l':List PA}{b:List XA}(hk:K (l',b)) (h:RL PAle l l'):WkM K (l,b):=⟨l',h,hk⟩
theorem zwT {K:List PA×List XA->Prop}{p:List PA×List XA}(hk:K p):WkM K p:=⟨p.1,zfB zfV p.1,hk⟩
/-! Maps, as typed zOn; the keys of a map. -/
structure Mp where
  n:Nat
  F:List Int->Option (List Int)
instance:Inhabited Mp:=⟨⟨0,λ _=>none⟩⟩

end Go.Pm
namespace Go.Pm

abbrev zI (x:Int):DV:=.one (.c (.p (.int .i64 x)))
abbrev zB (x:Bool):DV:=.one (.c (.p (.bool x)))
abbrev zP (x:PV):DV:=.one (.c (.p x))
abbrev zp (L k:Nat):DV:=.one (.c (.ptr L k))
abbrev zv (L:Nat):DV:=.one (.c (.vec L))
abbrev zs {α:Type}(enc:α->List PV) (s:Nat) (x:Sl α):PV:=.sl x.len s (λ i=>enc (x.get i))
abbrev zS {α:Type}(enc:α->List PV) (s:Nat) (x:Sl α):DV:=zP (zs enc s x)
abbrev zm (l:List PV):List Cl:=l.map Cl.p
abbrev zi (x:Int):Cl:=.p (.int .i64 x)
abbrev zg {α:Type}(enc:α->List PV) (x:Sl α):Nat->List PV:=λ i=>enc (x.get i)
abbrev zK (a b:List Nat):Keep:=⟨a,b,[],[],[],[],[]⟩
theorem zE {α:Type}(enc:α->List PV) (size:Nat) (f:Nat->α):IsE enc size size (λ i=>enc (f i)):=⟨rfl,f,rfl⟩

theorem zwU {α : Type} : ∀ (new l pre : List α), l.length = new.length → spl (pre ++ l) pre.length new = pre ++ new
  | [],l,pre,h=>by
    have:l=[]:=List.eq_nil_of_length_eq_zero h
    subst this;rfl
  | x :: r,[],pre,h=>by simp at h
  | x :: r,y :: l,pre,h=>by
    have e:=zwU r l (pre ++ [x]) (by simpa using h)
    simp only[spl,List.append_assoc,List.singleton_append,dqu,List.length_singleton] at e ⊢
    rw[List.set_append_right _ _ (dqt _),Nat.sub_self,List.set_cons_zero]
    exact e
theorem znc {n:Nat}{F G:Nat->Int} : spl (zhH 0 n F) 0 (zhH 0 n G)=zhH 0 n G:=by
 have h:=zwU (zhH 0 n G) (zhH 0 n F) [] (by rw[zfa,zfa])
 simpa using h
theorem znd {n:Nat}{F:Nat->Int} : zhH 0 n F=zhH 0 n (zlM (zm (zhH 0 n F))):=by
 refine List.ext_getElem? λ k=>?_
 by_cases hk:k < n
 ·rw [zgN n 0 F k hk, zgN n 0 _ k hk, Nat.zero_add]
  congr 2
  have h:(zm (zhH 0 n F))[k]? = some (.p (.int .i64 (F k))):=by
   rw[zm,dqH,zgN n 0 F k hk,Nat.zero_add];rfl
  unfold zlM
  rw[h]
 ·rw[dqM (by rw[zfa];omega),dqM (by rw[zfa];omega)]

@[reducible] def lpO {A : Type} (d : A) (st : A → A) : Nat → A
  | 0=>d
  | k+1=>st (lpO d st k)
theorem zeH {A B : Type} (a : A) (b : B) (p : A → A) (s : B → B) (M : A → B → Prop) (h0 : M a b) (h1 : ∀ P S, M P S → M (p P) (s S)) : ∀ k, M (lpO a p k) (lpO b s k)
  | 0=>h0
  | k+1=>h1 _ _ (zeH a b p s M h0 h1 k)
def xcm (l:List PV):List XC:=l.map .p
def unX : List XC → List PV
  | []=>[]
  | .p v :: r=>v :: unX r
  | _ :: r=>.nilp :: unX r
theorem zqn : ∀ l : List PV, unX (xcm l) = l
  | []=>rfl
  | v :: r=>by show v :: unX (xcm r)=v :: r;rw[zqn r]
theorem zFn {n:Nat}{F:Nat->Int} : xcm (zhH 0 n F)=xcm (zhH 0 n (zlM (zm (unX (xcm (zhH 0 n F)))))):=by
 rw[zqn,<- znd]

section
variable (P:Program) (Γ:Ctrs) (ann:Ann)
def pt : Code → (Exit → St → Prop) → List Nat → List (St → Prop) → St → Prop
  | .seq a b,K,i :: r,X=>match i with | 0=>pt a (sqK P Γ ann b K) r X | _=>pt b K r X
  | .cond _ a b,K,i :: r,X=>match i with | 0=>pt a K r X | _=>pt b K r X
  | .block id b,K,_ :: r,X=>pt b (zfy id K) r X
  | .loop b,K,_ :: r,x :: X=>pt b (zuu P ann (zlB b) x K) r X
  | .scope b,K,_ :: r,X=>pt b (zvp K) r X
  | c,K,_,_=>vc P Γ ann c K
def ptF (fn:Func) (K:List PA->Prop) (l:List Nat) (X:List (St->Prop)):St->Prop :=
 match fn.body with
 | some c=>pt P Γ ann c (zpO P fn K) l X
 | none=>λ _=>False
end

section
variable (P:Program) (Γ:Ctrs) (ann:Ann)
def ptR : Code → (Exit → St → Prop) → List Nat → List (St → Prop) → Code × (Exit → St → Prop)
  | .seq a b,K,i :: r,X=>match i with | 0=>ptR a (sqK P Γ ann b K) r X | _=>ptR b K r X
  | .cond _ a b,K,i :: r,X=>match i with | 0=>ptR a K r X | _=>ptR b K r X
  | .block id b,K,_ :: r,X=>ptR b (zfy id K) r X
  | .loop b,K,_ :: r,x :: X=>ptR b (zuu P ann (zlB b) x K) r X
  | .scope b,K,_ :: r,X=>ptR b (zvp K) r X
  | c,K,_,_=>(c,K)
def exF (fn:Func) (K:List PA->Prop) (l:List Nat) (X:List (St->Prop)) (s:St):Prop :=
 match fn.body with
 | some c=>(ptR P Γ ann c (zpO P fn K) l X).2 .normal s
 | none=>False
def rnF (fn:Func) (K:List PA->Prop) (l:List Nat) (X:List (St->Prop)) (Y:List (List PA)->St->Prop) (y:List PA) (rest:List (List PA)) (s:St):Prop :=
 match fn.body with
 | some c=>match (ptR P Γ ann c (zpO P fn K) l X).1 with
  | .rangeFunc _ ps a b=>zMD P Γ ann (zNT a b) ps.toList a b Y (ptR P Γ ann c (zpO P fn K) l X).2 y rest s
  | _=>False
 | none=>False
end
@[reducible] def lpR {A Y : Type} (a : A) (st : Y → A → A) : List Y → A
  | []=>a
  | y :: r=>st y (lpR a st r)
theorem zri {Y A B : Type} {enc : Y → List PA} {X : List (List PA) → St → Prop} (pe : B) (se : A) (ps : Y → B → B) (ss : Y → A → A) (M : (St → Prop) → B → A → Prop) (h0 : M (X []) pe se)
    (h1:∀ y rest P S,M (X rest) P S->M (X (enc y :: rest)) (ps y P) (ss y S)):∀ l:List Y,M (X (l.map enc)) (lpR pe ps l) (lpR se ss l)
  | []=>h0
  | y :: r=>h1 y (r.map enc) _ _ (zri pe se ps ss M h0 h1 r)
theorem zr {at_ sf : Prop} {Y : Type} {enc : Y → List PA} {ys : List Y} {g : St} (Ex : St → Prop) (Rn : (List (List PA) → St → Prop) → List PA → List (List PA) → St → Prop)
    (e:at_=(sf/\∀ X:List (List PA)->St->Prop,(∀ s,Ex s->X [] s)->(∀ y rest s,Rn X y rest s->X (y :: rest) s)->X (ys.map enc) g)) (hs:sf)
    (h:∀ X:List (List PA)->St->Prop,(∀ s,Ex s->X [] s)->(∀ y rest s,Rn X y rest s->X (y :: rest) s)->X (ys.map enc) g):at_:=e ▸ ⟨hs,h⟩

theorem zc {b:Bool}{A B:Prop}{S S':Bool}{α:Type}{e:α->List PA}{K:List PA->Prop}{x y:α}(hs:cond b S S'=true) (hk:K (e (cond b x y))) (h1:S=true->K (e x)->A) (h2:S'=true->K (e y)->B):zdN b A B:=by
 cases b
 ·exact h2 hs hk
 ·exact h1 hs hk
theorem zt {b:Bool}{A B:Prop}{α:Type}{e:α->List PA}{K:List PA->Prop}{x y:α}(hk:K (e (cond b x y))) (h1:K (e x)->A) (h2:K (e y)->B):zdN b A B:=by
 cases b
 ·exact h2 hk
 ·exact h1 hk
theorem zJL {b:Bool}{s:Prop}{r1 r2:List PA}{K:List PA->Prop}(h:(COut.alt b s r1 s r2).wp K):s/\K (cond b r1 r2):=by
 cases b
 ·exact h.2 rfl
 ·exact h.1 rfl
theorem zl {at_:Prop}{g:St}(B:(St->Prop)->St->Prop) (e:at_ = ∀ X:St->Prop,(∀ s,B X s->X s)->X g) (h:∀ X:St->Prop,(∀ s,B X s->X s)->X g):at_:=e ▸ h
end Go.Pm
namespace Go.Proofs
open Go Go.Pm
set_option maxRecDepth 100000
set_option linter.unusedVariables false
attribute [local irreducible] Go.Pm.vcFun Go.Pm.vc Go.Pm.vcIter
abbrev Tab:=Nat->Int
def tg (n:Nat) (F:Tab) (k:Nat):Int:=zlM (zm (zhH 0 n F)) k
def ts (n:Nat) (F:Tab) (k:Nat) (vs:List Int):Tab:=zDg k vs (zlM (zm (zhH 0 n F)))
abbrev zad (x:Int):List PV:=[.int .i64 x]
def zMF : List PV → Int
  | [.int .i64 x]=>x
  | _=>default
def zaq (g:Nat->List PV):Nat->Int:=λ i=>zMF (g i)
theorem zbR (f:Nat->Int):zaq (λ i=>zad (f i))=f:=rfl
structure Tie where
  From:Int
  To:Int
  Low:Int
  High:Int
deriving Inhabited
abbrev enc_40 (x:Tie):List PV:=[.int .i64 x.From,.int .i64 x.To,.int .i64 x.Low,.int .i64 x.High]
def zJM : List PV → Tie
  | [.int .i64 x_From,.int .i64 x_To,.int .i64 x_Low,.int .i64 x_High]=>(⟨x_From,x_To,x_Low,x_High⟩:Tie)
  | _=>default
def zai (g:Nat->List PV):Nat->Tie:=λ i=>zJM (g i)
theorem zaj (f:Nat->Tie):zai (λ i=>enc_40 (f i))=f:=rfl
abbrev zJN (x:(Sl Tie)):List PV:=[.sl x.len 4 (λ i=>enc_40 (x.get i))]
structure Net where
  Nodes:Int
  Ties:(Sl Tie)
deriving Inhabited
abbrev enc_24 (x:Net):List PV:=[.int .i64 x.Nodes,.sl x.Ties.len 4 (λ i=>enc_40 (x.Ties.get i))]
abbrev zbH (x:(Sl Int)):List PV:=[.sl x.len 1 (λ i=>zad (x.get i))]
def zJO : List PV → (Sl Int)
  | [.sl x_n _ x_g]=>(⟨x_n,zaq x_g⟩:(Sl Int))
  | _=>default
def zne (g:Nat->List PV):Nat->(Sl Int):=λ i=>zJO (g i)
theorem zk3 (f:Nat->(Sl Int)):zne (λ i=>zbH (f i))=f:=rfl
structure Span where
  Low:Int
  High:Int
deriving Inhabited
abbrev zbD (x:Span):List PV:=[.int .i64 x.Low,.int .i64 x.High]
def zJP : List PV → Span
  | [.int .i64 x_Low,.int .i64 x_High]=>(⟨x_Low,x_High⟩:Span)
  | _=>default
def zfX (g:Nat->List PV):Nat->Span:=λ i=>zJP (g i)
theorem zfm (f:Nat->Span):zfX (λ i=>zbD (f i))=f:=rfl
structure Pulse where
  A:Int
  B:Int
  TimeA:Int
  TimeB:Int
  Flight:Span
  Jitter:Int
deriving Inhabited
structure Use where
  Tie:Int
  Back:Bool
deriving Inhabited
abbrev zaC (x:Use):List PV:=[.int .i64 x.Tie,.bool x.Back]
def zJQ : List PV → Use
  | [.int .i64 x_Tie,.bool x_Back]=>(⟨x_Tie,x_Back⟩:Use)
  | _=>default
def zcy (g:Nat->List PV):Nat->Use:=λ i=>zJQ (g i)
theorem zcz (f:Nat->Use):zcy (λ i=>zaC (f i))=f:=rfl
structure Flash where
  A:Int
  B:Int
  Time:Int
  Flight:Int
  Wrong:Int
deriving Inhabited
structure web where
  Net:Net
  out:Mp
deriving Inhabited
abbrev zaE (x:web):List PV:=[.int .i64 x.Net.Nodes,.sl x.Net.Ties.len 4 (λ i=>enc_40 (x.Net.Ties.get i)),.fm (false,1,false,[none]) x.out.n x.out.F]
structure far where
  length:Int
  uses:Int
deriving Inhabited
abbrev zcg (x:far):List PV:=[.int .i64 x.length,.int .i64 x.uses]
def zFo : List PV → far
  | [.int .i64 x_length,.int .i64 x_uses]=>(⟨x_length,x_uses⟩:far)
  | _=>default
def zjZ (g:Nat->List PV):Nat->far:=λ i=>zFo (g i)
theorem zjy (f:Nat->far):zjZ (λ i=>zcg (f i))=f:=rfl
abbrev zar (x:Tab):List PV:=zhH 0 80 x
def za0 (l:List PV):Tab:=zlM (zm l)
structure Step where
  From:Int
  To:Int
  Length:Int
  Use:Use
deriving Inhabited
abbrev zbM (x:Step):List PV:=[.int .i64 x.From,.int .i64 x.To,.int .i64 x.Length,.int .i64 x.Use.Tie,.bool x.Use.Back]
structure step where
  Use:Use
  from_:Int
  to:Int
  length:Int
deriving Inhabited
abbrev zaB (x:step):List PV:=[.int .i64 x.Use.Tie,.bool x.Use.Back,.int .i64 x.from_,.int .i64 x.to,.int .i64 x.length]
def zFp : List PV → step
  | [.int .i64 x_Use_Tie,.bool x_Use_Back,.int .i64 x_from_,.int .i64 x_to,.int .i64 x_length]=>(⟨(⟨x_Use_Tie,x_Use_Back⟩:Use),x_from_,x_to,x_length⟩:step)
  | _=>default
def zh2 (g:Nat->List PV):Nat->step:=λ i=>zFp (g i)
theorem zeI (f:Nat->step):zh2 (λ i=>zaB (f i))=f:=rfl
structure tie where
  Tie:Tie
  index:Int
deriving Inhabited
abbrev zqo (x:tie):List PV:=[.int .i64 x.Tie.From,.int .i64 x.Tie.To,.int .i64 x.Tie.Low,.int .i64 x.Tie.High,.int .i64 x.index]
abbrev zwV (x:Tab):List PV:=zhH 0 40 x
abbrev zcX (x:(Sl Tab)):List PV:=[.sl x.len 80 (λ i=>zar (x.get i))]
abbrev tL (T:Tab) (i:Int):Int:=tg 80 T (0+i.toNat * 2+0)
abbrev tU (T:Tab) (i:Int):Int:=tg 80 T (0+i.toNat * 2+0+1)
abbrev tV (T:Tab) (i:Int):Int:=tg 80 T (0+i.toNat * 2+1)
abbrev nvr (x y:Int):Bool:=match (x == (1000000000000:Int)) with | true=>(match (y == (0:Int)) with | true=>true | false=>false) | false=>false
end Go.Proofs
namespace Go.Pm
open Go Go.Deep

theorem zB7 (b o i j:Nat):((⟨b,o,none⟩:Addr).add i).add j=⟨b,o+i+j,none⟩:=by
 simp only[Addr.add]
 by_cases h1:i=0
 ·subst h1
  by_cases h2:j=0
  ·subst h2;rfl
  ·rw[if_neg h2];rfl
 ·rw [if_neg h1]
  by_cases h2:j=0
  ·subst h2;rfl
  ·rw[if_neg h2]
def H0 (w:World):Fz:=λ b=>(w.heap[b]?).map .fz
theorem hw_H0 (w:World):Hw (H0 w) w:=by
 intro b x h
 unfold H0 at h
 cases e:w.heap[b]? with
 | none=>rw[e] at h;cases h
 | some o=>rw[e] at h;cases h;exact⟨o,rfl,rfl⟩
def wfI (x:Int):Prop:=-9223372036854775808<=x/\x<=9223372036854775807
section
variable {H:Type}{en:TypeId×Value->H}{P:Program}{w:World}{sp:Nat->Bool}{held:Bool}
def Rd (H:Type) (en:TypeId×Value->H) (P:Program) (w:World) (sp:Nat->Bool) (held:Bool) (t:TypeId){α:Type}(enc:α->List PV) (wf:α->Prop):Prop :=
 ∀ (fuel:Nat) (cs:List Value) (x:DataW H×List MemPlace),DataW.trod en P w 0 sp held fuel t cs=some x->∃ a:α,RL (Rep (H0 w)) (enc a) cs/\wf a
theorem zJR {t:TypeId}(ht:P.underlying t=some (.int .i64)):Rd H en P w sp held t (λ x=>[.int .i64 x]) wfI:=by
 intro fuel cs x h
 obtain⟨n,rfl,_,hw⟩:=DataW.trod_int ht h
 refine⟨n,⟨.int _ _,trivial⟩,?_⟩
 simp only[Lit.wf,dqm,decide_eq_true_eq] at hw
 exact⟨hw.1,hw.2⟩
theorem zpc {t : TypeId} {fs : Array Field} (ht : P.underlying t = some (.struct fs)) {fuel : Nat} {cs : List Value} {x : DataW H × List MemPlace} (h : DataW.trod en P w 0 sp held fuel t cs = some x) :
  cs.length=P.cellsOf t/\∀ (i:Nat) (f:Field),fs[i]? = some f->∃ n y,DataW.trod en P w 0 sp held n f.type ((cs.drop f.offset).take (P.cellsOf f.type))=some y:=by
 obtain⟨xs,n,_,_,hl,hx,hf⟩:=DataW.trod_struct ht h
 refine⟨hl,λ i f hi=>?_⟩
 have hlt:i < xs.length:=by rw[hx];exact (dqp.1 hi).1
 exact⟨n,xs[i],by rw[hf i f hi,dqD hlt]⟩
theorem zB8 {t e : TypeId} {α : Type} [Inhabited α] {enc : α → List PV} {wf : α → Prop} {s : Nat} (ht : P.underlying t = some (.slice e)) (hc : P.cellsOf e = s) (hs : 0 < s) (hlen : ∀ a, (enc a).length = s)
    (hel:Rd H en P w sp held e enc wf):Rd H en P w sp held t (λ x:Sl α=>[.sl x.len s (λ i=>enc (x.get i))]) (λ x=>x.len<=9223372036854775807/\∀ i,i < x.len->wf (x.get i)):=by
  intro fuel cs x h
  rcases open_slice ht h with ⟨rfl,_⟩ | ⟨a,len,cap,m,n,D,Pl,rfl,_,hl,hm,hmm,_,hget⟩
  · exact⟨⟨0,default⟩,⟨.sl0 _ _,trivial⟩,Nat.zero_le _,λ i hi=>absurd hi (dqW i)⟩
  · by_cases h0 : len = 0
    · subst h0
      exact⟨⟨0,default⟩,⟨.sle _ _ _ _,trivial⟩,Nat.zero_le _,λ i hi=>absurd hi (dqW i)⟩
    · have hlm : len ≤ m := by rw [hmm]; split <;> omega
      rw[hc] at hget
      have hex:∀ i,i < len->∃ y:α,(∃ cs',w.cells? 0 (a.add (i * s)) s=some cs'/\RL (Rep (H0 w)) (enc y) cs')/\wf y:=by
        intro i hi
        obtain⟨cs',h1,h2⟩:=hget i (by omega)
        obtain⟨y,h3,h4⟩:=hel _ _ _ h2
        exact⟨y,⟨cs',h1,h3⟩,h4⟩
      have hch:∃ f:Nat->α,∀ i,i < len->(∃ cs',w.cells? 0 (a.add (i * s)) s=some cs'/\RL (Rep (H0 w)) (enc (f i)) cs')/\wf (f i):=by
        refine⟨λ i=>if hi:i < len then Classical.choose (hex i hi) else default,λ i hi=>?_⟩
        simp only[dif_pos hi]
        exact Classical.choose_spec (hex i hi)
      obtain⟨f,hf⟩:=hch
      -- the block
      have hcell:∀ i,i < len->∀ j,j < s->∃ cs',w.cells? 0 (a.add (i * s)) s=some cs'/\RL (Rep (H0 w)) (enc (f i)) cs'/\w.cell? ((a.add (i * s)).add j)=cs'[j]?/\cs'.length=s:=by
        intro i hi j hj
        obtain⟨⟨cs',h1,h2⟩,_⟩:=hf i hi
        obtain⟨_,h3,h4⟩:=World.cells?_some h1
        exact⟨cs',h1,h2,h4 j hj,h3⟩
      obtain⟨cs0,_,_,hc0,hl0⟩:=hcell 0 (by omega) 0 hs
      have ha0:w.cell? a=cs0[0]?:=by simpa [Addr.add] using hc0
      rw[dqD (by omega)] at ha0
      obtain⟨C,ty,fr,hblk,hspot⟩:∃ C ty fr,w.heap[a.block]? = some (.cells C ty fr)/\a.spot=none:=by
        unfold World.cell? at ha0
        split at ha0
        · rename_i C ty fr hb
          refine⟨C,ty,fr,hb,?_⟩
          cases hsp:a.spot with
          | none=>rfl
          | some k=>rw[hsp] at ha0;simp at ha0
        · cases ha0
      have ea:a=⟨a.block,a.off,none⟩:=by rw[<- hspot]
      have hat:∀ i j,i < len->j < s->∃ cs',RL (Rep (H0 w)) (enc (f i)) cs'/\C[a.off+i * s+j]? = cs'[j]?/\cs'.length=s:=by
        intro i j hi hj
        obtain⟨cs',_,h2,h3,h4⟩:=hcell i hi j hj
        refine⟨cs',h2,?_,h4⟩
        rw[<- h3]
        have e2:(a.add (i * s)).add j=⟨a.block,a.off+i * s+j,none⟩:=(congrArg (λ z:Addr=>(z.add (i * s)).add j) ea).trans (zB7 _ _ _ _)
        rw[e2]
        simp[World.cell?,hblk]
      refine⟨⟨len,f⟩,⟨?_,trivial⟩,by simp only[maxLen] at hm;show len<=_;omega,λ i hi=>(hf i hi).2⟩
      rw[ea]
      refine .sl len s _ a.block a.off cap C ty fr (λ i j=>C.getD (a.off+i * s+j) undef) (by simp[H0,hblk]) hl (λ i _=>hlen _) ?_ ?_
      · intro i j x hi hx
        have hj:j < s:=by have:=(dqn.1 hx).1;rw[hlen] at this;exact this
        obtain⟨cs',h1,h2,h3⟩:=hat i j hi hj
        rw[dql,h2,dqD (by omega)]
        rfl
      · intro i j x hi hx
        have hj:j < s:=by have:=(dqn.1 hx).1;rw[hlen] at this;exact this
        obtain⟨cs',h1,h2,h3⟩:=hat i j hi hj
        obtain⟨v,hv,hr⟩:=h1.get j x hx
        rw[dql,h2,hv]
        exact hr
theorem zeb {α:Type}(l:List α) (o s:Nat):l.drop o=(l.drop o).take s ++ l.drop (o+s):=by
 rw[<- List.drop_drop]
 exact (List.take_append_drop s (l.drop o)).symm
theorem okWide_agg {t:TypeId}{fs:Array Field}{r:Reach}{base:Nat}{v:Value}(ht:P.underlying t=some (.struct fs)) (h:Value.okWide P w r base t v):∃ cs,v=.agg cs:=by
 unfold Value.okWide at h
 rw[ht] at h
 obtain⟨cs,hv,_⟩:=h
 exact⟨cs,hv⟩
def zMG : TypeDesc → Bool
  | .struct _=>false
  | .array _ _=>false
  | _=>true
theorem okWide_one {t:TypeId}{d:TypeDesc}{r:Reach}{base:Nat}{v:Value}(ht:P.underlying t=some d) (hd:zMG d=true) (h:Value.okWide P w r base t v):v.cells.toList=[v]:=by
 unfold Value.okWide at h
 rw[ht] at h
 cases v with
 | agg cs =>
  exfalso
  cases d <;> first | (cases hd;done) | (simp only[Cell.okWide,Cell.ok,ht] at h)
 | _=>rfl
theorem pa_one {h:Fz}{p:PV}{v:Value}(hv:v.cells.toList=[v]) (r:RL (Rep h) [p] v.cells.toList):paR h (.one p) v:=by
 rw[hv] at r
 exact r.1
theorem pa_agg {h:Fz}{l:List PV}{v:Value}(hv:∃ cs,v=.agg cs) (r:RL (Rep h) l v.cells.toList):paR h (.agg l) v:=by
 obtain⟨cs,rfl⟩:=hv
 exact⟨cs.toList,by simp,r⟩
theorem below_H0 {w':World}(b:Bel (H0 w) w.heap.size w w'):Go.RowKit.Below w.heap.size w w' :=
 ⟨b.os,b.tape,b.output,b.size,λ k hk=>b.block k hk λ F e=>by
  unfold H0 at e
  cases hb:w.heap[k]? <;> rw[hb] at e <;> cases e⟩
end
end Go.Pm
namespace Go.Proofs
open Go Go.Pm
set_option maxRecDepth 100000
set_option linter.unusedVariables false
attribute [local irreducible] Go.Pm.vcFun Go.Pm.vc Go.Pm.vcIter
theorem C_3:Tryd.prog.cellsOf 3=1:=by kernel_rfl
theorem zOq:Tryd.prog.cellsOf 22=1:=by kernel_rfl
theorem zOr:Tryd.prog.cellsOf 24=2:=by kernel_rfl
theorem zNZ:Tryd.prog.cellsOf 40=4:=by kernel_rfl
abbrev wf_3 (x:Int):Prop:=wfI x
theorem rd_3 {H:Type}{en:TypeId×Value->H}{w:World}{sp:Nat->Bool}{held:Bool} : Rd H en Tryd.prog w sp held 3 zad wf_3:=zJR Tryd.underlying3
def zJS (x:Tie):Prop:=wf_3 x.From/\wf_3 x.To/\wf_3 x.Low/\wf_3 x.High
theorem zMH {H:Type}{en:TypeId×Value->H}{w:World}{sp:Nat->Bool}{held:Bool} : Rd H en Tryd.prog w sp held 40 enc_40 zJS:=by
  intro fuel cs x h
  obtain⟨hl,hf⟩:=zpc Tryd.underlying40 h
  rw[zNZ] at hl
  obtain⟨n0,y0,g0⟩:=hf 0 _ rfl
  have g0:DataW.trod en Tryd.prog w 0 sp held n0 3 ((cs.drop 0).take (Tryd.prog.cellsOf 3))=some y0:=g0
  rw[C_3] at g0
  obtain⟨a0,r0,w0⟩:=rd_3 _ _ _ g0
  obtain⟨n1,y1,g1⟩:=hf 1 _ rfl
  have g1:DataW.trod en Tryd.prog w 0 sp held n1 3 ((cs.drop 1).take (Tryd.prog.cellsOf 3))=some y1:=g1
  rw[C_3] at g1
  obtain⟨a1,r1,w1⟩:=rd_3 _ _ _ g1
  obtain⟨n2,y2,g2⟩:=hf 2 _ rfl
  have g2:DataW.trod en Tryd.prog w 0 sp held n2 3 ((cs.drop 2).take (Tryd.prog.cellsOf 3))=some y2:=g2
  rw[C_3] at g2
  obtain⟨a2,r2,w2⟩:=rd_3 _ _ _ g2
  obtain⟨n3,y3,g3⟩:=hf 3 _ rfl
  have g3:DataW.trod en Tryd.prog w 0 sp held n3 3 ((cs.drop 3).take (Tryd.prog.cellsOf 3))=some y3:=g3
  rw[C_3] at g3
  obtain⟨a3,r3,w3⟩:=rd_3 _ _ _ g3
  have z:cs.drop 4=[]:=dqO (by omega)
  have R:=(r0.append (r1.append (r2.append (r3.append (show RL (Rep (H0 w)) [] (cs.drop 4) by rw[z];exact zol)))))
  rw[<- (show cs.drop 3=(cs.drop 3).take 1 ++ cs.drop 4 from zeb cs 3 1)] at R
  rw[<- (show cs.drop 2=(cs.drop 2).take 1 ++ cs.drop 3 from zeb cs 2 1)] at R
  rw[<- (show cs.drop 1=(cs.drop 1).take 1 ++ cs.drop 2 from zeb cs 1 1)] at R
  rw[<- (show cs.drop 0=(cs.drop 0).take 1 ++ cs.drop 1 from zeb cs 0 1)] at R
  exact⟨⟨a0,a1,a2,a3⟩,R,⟨w0,w1,w2,w3⟩⟩
def zJT (x:(Sl Tie)):Prop:=x.len<=9223372036854775807/\∀ i,i < x.len->zJS (x.get i)
theorem zMI {H:Type}{en:TypeId×Value->H}{w:World}{sp:Nat->Bool}{held:Bool} : Rd H en Tryd.prog w sp held 22 zJN zJT:=zB8 Tryd.underlying22 zNZ (by decide) (λ _=>rfl) zMH
def wf_24 (x:Net):Prop:=wf_3 x.Nodes/\zJT x.Ties
theorem rd_24 {H:Type}{en:TypeId×Value->H}{w:World}{sp:Nat->Bool}{held:Bool} : Rd H en Tryd.prog w sp held 24 enc_24 wf_24:=by
  intro fuel cs x h
  obtain⟨hl,hf⟩:=zpc Tryd.underlying24 h
  rw[zOr] at hl
  obtain⟨n0,y0,g0⟩:=hf 0 _ rfl
  have g0:DataW.trod en Tryd.prog w 0 sp held n0 3 ((cs.drop 0).take (Tryd.prog.cellsOf 3))=some y0:=g0
  rw[C_3] at g0
  obtain⟨a0,r0,w0⟩:=rd_3 _ _ _ g0
  obtain⟨n1,y1,g1⟩:=hf 1 _ rfl
  have g1:DataW.trod en Tryd.prog w 0 sp held n1 22 ((cs.drop 1).take (Tryd.prog.cellsOf 22))=some y1:=g1
  rw[zOq] at g1
  obtain⟨a1,r1,w1⟩:=zMI _ _ _ g1
  have z:cs.drop 2=[]:=dqO (by omega)
  have R:=(r0.append (r1.append (show RL (Rep (H0 w)) [] (cs.drop 2) by rw[z];exact zol)))
  rw[<- (show cs.drop 1=(cs.drop 1).take 1 ++ cs.drop 2 from zeb cs 1 1)] at R
  rw[<- (show cs.drop 0=(cs.drop 0).take 1 ++ cs.drop 1 from zeb cs 0 1)] at R
  exact⟨⟨a0,a1⟩,R,⟨w0,w1⟩⟩
end Go.Proofs
namespace Go.Proofs
open Go Go.Pm
set_option maxRecDepth 100000
set_option linter.unusedVariables false
attribute [local irreducible] Go.Pm.vcFun Go.Pm.vc Go.Pm.vcIter
abbrev T53:Tabs:=Tabs.nil
theorem zMJ:TabsOk Tryd.prog T53:=TabsOk.nil
abbrev G53:Ctrs:=csm T53 (λ _ _=>[]) (λ _=>false)
def zFq:Ann:=⟨26,[(0,zK [0,1] []),(1,zK [0,1,10] []),(2,zK [4] []),(3,zK [0,1,5] []),(4,zK [0,1,5,14] []),(5,zK [0,1,5] []),(6,zK [0,1,5,25] []),(7,zK [4] []),(8,zK [4] [])],
 [(4,zK [0,1,5] [])],
 [(3,zK [0,1] [])],
 [],[]⟩
abbrev R53:=Bool
abbrev e53 (r:R53):List PA:=[.one (.bool r)]
@[irreducible] def z53:=ptF Tryd.prog G53 zFq Tryd.f53
def zDE (a:(Sl Use)) (b:(Sl Use)) (iv1:Int):St:=⟨[(0,zS zaC 2 a),(1,zS zaC 2 b),(5,zI iv1)],[],[]⟩
abbrev zJU (K:List PA->Prop) (a:(Sl Use)) (b:(Sl Use)) (X:St->Prop) (P:Int->Bool) (S:Int->Bool):Prop:=∀ ⦃iv1:Int⦄,P iv1=true->K (e53 (S iv1))->X (zDE a b iv1)
section
variable {K:List PA->Prop}{a:(Sl Use)}{b:(Sl Use)}{iv1:Int}{X1:St->Prop}{P1:Int->Bool}{S1:Int->Bool}
def ziv (a:(Sl Use)) (b:(Sl Use)) (S1:Int->Bool) (iv1:Int):Bool :=
  (cond (decide (iv1 < (a.len : Int)))
 (cond (!(match ((a.get iv1.toNat).Tie == (b.get iv1.toNat).Tie) with | true => (match ((a.get iv1.toNat).Back == (b.get iv1.toNat).Back) with | true => true | false => false) | false => false))
 false
 (S1 (w64 (iv1+(1:Int)))))
 true)
def ziw (a:(Sl Use)) (b:(Sl Use)) (P1:Int->Bool) (iv1:Int):Bool :=
  (cond (decide (iv1 < (a.len : Int)))
 (decide ((0<=iv1/\iv1 < (a.len:Int))) &&
 (decide ((0<=iv1/\iv1 < (b.len:Int))) &&
 (cond (!(match ((a.get iv1.toNat).Tie == (b.get iv1.toNat).Tie) with | true => (match ((a.get iv1.toNat).Back == (b.get iv1.toNat).Back) with | true => true | false => false) | false => false))
 true
 (P1 (w64 (iv1+(1:Int)))))))
 true)
def zfY (a:(Sl Use)) (b:(Sl Use)):Nat->Int->Bool:=lpO (λ _=>default) (ziv a b)
def zfZ (a:(Sl Use)) (b:(Sl Use)):Nat->Int->Bool:=lpO (λ _=>false) (ziw a b)
def zwW (a:(Sl Use)) (b:(Sl Use)) (iv1:Int):Bool:=zfY a b Fuel iv1
def zwX (a:(Sl Use)) (b:(Sl Use)) (iv1:Int):Bool:=zfZ a b Fuel iv1
theorem zFr (hs:zwX a b iv1=true) (hk:K (e53 (zwW a b iv1))):z53 K [1,1,0,1,0] [] (zDE a b iv1) :=
  zl (λ X=>z53 K [1,1,0,1,0,0] [X]) (by kernel_rfl) λ X1 hX =>
  (show ∀ k, zJU K a b X1 (zfZ a b k) (zfY a b k) from zeH _ _ (ziw a b) (ziv a b) (zJU K a b X1)
 (by intro _ hs;exact absurd hs dqk)
 (by intro P1 S1 hX1 iv1 hs hk;exact hX _ (zaW (by kernel_rfl) (zc hs hk (λ hs hk=>(zaI hs λ hc hs=>And.intro hc (zaI hs λ hc hs=>And.intro hc (zc hs hk (λ hs hk=>hk) (λ hs hk=>(hX1 hs hk)))))) (λ hs hk=>hk))))) _ hs hk
def zwY (a:(Sl Use)) (b:(Sl Use)):Bool :=
  (zwW a b (0:Int))
def zwZ (a:(Sl Use)) (b:(Sl Use)):Bool :=
  (zwX a b (0:Int))
theorem zFs (hs:zwZ a b=true) (hk:K (e53 (zwY a b))):z53 K [1,1] [] ⟨[(0,zS zaC 2 a),(1,zS zaC 2 b)],[],[]⟩:=zaW (by kernel_rfl) (zFr hs hk)
def s53 (a:(Sl Use)) (b:(Sl Use)):Bool :=
  (cond ((a.len : Int) != (b.len : Int))
 false
 (zwY a b))
def p53 (a:(Sl Use)) (b:(Sl Use)):Bool :=
  (cond ((a.len : Int) != (b.len : Int))
 true
 (zwZ a b))
end
theorem q53 (a:(Sl Use)) (b:(Sl Use)) (K:List PA->Prop) (hs:p53 a b=true) (hk:K (e53 (s53 a b))):vcFun Tryd.prog G53 zFq 53 [.one (.sl a.len 2 (λ i=>zaC (a.get i))),.one (.sl b.len 2 (λ i=>zaC (b.get i)))] K :=
  zaW (by kernel_rfl) (zc hs hk (λ hs hk=>hk) (λ hs hk=>(zFs hs hk)))
def zB9 : List PA → COut
  | [.one (.sl zf0 zmh zf1),.one (.sl zg0 zom zgR)]=>.det (IsE zaC 2 zmh zf1/\IsE zaC 2 zom zgR/\p53 (⟨zf0,zcy zf1⟩:(Sl Use)) (⟨zg0,zcy zgR⟩:(Sl Use))=true) [.one (.bool (s53 (⟨zf0,zcy zf1⟩:(Sl Use)) (⟨zg0,zcy zgR⟩:(Sl Use))))]
  | _=>.no
theorem zJV:zav Tryd.prog 53:=⟨_,rfl,rfl,by kernel_rfl⟩
theorem zN0:Ok Tryd.prog 53 zB9:=zbx zMJ zJV λ args K h=>by
  unfold zB9 at h
  split at h
  · rename_i zf0 zmh zf1 zg0 zom zgR
    obtain⟨⟨⟨rfl,zix,rfl⟩,⟨rfl,zk4,rfl⟩,hs⟩,hk⟩:=h
    try rw[zcz zix] at hs
    try rw[zcz zix] at hk
    try rw[zcz zk4] at hs
    try rw[zcz zk4] at hk
    exact⟨(λ _ _=>[]),(λ _=>false),zFq,q53 (⟨zf0,zix⟩:(Sl Use)) (⟨zg0,zk4⟩:(Sl Use)) K hs hk⟩
  · exact h.elim
abbrev T81:Tabs:=Tabs.nil
theorem zMK:TabsOk Tryd.prog T81:=TabsOk.nil
abbrev G81:Ctrs:=csm T81 (λ _ _=>[]) (λ _=>false)
def zJW:Ann:=⟨15,[(0,zK [0,1,2] []),(1,zK [6] [])],
 [],
 [],
 [],[]⟩
abbrev R81:=Bool
abbrev e81 (r:R81):List PA:=[.one (.bool r)]
section
variable {K:List PA->Prop}{n:Int}{low:Int}{high:Int}
def s81 (n:Int) (low:Int) (high:Int):Bool :=
  (cond (decide (n >= low))
 (decide (n<=high))
 false)
end
theorem q81 (n:Int) (low:Int) (high:Int) (K:List PA->Prop) (hk:K (e81 (s81 n low high))):vcFun Tryd.prog G81 zJW 81 [.one (.int .i64 n),.one (.int .i64 low),.one (.int .i64 high)] K :=
  zaW (by kernel_rfl) (zt hk (λ hk=>hk) (λ hk=>hk))
def zuV : List PA → COut
  | [.one (.int .i64 a0),.one (.int .i64 a1),.one (.int .i64 a2)]=>.tot [.one (.bool (s81 a0 a1 a2))]
  | _=>.no
theorem zJX:zav Tryd.prog 81:=⟨_,rfl,rfl,by kernel_rfl⟩
theorem zMh:Ok Tryd.prog 81 zuV:=zbx zMK zJX λ args K h=>by
  unfold zuV at h
  split at h
  · rename_i a0 a1 a2
    have hk:=h
    exact⟨(λ _ _=>[]),(λ _=>false),zJW,q81 a0 a1 a2 K hk⟩
  · exact h.elim
abbrev T78:Tabs:=(Tabs.nil.addF 81 zuV)
theorem zML:TabsOk Tryd.prog T78:=(TabsOk.nil.addF zMh)
abbrev G78:Ctrs:=csm T78 (λ _ _=>[]) (λ _=>false)
def zFt:Ann:=⟨55,[(0,zK [1,2] [2]),(1,zK [1,2,5] [2]),(2,zK [1,2,5,6] [2]),(3,zK [4] [])],
 [],
 [(2,zK [1,2,5] [2]),(3,zK [1,2,5,6] [2])],
 [],[]⟩
abbrev R78:=Bool
abbrev e78 (r:R78):List PA:=[.one (.bool r)]
@[irreducible] def z78:=ptF Tryd.prog G78 zFt Tryd.f78
section
variable {K:List PA->Prop}{t:Tie}{nodes:Int}{znf:Bool}{ztm:Bool}
def zk5 (t:Tie) (nodes:Int) (znf:Bool) (ztm:Bool):Bool :=
  (cond (s81 t.From (0:Int) (w64 (nodes - (1:Int))))
 (cond (s81 t.To (0:Int) (w64 (nodes - (1:Int))))
 (cond (t.From != t.To)
 (cond znf
 (cond ztm
 (decide (t.Low<=t.High))
 false)
 false)
 false)
 false)
 false)
theorem zw0 (hk:K (e78 (zk5 t nodes znf ztm))):z78 K [1,1,1] [] ⟨[(1,zI nodes),(2,zp 2 0),(5,zB znf),(6,zB ztm)],[(2,.box 40 (zm (enc_40 t)))],[]⟩:=zaW (by kernel_rfl) (zt hk (λ hk=>(zt hk (λ hk=>(zt hk (λ hk=>(zt hk (λ hk=>(zt hk (λ hk=>hk) (λ hk=>hk))) (λ hk=>hk))) (λ hk=>hk))) (λ hk=>hk))) (λ hk=>hk))
def zk6 (t:Tie) (nodes:Int) (znf:Bool):Bool :=
  (cond (t.High == (1000000000000:Int))
 (zk5 t nodes znf true)
 (zk5 t nodes znf (s81 t.High (-1000000000:Int) (1000000000:Int))))
theorem zw1 (hk:K (e78 (zk6 t nodes znf))):z78 K [1,1] [] ⟨[(1,zI nodes),(2,zp 2 0),(5,zB znf)],[(2,.box 40 (zm (enc_40 t)))],[]⟩:=zaW (by kernel_rfl) (zt hk (λ hk=>(zw0 hk)) (λ hk=>(zw0 hk)))
def s78 (t:Tie) (nodes:Int):Bool :=
  (cond (t.Low == (-1000000000000:Int))
 (zk6 t nodes true)
 (zk6 t nodes (s81 t.Low (-1000000000:Int) (1000000000:Int))))
end
theorem q78 (t:Tie) (nodes:Int) (K:List PA->Prop) (hk:K (e78 (s78 t nodes))):vcFun Tryd.prog G78 zFt 78 [.agg (enc_40 t),.one (.int .i64 nodes)] K :=
  zaW (by kernel_rfl) (zt hk (λ hk=>(zw1 hk)) (λ hk=>(zw1 hk)))
def zFu : List PA → COut
  | [.agg [.int .i64 zqp,.int .i64 zFv,.int .i64 zw2,.int .i64 zqq],.one (.int .i64 a1)]=>.tot [.one (.bool (s78 (⟨zqp,zFv,zw2,zqq⟩:Tie) a1))]
  | _=>.no
theorem zJY:zav Tryd.prog 78:=⟨_,rfl,rfl,by kernel_rfl⟩
theorem zOs:Ok Tryd.prog 78 zFu:=zbx zML zJY λ args K h=>by
  unfold zFu at h
  split at h
  · rename_i zqp zFv zw2 zqq a1
    have hk:=h
    exact⟨(λ _ _=>[]),(λ _=>false),zFt,q78 (⟨zqp,zFv,zw2,zqq⟩:Tie) a1 K hk⟩
  · exact h.elim
abbrev T67:Tabs:=((Tabs.nil.addF 78 zFu).addF 81 zuV)
theorem zMM:TabsOk Tryd.prog T67:=((TabsOk.nil.addF zOs).addF zMh)
abbrev G67:Ctrs:=csm T67 (λ _ _=>[]) (λ _=>false)
def zCa:Ann:=⟨27,[(0,zK [1] [1]),(1,zK [1,6,7,8] [1]),(2,zK [1,6,7,8,9] [1]),(3,zK [1,4,6,7,8] [1,4]),(4,zK [1,6,7,8,16] [1]),(5,zK [2] []),(6,zK [1,6,7,8] [1]),(7,zK [2] [])],
 [(2,zK [1,6,7,8] [1])],
 [(5,zK [1,6,7,8,16] [1])],
 [],[]⟩
abbrev R67:=Bool
abbrev e67 (r:R67):List PA:=[.one (.bool r)]
@[irreducible] def z67:=ptF Tryd.prog G67 zCa Tryd.f67
def zDF (n:Net) (zdX:Int):St:=⟨[(1,zp 1 0),(6,zS enc_40 4 n.Ties),(7,zI (n.Ties.len:Int)),(8,zI zdX)],[(1,.box 24 (zm (enc_24 n)))],[]⟩
abbrev zFw (K:List PA->Prop) (n:Net) (X:St->Prop) (P:Int->Bool) (S:Int->Bool):Prop:=∀ ⦃zdX:Int⦄,P zdX=true->K (e67 (S zdX))->X (zDF n zdX)
section
variable {K:List PA->Prop}{n:Net}{zdX:Int}{X0:St->Prop}{P0:Int->Bool}{S0:Int->Bool}{zFx:Int}{zqr:Bool}
def zqs (S0:Int->Bool) (n:Net) (zFx:Int) (zqr:Bool):Bool :=
  (cond zqr
 false
 (S0 (w64 (zFx+(1:Int)))))
def zqu (P0:Int->Bool) (n:Net) (zFx:Int) (zqr:Bool):Bool :=
  (cond zqr
 true
 (P0 (w64 (zFx+(1:Int)))))
theorem zFy (hX0:zFw K n X0 P0 S0) (hs:zqu P0 n zFx zqr=true) (hk:K (e67 (zqs S0 n zFx zqr))):z67 K [1,0,1,0,0,1,1,0,0,1,1] [X0] ⟨[(1,zp 1 0),(6,zS enc_40 4 n.Ties),(7,zI (n.Ties.len:Int)),(8,zI zFx),(16,zB zqr)],[(1,.box 24 (zm (enc_24 n)))],[]⟩:=zaW (by kernel_rfl) (zc hs hk (λ hs hk=>hk) (λ hs hk=>(hX0 hs hk)))
def ziy (n:Net) (S0:Int->Bool) (zdX:Int):Bool :=
  (cond (decide (zdX < (n.Ties.len : Int)))
 (zqs S0 n zdX (!(s78 (n.Ties.get zdX.toNat) n.Nodes)))
 (cond (s81 n.Nodes (1:Int) (40:Int))
 (decide ((n.Ties.len:Int)<=(200:Int)))
 false))
def ziz (n:Net) (P0:Int->Bool) (zdX:Int):Bool :=
  (cond (decide (zdX < (n.Ties.len : Int)))
 (decide ((0<=zdX/\zdX < (n.Ties.len:Int))) &&
 (zqu P0 n zdX (!(s78 (n.Ties.get zdX.toNat) n.Nodes))))
 true)
def ziA (n:Net):Nat->Int->Bool:=lpO (λ _=>default) (ziy n)
def ziB (n:Net):Nat->Int->Bool:=lpO (λ _=>false) (ziz n)
def zw3 (n:Net) (zdX:Int):Bool:=ziA n Fuel zdX
def zw4 (n:Net) (zdX:Int):Bool:=ziB n Fuel zdX
theorem zFz (hs:zw4 n zdX=true) (hk:K (e67 (zw3 n zdX))):z67 K [1,0,1,0] [] (zDF n zdX) :=
  zl (λ X=>z67 K [1,0,1,0,0] [X]) (by kernel_rfl) λ X0 hX =>
  (show ∀ k, zFw K n X0 (ziB n k) (ziA n k) from zeH _ _ (ziz n) (ziy n) (zFw K n X0)
 (by intro _ hs;exact absurd hs dqk)
 (by intro P0 S0 hX0 zdX hs hk;exact hX _ (zaW (by kernel_rfl) (zc hs hk (λ hs hk=>(zaI hs λ hc hs=>And.intro hc (zFy hX0 hs hk))) (λ hs hk=>(zt hk (λ hk=>hk) (λ hk=>hk))))))) _ hs hk
def s67 (n:Net):Bool :=
  (zw3 n (0:Int))
def p67 (n:Net):Bool :=
  (zw4 n (0:Int))
end
theorem q67 (n:Net) (K:List PA->Prop) (hs:p67 n=true) (hk:K (e67 (s67 n))):vcFun Tryd.prog G67 zCa 67 [.agg (enc_24 n)] K :=
  zaW (by kernel_rfl) (zFz hs hk)
def zuW : List PA → COut
  | [.agg [.int .i64 zaf,.sl zae zaw zac]]=>.det (IsE enc_40 4 zaw zac/\p67 (⟨zaf,(⟨zae,zai zac⟩:(Sl Tie))⟩:Net)=true) [.one (.bool (s67 (⟨zaf,(⟨zae,zai zac⟩:(Sl Tie))⟩:Net)))]
  | [.agg [.int .i64 zaf,.nils]]=>.det (p67 (⟨zaf,(⟨0,λ _=>default⟩:(Sl Tie))⟩:Net)=true) [.one (.bool (s67 (⟨zaf,(⟨0,λ _=>default⟩:(Sl Tie))⟩:Net)))]
  | _=>.no
theorem zJZ:zav Tryd.prog 67:=⟨_,rfl,rfl,by kernel_rfl⟩
theorem zMi:Ok Tryd.prog 67 zuW:=zhl zMM zJZ λ args K h=>by
  unfold zuW at h
  split at h
  · rename_i zaf zae zaw zac
    obtain⟨⟨⟨rfl,zak,rfl⟩,hs⟩,hk⟩:=h
    try rw[zaj zak] at hs
    try rw[zaj zak] at hk
    exact⟨_,zfB zfV _,(λ _ _=>[]),(λ _=>false),zCa,q67 (⟨zaf,(⟨zae,zak⟩:(Sl Tie))⟩:Net) (Wk K) hs (zfW hk)⟩
  · rename_i zaf
    obtain⟨hs,hk⟩:=h
    exact⟨_,(zhB (.agg (zhB (.rfl _) (zhB (.nil _ _) zol))) zol),(λ _ _=>[]),(λ _=>false),zCa,q67 (⟨zaf,(⟨0,λ _=>default⟩:(Sl Tie))⟩:Net) (Wk K) hs (zfW hk)⟩
  · exact h.elim
abbrev T93:Tabs:=Tabs.nil
theorem zMN:TabsOk Tryd.prog T93:=TabsOk.nil
abbrev G93:Ctrs:=csm T93 (λ _ _=>[]) (λ _=>false)
def zFA:Ann:=⟨4,[(0,zK [1] [1]),(1,zK [2] [])],
 [],
 [],
 [],[]⟩
theorem zFB (w : web) (K : List PA → Prop) :
  vcFun Tryd.prog G93 zFA 93 [.one (.fp (zaE w) 0)] K =
  (K [.one (.fn 110 [] [.fp [.fp (zaE w) 0] 0])]):=by kernel_rfl
theorem q93 (w:web) (K:List PA->Prop) (hk:K [.one (.fn 110 [] [.fp [.fp (zaE w) 0] 0])]):vcFun Tryd.prog G93 zFA 93 [.one (.fp (zaE w) 0)] K:=zaW (zFB w K) hk
def zpd : List PA → COut
  | [.one (.fp [.int .i64 zat,.sl zan zaK zao,.fm zbz zaL zaM] 0)]=>.det (IsE enc_40 4 zaK zao/\zbz=(false,1,false,[none])) [.one (.fn 110 [] [.fp [.fp (zaE (⟨(⟨(⟨zat,(⟨zan,zai zao⟩:(Sl Tie))⟩:Net),(⟨zaL,zaM⟩:Mp)⟩:web).Net,((⟨(⟨zat,(⟨zan,zai zao⟩:(Sl Tie))⟩:Net),(⟨zaL,zaM⟩:Mp)⟩:web).out)⟩:web)) 0] 0])]
  | _=>.no
theorem zJ0:zav Tryd.prog 93:=⟨_,rfl,rfl,by kernel_rfl⟩
theorem zI6:Ok Tryd.prog 93 zpd:=zbx zMN zJ0 λ args K h=>by
  unfold zpd at h
  split at h
  · rename_i zat zan zaK zao zbz zaL zaM
    obtain⟨⟨⟨rfl,zaA,rfl⟩,rfl⟩,hk⟩:=h
    try rw[zaj zaA] at hk
    exact⟨λ _ _=>[],λ _=>false,zFA,q93 (⟨(⟨zat,(⟨zan,zaA⟩:(Sl Tie))⟩:Net),(⟨zaL,zaM⟩:Mp)⟩:web) K hk⟩
  · exact h.elim
abbrev T94:Tabs:=Tabs.nil
theorem zMO:TabsOk Tryd.prog T94:=TabsOk.nil
abbrev G94:Ctrs:=csm T94 (λ _ _=>[]) (λ _=>false)
def zJ1:Ann:=⟨21,[(0,zK [1,2] [1,2]),(1,zK [2,3] [2])],
 [],
 [],
 [],[]⟩
abbrev R94:=(step×Bool)
abbrev e94 (r:R94):List PA:=[.agg [.int .i64 r.1.Use.Tie,.bool r.1.Use.Back,.int .i64 r.1.from_,.int .i64 r.1.to,.int .i64 r.1.length],.one (.bool r.2)]
section
variable {K:List PA->Prop}{t:tie}
def s94 (t:tie):(step×Bool) :=
  ((⟨(⟨t.index,false⟩:Use),t.Tie.From,t.Tie.To,t.Tie.High⟩:step),(t.Tie.High != (1000000000000:Int)))
end
theorem q94 (t:tie) (K:List PA->Prop) (hk:K (e94 (s94 t))):vcFun Tryd.prog G94 zJ1 94 [.agg (zqo t)] K :=
  zaW (by kernel_rfl) hk
def zCb : List PA → COut
  | [.agg [.int .i64 zbb,.int .i64 zbI,.int .i64 zbu,.int .i64 zbc,.int .i64 zbT]]=>.tot [.agg [.int .i64 (((s94 (⟨(⟨zbb,zbI,zbu,zbc⟩:Tie),zbT⟩:tie)).1).Use.Tie),.bool (((s94 (⟨(⟨zbb,zbI,zbu,zbc⟩:Tie),zbT⟩:tie)).1).Use.Back),.int .i64 (((s94 (⟨(⟨zbb,zbI,zbu,zbc⟩:Tie),zbT⟩:tie)).1).from_),.int .i64 (((s94 (⟨(⟨zbb,zbI,zbu,zbc⟩:Tie),zbT⟩:tie)).1).to),.int .i64 (((s94 (⟨(⟨zbb,zbI,zbu,zbc⟩:Tie),zbT⟩:tie)).1).length)],.one (.bool ((s94 (⟨(⟨zbb,zbI,zbu,zbc⟩:Tie),zbT⟩:tie)).2))]
  | _=>.no
theorem zJ2:zav Tryd.prog 94:=⟨_,rfl,rfl,by kernel_rfl⟩
theorem zN1:Ok Tryd.prog 94 zCb:=zbx zMO zJ2 λ args K h=>by
  unfold zCb at h
  split at h
  · rename_i zbb zbI zbu zbc zbT
    have hk:=h
    exact⟨(λ _ _=>[]),(λ _=>false),zJ1,q94 (⟨(⟨zbb,zbI,zbu,zbc⟩:Tie),zbT⟩:tie) K hk⟩
  · exact h.elim
abbrev T95:Tabs:=Tabs.nil
theorem zMP:TabsOk Tryd.prog T95:=TabsOk.nil
abbrev G95:Ctrs:=csm T95 (λ _ _=>[]) (λ _=>false)
def zJ3:Ann:=⟨22,[(0,zK [1,2] [1,2]),(1,zK [2,3] [2])],
 [],
 [],
 [],[]⟩
abbrev R95:=(step×Bool)
abbrev e95 (r:R95):List PA:=[.agg [.int .i64 r.1.Use.Tie,.bool r.1.Use.Back,.int .i64 r.1.from_,.int .i64 r.1.to,.int .i64 r.1.length],.one (.bool r.2)]
section
variable {K:List PA->Prop}{t:tie}
def s95 (t:tie):(step×Bool) :=
  ((⟨(⟨t.index,true⟩:Use),t.Tie.To,t.Tie.From,(w64 (0 - t.Tie.Low))⟩:step),(t.Tie.Low != (-1000000000000:Int)))
end
theorem q95 (t:tie) (K:List PA->Prop) (hk:K (e95 (s95 t))):vcFun Tryd.prog G95 zJ3 95 [.agg (zqo t)] K :=
  zaW (by kernel_rfl) hk
def zCc : List PA → COut
  | [.agg [.int .i64 zbb,.int .i64 zbI,.int .i64 zbu,.int .i64 zbc,.int .i64 zbT]]=>.tot [.agg [.int .i64 (((s95 (⟨(⟨zbb,zbI,zbu,zbc⟩:Tie),zbT⟩:tie)).1).Use.Tie),.bool (((s95 (⟨(⟨zbb,zbI,zbu,zbc⟩:Tie),zbT⟩:tie)).1).Use.Back),.int .i64 (((s95 (⟨(⟨zbb,zbI,zbu,zbc⟩:Tie),zbT⟩:tie)).1).from_),.int .i64 (((s95 (⟨(⟨zbb,zbI,zbu,zbc⟩:Tie),zbT⟩:tie)).1).to),.int .i64 (((s95 (⟨(⟨zbb,zbI,zbu,zbc⟩:Tie),zbT⟩:tie)).1).length)],.one (.bool ((s95 (⟨(⟨zbb,zbI,zbu,zbc⟩:Tie),zbT⟩:tie)).2))]
  | _=>.no
theorem zJ4:zav Tryd.prog 95:=⟨_,rfl,rfl,by kernel_rfl⟩
theorem zN2:Ok Tryd.prog 95 zCc:=zbx zMP zJ4 λ args K h=>by
  unfold zCc at h
  split at h
  · rename_i zbb zbI zbu zbc zbT
    have hk:=h
    exact⟨(λ _ _=>[]),(λ _=>false),zJ3,q95 (⟨(⟨zbb,zbI,zbu,zbc⟩:Tie),zbT⟩:tie) K hk⟩
  · exact h.elim
abbrev zN3:Tabs:=((Tabs.nil.addF 94 zCb).addF 95 zCc)
theorem zJ5:TabsOk Tryd.prog zN3:=((TabsOk.nil.addF zN1).addF zN2)
abbrev zJ6:Ctrs:=csm zN3 (λ _ _=>[]) (λ _=>false)
def zjz:Ann:=⟨52,[(0,zK [0,1,14,15,16] []),(1,zK [0,1,14,15,16,17] []),(2,zK [0,1,3,4,14,15,16] [4]),(3,zK [0,1,3,4,14,15,16,26] [4]),(4,zK [0,1,5,14,15,16] [5]),(5,zK [0,1,14,15,16,34,35] []),(6,zK [0,1,14,15,16,34,35,36] []),(7,zK [0,1,7,14,15,16,34,35] []),(8,zK [0,1,8,9,14,15,16,34,35] [8]),(9,zK [0,1,14,15,16,34,35,49] []),(10,zK [0,1,14,15,16,34,35] []),(11,zK [0,1,14,15,16] [])],
 [(1,zK [0,1,14,15,16] [])],
 [],
 [(6,3,zK [0,1,14,15,16,34,35] [])],[9]⟩
def zei (l:Nat) (a:web) (zaJ:Int):St:=⟨[(0,.one (.c (.p (.yl l)))),(1,.one (.c (.p (.fp [.fp (zaE a) 0] 0)))),(14,.one (.c (.p (.sl a.Net.Ties.len 4 (λ i=>enc_40 (a.Net.Ties.get i)))))),(15,.one (.c (.p (.int .i64 (a.Net.Ties.len:Int))))),(16,.one (.c (.p (.int .i64 zaJ))))],[],[]⟩
def zh3 (l:Nat) (ys:List (List PA)) (a:web) (zaJ:Int):Prop:=vcY Tryd.prog zJ6 zjz l (cdF Tryd.f110 [1,0]) (zos 0 zBk) ys false (zei l a zaJ)
theorem zCd (l : Nat) (a : web) (ys : List (List PA)) :
  vcIter Tryd.prog zJ6 zjz 110 l [.one (.fp [.fp (zaE a) 0] 0)] ys =
  (zh3 l ys a (0:Int)):=by kernel_rfl
def zmi (l:Nat) (X0:List (List PA)->Bool->St->Prop) (ys:List (List PA)) (a:web) (zaJ:Int):Prop :=
  (zdN (decide (zaJ < (a.Net.Ties.len : Int)))
 (((0<=zaJ/\zaJ < (a.Net.Ties.len:Int))) /\
 (zdN ((zup (a.out.F [zaJ]) 0) != 0)
 (X0 ys false (zei l a (w64 (zaJ+(1:Int)))))
 (zdN ((s94 (⟨(a.Net.Ties.get zaJ.toNat), zaJ⟩ : tie)).2)
 (l=l/\∃ r1,ys=[.agg [.int .i64 (((s94 (⟨(a.Net.Ties.get zaJ.toNat),zaJ⟩:tie)).1).Use.Tie),.bool (((s94 (⟨(a.Net.Ties.get zaJ.toNat),zaJ⟩:tie)).1).Use.Back),.int .i64 (((s94 (⟨(a.Net.Ties.get zaJ.toNat),zaJ⟩:tie)).1).from_),.int .i64 (((s94 (⟨(a.Net.Ties.get zaJ.toNat),zaJ⟩:tie)).1).to),.int .i64 (((s94 (⟨(a.Net.Ties.get zaJ.toNat),zaJ⟩:tie)).1).length)]] :: r1 /\
 (zdN ((s95 (⟨(a.Net.Ties.get zaJ.toNat), zaJ⟩ : tie)).2)
 (l=l/\∃ r2,r1=[.agg [.int .i64 (((s95 (⟨(a.Net.Ties.get zaJ.toNat),zaJ⟩:tie)).1).Use.Tie),.bool (((s95 (⟨(a.Net.Ties.get zaJ.toNat),zaJ⟩:tie)).1).Use.Back),.int .i64 (((s95 (⟨(a.Net.Ties.get zaJ.toNat),zaJ⟩:tie)).1).from_),.int .i64 (((s95 (⟨(a.Net.Ties.get zaJ.toNat),zaJ⟩:tie)).1).to),.int .i64 (((s95 (⟨(a.Net.Ties.get zaJ.toNat),zaJ⟩:tie)).1).length)]] :: r2 /\
 (X0 r2 false (zei l a (w64 (zaJ+(1:Int)))))/\True)
 (X0 r1 false (zei l a (w64 (zaJ+(1:Int))))))/\True)
 (zdN ((s95 (⟨(a.Net.Ties.get zaJ.toNat), zaJ⟩ : tie)).2)
 (l=l/\∃ r3,ys=[.agg [.int .i64 (((s95 (⟨(a.Net.Ties.get zaJ.toNat),zaJ⟩:tie)).1).Use.Tie),.bool (((s95 (⟨(a.Net.Ties.get zaJ.toNat),zaJ⟩:tie)).1).Use.Back),.int .i64 (((s95 (⟨(a.Net.Ties.get zaJ.toNat),zaJ⟩:tie)).1).from_),.int .i64 (((s95 (⟨(a.Net.Ties.get zaJ.toNat),zaJ⟩:tie)).1).to),.int .i64 (((s95 (⟨(a.Net.Ties.get zaJ.toNat),zaJ⟩:tie)).1).length)]] :: r3 /\
 (X0 r3 false (zei l a (w64 (zaJ+(1:Int)))))/\True)
 (X0 ys false (zei l a (w64 (zaJ+(1:Int)))))))))
 (ys=[]))
theorem zpe (l : Nat) (X0 : List (List PA) → Bool → St → Prop) (ys : List (List PA)) (a : web) (zaJ : Int) :
  vcY Tryd.prog zJ6 zjz l (cd (cdF Tryd.f110 [1,0]) [0]) (zBi Tryd.prog zjz 1 X0 (zos 0 zBk)) ys false (zei l a zaJ) =
  zmi l X0 ys a zaJ:=by kernel_rfl
theorem zuX (l : Nat) (ys : List (List PA)) (a : web) (zaJ : Int)
  (h:∀ X0:List (List PA)->Bool->St->Prop,(∀ (ys:List (List PA)) (zaJ:Int),zmi l X0 ys a zaJ->X0 ys false (zei l a zaJ))->X0 ys false (zei l a zaJ)) :
  zh3 l ys a zaJ:=by
  have e:zh3 l ys a zaJ=(∀ X:List (List PA)->Bool->St->Prop,(∀ ys q s,vcY Tryd.prog zJ6 zjz l (cd (cdF Tryd.f110 [1,0]) [0]) (zBi Tryd.prog zjz 1 X (zos 0 zBk)) ys q s->X ys q s)->X ys false (zei l a zaJ)):=by kernel_rfl
  refine zaW e ?_
  intro X hX
  refine h X ?_
  intro ys zaJ hs
  refine hX _ _ _ ?_
  have e2:=zpe l X ys a zaJ
  rw[e2]
  exact hs
attribute [irreducible] zh3
def zfn (a:web) (S0:Int->List step) (zaJ:Int):List step :=
  (cond (decide (zaJ < (a.Net.Ties.len : Int)))
 (cond ((zup (a.out.F [zaJ]) 0) != 0)
 (S0 (w64 (zaJ+(1:Int))))
 (cond ((s94 (⟨(a.Net.Ties.get zaJ.toNat), zaJ⟩ : tie)).2)
 (((s94 (⟨(a.Net.Ties.get zaJ.toNat), zaJ⟩ : tie)).1) :: (cond ((s95 (⟨(a.Net.Ties.get zaJ.toNat), zaJ⟩ : tie)).2)
 (((s95 (⟨(a.Net.Ties.get zaJ.toNat),zaJ⟩:tie)).1) :: (S0 (w64 (zaJ+(1:Int)))))
 (S0 (w64 (zaJ+(1:Int))))))
 (cond ((s95 (⟨(a.Net.Ties.get zaJ.toNat), zaJ⟩ : tie)).2)
 (((s95 (⟨(a.Net.Ties.get zaJ.toNat),zaJ⟩:tie)).1) :: (S0 (w64 (zaJ+(1:Int)))))
 (S0 (w64 (zaJ+(1:Int)))))))
 [])
def zfo (a:web) (P0:Int->Bool) (zaJ:Int):Bool :=
  (cond (decide (zaJ < (a.Net.Ties.len : Int)))
 (decide ((0<=zaJ/\zaJ < (a.Net.Ties.len:Int))) &&
 (cond ((zup (a.out.F [zaJ]) 0) != 0)
 (P0 (w64 (zaJ+(1:Int))))
 (cond ((s94 (⟨(a.Net.Ties.get zaJ.toNat), zaJ⟩ : tie)).2)
 (cond ((s95 (⟨(a.Net.Ties.get zaJ.toNat), zaJ⟩ : tie)).2)
 (P0 (w64 (zaJ+(1:Int))))
 (P0 (w64 (zaJ+(1:Int)))))
 (cond ((s95 (⟨(a.Net.Ties.get zaJ.toNat), zaJ⟩ : tie)).2)
 (P0 (w64 (zaJ+(1:Int))))
 (P0 (w64 (zaJ+(1:Int))))))))
 true)
def zeJ (a : web) : Nat → Int → List step
  | 0=>λ _=>[]
  | k+1=>zfn a (zeJ a k)
def zeK (a : web) : Nat → Int → Bool
  | 0=>λ _=>false
  | k+1=>zfo a (zeK a k)
def ztn (a:web) (zaJ:Int):List step:=zeJ a Fuel zaJ
def zto (a:web) (zaJ:Int):Bool:=zeK a Fuel zaJ
theorem zCe (l:Nat) (a:web) (ys:List (List PA)) (zaJ:Int) (hs:zto a zaJ=true) (hk:ys=(ztn a zaJ).map (λ y=>[.agg (zaB y)])):zh3 l ys a zaJ:=by
  refine zuX l ys a zaJ ?_
  intro X0 hstep
  have key:∀ (k:Nat) (ys:List (List PA)) (zaJ:Int),zeK a k zaJ=true->ys=(zeJ a k zaJ).map (λ y=>[.agg (zaB y)])->X0 ys false (zei l a zaJ):=by
    intro k
    induction k with
    | zero=>intro ys zaJ hs;exact absurd hs dqk
    | succ k ih =>
      intro ys zaJ hs hk
      refine hstep ys zaJ ?_
      have hs:zfo a (zeK a k) zaJ=true:=hs
      have hk:ys=(zfn a (zeJ a k) zaJ).map (λ y=>[.agg (zaB y)]):=hk
      unfold zfo at hs
      unfold zfn at hk
      generalize zeJ a k=S0 at hk ih
      generalize zeK a k=P0 at hs ih
      have hX0:=ih
      exact (zh1 hs hk
 (λ hs hk => (zaI hs λ hc hs => ⟨hc, (zh1 hs hk
 (λ hs hk=>(hX0 _ (w64 (zaJ+(1:Int))) hs hk))
 (λ hs hk => (zh1 hs hk
 (λ hs hk => (itY hk rfl (λ _ hk => (zh1 hs hk
 (λ hs hk=>(itY hk rfl (λ _ hk=>(hX0 _ (w64 (zaJ+(1:Int))) hs hk))))
 (λ hs hk=>(hX0 _ (w64 (zaJ+(1:Int))) hs hk))))))
 (λ hs hk => (zh1 hs hk
 (λ hs hk=>(itY hk rfl (λ _ hk=>(hX0 _ (w64 (zaJ+(1:Int))) hs hk))))
 (λ hs hk=>(hX0 _ (w64 (zaJ+(1:Int))) hs hk)))))))⟩))
 (fun hs hk=>hk))
  exact key _ _ zaJ hs hk
def zk7 (a:web):List step :=
  (ztn a (0:Int))
def zvf (a:web):Bool :=
  (zto a (0:Int))
theorem zOt (l:Nat) (a:web) (ys:List (List PA)) (hs:zvf a=true) (hk:ys=(zk7 a).map (λ y=>[.agg (zaB y)])):vcIter Tryd.prog zJ6 zjz 110 l [.one (.fp [.fp (zaE a) 0] 0)] ys:=by
  refine zaW (zCd l a ys) ?_
  unfold zvf at hs
  unfold zk7 at hk
  exact (zCe l a _ (0:Int) hs hk)
def zpf : List PA → Option (Prop × List (List PA))
  | [.one (.fp [.fp [.int .i64 a_Net_Nodes,.sl a_Net_Ties_n a_Net_Ties_s a_Net_Ties_g,.fm a_out_q a_out_n a_out_F] 0] 0)]=>some (IsE enc_40 4 a_Net_Ties_s a_Net_Ties_g/\a_out_q=(false,1,false,[none])/\zvf (⟨(⟨a_Net_Nodes,(⟨a_Net_Ties_n,zai a_Net_Ties_g⟩:(Sl Tie))⟩:Net),(⟨a_out_n,a_out_F⟩:Mp)⟩:web)=true,(zk7 (⟨(⟨a_Net_Nodes,(⟨a_Net_Ties_n,zai a_Net_Ties_g⟩:(Sl Tie))⟩:Net),(⟨a_out_n,a_out_F⟩:Mp)⟩:web)).map λ y=>[.agg (zaB y)])
  | _=>none
theorem zFC:zav Tryd.prog 110:=⟨_,rfl,rfl,by kernel_rfl⟩
theorem zuY:zDm Tryd.prog 110 zpf:=zJJ zJ5 zFC λ l caps safe ys h hs=>by
  unfold zpf at h
  split at h
  · rename_i a_Net_Nodes a_Net_Ties_n a_Net_Ties_s a_Net_Ties_g a_out_q a_out_n a_out_F
    cases h
    obtain⟨⟨rfl,a_Net_Ties_f,rfl⟩,rfl,hs⟩:=hs
    try rw[zaj a_Net_Ties_f] at hs
    try rw[zaj a_Net_Ties_f]
    exact⟨λ _ _=>[],λ _=>false,zjz,zOt l (⟨(⟨a_Net_Nodes,(⟨a_Net_Ties_n,a_Net_Ties_f⟩:(Sl Tie))⟩:Net),(⟨a_out_n,a_out_F⟩:Mp)⟩:web) _ hs rfl⟩
  · cases h
abbrev T88:Tabs:=((Tabs.nil.addF 93 zpd).addI 110 zpf)
theorem zMQ:TabsOk Tryd.prog T88:=((TabsOk.nil.addF zI6).addI zuY)
abbrev G88:Ctrs:=csm T88 (λ _ _=>[]) (λ _=>false)
def zw5:Ann:=⟨37,[(0,zK [0] []),(1,zK [0,3] [3]),(2,zK [0,3,11,12] [3]),(3,zK [0,3,11,12,13] [3]),(4,zK [0,3,4,11,12] [3,4]),(5,zK [0,3,4,11,12,15] [3,4]),(6,zK [0,3,4,5,11,12,15] [3,4,5]),(7,zK [0,3,4,5,6,11,12,15] [3,4,5]),(8,zK [0,3,4,5,6,11,12,15,29] [3,4,5]),(9,zK [0,3,4,11,12,15] [3,4]),(10,zK [0,3,4,11,12,15] [3,4]),(11,zK [0,3,11,12,35] [3]),(12,zK [2] []),(13,zK [0,3,11,12] [3]),(14,zK [2] [])],
 [(3,zK [0,3,11,12] [3]),(6,zK [0,3,4,11,12,15] [3,4])],
 [],
 [],[]⟩
abbrev R88:=Bool
abbrev e88 (r:R88):List PA:=[.one (.bool r)]
@[irreducible] def z88:=ptF Tryd.prog G88 zw5 Tryd.f88
@[irreducible] def x88:=exF Tryd.prog G88 zw5 Tryd.f88
@[irreducible] def y88:=rnF Tryd.prog G88 zw5 Tryd.f88
def zDG (w:web) (zb7:Int) (dt0:Tab):St:=⟨[(0,zP (.fp (zaE w) 0)),(3,zp 3 0),(11,zI w.Net.Nodes),(12,zI zb7)],[(3,.box 157 (zm (zwV dt0)))],[]⟩
abbrev zFD (K:List PA->Prop) (w:web) (X:St->Prop) (P:Int->Tab->Bool) (S:Int->Tab->Bool):Prop:=∀ ⦃zb7:Int⦄ ⦃dt0:Tab⦄,P zb7 dt0=true->K (e88 (S zb7 dt0))->X (zDG w zb7 dt0)
def zw6 (w:web) (zb8:Int) (zaG:Bool) (dt1:Tab):St:=⟨[(0,zP (.fp (zaE w) 0)),(3,zp 3 0),(4,zp 4 0),(11,zI w.Net.Nodes),(12,zI zb8),(15,zP (.fn 110 [] [.fp [.fp (zaE w) 0] 0]))],[(3,.box 157 (zm (zwV dt1))),(4,.box 4 [.p (.bool zaG)])],[]⟩
abbrev zJ7 (K:List PA->Prop) (w:web) (X:St->Prop) (P:Int->Bool->Tab->Bool) (S:Int->Bool->Tab->Bool):Prop:=∀ ⦃zb8:Int⦄ ⦃zaG:Bool⦄ ⦃dt1:Tab⦄,P zb8 zaG dt1=true->K (e88 (S zb8 zaG dt1))->X (zw6 w zb8 zaG dt1)
section
variable {K:List PA->Prop}{w:web}{zb7:Int}{dt0:Tab}{X0:St->Prop}{P0:Int->Tab->Bool}{S0:Int->Tab->Bool}{zb8:Int}{zaG:Bool}{dt1:Tab}
def zng (S0:Int->Tab->Bool) (w:web) (zb8:Int) (zaG:Bool) (dt1:Tab):Bool :=
  (cond (!zaG)
 false
 (S0 (w64 (zb8+(1:Int))) dt1))
def znh (P0:Int->Tab->Bool) (w:web) (zb8:Int) (zaG:Bool) (dt1:Tab):Bool :=
  (cond (!zaG)
 true
 (P0 (w64 (zb8+(1:Int))) dt1))
def zni (S0:Int->Tab->Bool) (w:web) (y1:step) (S1:Int->Bool->Tab->Bool) (zb8:Int) (zaG:Bool) (dt1:Tab):Bool :=
  (cond (decide ((w64 ((tg 40 dt1 (0 + y1.from_.toNat * 1 + 0)) + y1.length)) < (tg 40 dt1 (0 + y1.to.toNat * 1 + 0))))
 (S1 zb8 true (ts 40 dt1 (0+y1.to.toNat * 1+0) [(w64 ((tg 40 dt1 (0+y1.from_.toNat * 1+0))+y1.length))]))
 (S1 zb8 zaG dt1))
def znj (P0:Int->Tab->Bool) (w:web) (y1:step) (P1:Int->Bool->Tab->Bool) (zb8:Int) (zaG:Bool) (dt1:Tab):Bool :=
  (decide ((0<=y1.from_/\y1.from_ < (40:Int))) &&
 (decide ((0<=y1.to/\y1.to < (40:Int))) &&
 (cond (decide ((w64 ((tg 40 dt1 (0 + y1.from_.toNat * 1 + 0)) + y1.length)) < (tg 40 dt1 (0 + y1.to.toNat * 1 + 0))))
 (decide ((0<=y1.to/\y1.to < (40:Int))) &&
 (P1 zb8 true (ts 40 dt1 (0+y1.to.toNat * 1+0) [(w64 ((tg 40 dt1 (0+y1.from_.toNat * 1+0))+y1.length))])))
 (P1 zb8 zaG dt1))))
def zf2 (S0:Int->Tab->Bool) (w:web):List step->Int->Bool->Tab->Bool:=lpR (zng S0 w) (zni S0 w)
def zf3 (P0:Int->Tab->Bool) (w:web):List step->Int->Bool->Tab->Bool:=lpR (znh P0 w) (znj P0 w)
def zqv (S0:Int->Tab->Bool) (w:web) (zb8:Int) (zaG:Bool) (dt1:Tab):Bool:=zf2 S0 w (zk7 w) zb8 zaG dt1
def zqw (P0:Int->Tab->Bool) (w:web) (zb8:Int) (zaG:Bool) (dt1:Tab):Bool:=decide ((zvf w=true)) && zf3 P0 w (zk7 w) zb8 zaG dt1
theorem zFE (hX0:zFD K w X0 P0 S0) (hs:zqw P0 w zb8 zaG dt1=true) (hk:K (e88 (zqv S0 w zb8 zaG dt1))):z88 K [1,1,0,1,0,0,1,1,0,0,1,0,1,0] [X0] (zw6 w zb8 zaG dt1) :=
  zaI hs λ hc hs=>zr (enc:=(λ y:step=>[.agg (zaB y)])) (ys:=zk7 w) (g:=(zw6 w zb8 zaG dt1)) (x88 K [1,1,0,1,0,0,1,1,0,0,1,0,1,0] [X0]) (y88 K [1,1,0,1,0,0,1,1,0,0,1,0,1,0] [X0]) (by kernel_rfl) (And.intro (zE enc_40 4 w.Net.Ties.get) (And.intro (rfl:((false,1,false,[none]):MQ)=(false,1,false,[none])) hc)) λ X1 hE hR =>
  (show ∀ l : List step, zJ7 K w (X1 (l.map (λ y : step => [.agg (zaB y)]))) (zf3 P0 w l) (zf2 S0 w l) from zri (X := X1) (enc := (λ y : step => [.agg (zaB y)])) _ _ (znj P0 w) (zni S0 w) (λ Z P S => zJ7 K w Z P S)
 (by intro zb8 zaG dt1 hs hk;exact hE _ (zaW (by kernel_rfl) (zc hs hk (λ hs hk=>hk) (λ hs hk=>(hX0 hs hk)))))
 (by intro y1 rest P1 S1 hX1 zb8 zaG dt1 hs hk;exact hR _ rest _ (zaW (by kernel_rfl) (zaI hs λ hc hs=>And.intro hc (zaI hs λ hc hs=>And.intro hc (zc hs hk (λ hs hk=>(zaI hs λ hc hs=>And.intro hc (hX1 hs hk))) (λ hs hk=>(hX1 hs hk)))))))) _ hs hk
def ziC (w:web) (S0:Int->Tab->Bool) (zb7:Int) (dt0:Tab):Bool :=
  (cond (decide (zb7 < w.Net.Nodes))
 (zqv S0 w zb7 false dt0)
 true)
def ziD (w:web) (P0:Int->Tab->Bool) (zb7:Int) (dt0:Tab):Bool :=
  (cond (decide (zb7 < w.Net.Nodes))
 (zqw P0 w zb7 false dt0)
 true)
def ziE (w:web):Nat->Int->Tab->Bool:=lpO (λ _ _=>default) (ziC w)
def ziF (w:web):Nat->Int->Tab->Bool:=lpO (λ _ _=>false) (ziD w)
def zw7 (w:web) (zb7:Int) (dt0:Tab):Bool:=ziE w Fuel zb7 dt0
def zw8 (w:web) (zb7:Int) (dt0:Tab):Bool:=ziF w Fuel zb7 dt0
theorem zFF (hs:zw8 w zb7 dt0=true) (hk:K (e88 (zw7 w zb7 dt0))):z88 K [1,1,0,1,0] [] (zDG w zb7 dt0) :=
  zl (λ X=>z88 K [1,1,0,1,0,0] [X]) (by kernel_rfl) λ X0 hX =>
  (show ∀ k, zFD K w X0 (ziF w k) (ziE w k) from zeH _ _ (ziD w) (ziC w) (zFD K w X0)
 (by intro _ _ hs;exact absurd hs dqk)
 (by intro P0 S0 hX0 zb7 dt0 hs hk;exact hX _ (zaW (by kernel_rfl) (zc hs hk (λ hs hk=>(And.intro (And.intro (zE enc_40 4 w.Net.Ties.get) (rfl:((false,1,false,[none]):MQ)=(false,1,false,[none]))) (zFE hX0 hs hk))) (λ hs hk=>hk))))) _ hs hk
def s88 (w:web):Bool :=
  (zw7 w (0:Int) (λ _=>(0:Int)))
def p88 (w:web):Bool :=
  (zw8 w (0:Int) (λ _=>(0:Int)))
end
theorem q88 (w:web) (K:List PA->Prop) (hs:p88 w=true) (hk:K (e88 (s88 w))):vcFun Tryd.prog G88 zw5 88 [.one (.fp (zaE w) 0)] K :=
  zaW (by kernel_rfl) (zFF hs hk)
def zw9 : List PA → COut
  | [.one (.fp [.int .i64 zat,.sl zan zaK zao,.fm zbz zaL zaM] 0)]=>.det (IsE enc_40 4 zaK zao/\zbz=(false,1,false,[none])/\p88 (⟨(⟨zat,(⟨zan,zai zao⟩:(Sl Tie))⟩:Net),(⟨zaL,zaM⟩:Mp)⟩:web)=true) [.one (.bool (s88 (⟨(⟨zat,(⟨zan,zai zao⟩:(Sl Tie))⟩:Net),(⟨zaL,zaM⟩:Mp)⟩:web)))]
  | _=>.no
theorem zJ8:zav Tryd.prog 88:=⟨_,rfl,rfl,by kernel_rfl⟩
theorem zMR:Ok Tryd.prog 88 zw9:=zbx zMQ zJ8 λ args K h=>by
  unfold zw9 at h
  split at h
  · rename_i zat zan zaK zao zbz zaL zaM
    obtain⟨⟨⟨rfl,zaA,rfl⟩,rfl,hs⟩,hk⟩:=h
    try rw[zaj zaA] at hs
    try rw[zaj zaA] at hk
    exact⟨(λ _ _=>[]),(λ _=>false),zw5,q88 (⟨(⟨zat,(⟨zan,zaA⟩:(Sl Tie))⟩:Net),(⟨zaL,zaM⟩:Mp)⟩:web) K hs hk⟩
  · exact h.elim
abbrev T74:Tabs:=(((Tabs.nil.addF 67 zuW).addF 81 zuV).addF 88 zw9)
theorem zMS:TabsOk Tryd.prog T74:=(((TabsOk.nil.addF zMi).addF zMh).addF zMR)
abbrev G74:Ctrs:=csm T74 (λ _ _=>[]) (λ _=>false)
def zCf:Ann:=⟨31,[(0,zK [1,2] [2]),(1,zK [1,2,6] [2,11]),(2,zK [1,2,6,14] [2,11]),(3,zK [4,5] []),(4,zK [2,6,15,16,17] [2,11]),(5,zK [2,6,15,16,17,18] [2,11]),(6,zK [2,6,8,15,16,17] [2,11]),(7,zK [2,6,15,16,17,26] [2,11]),(8,zK [4,5] []),(9,zK [2,6,15,16,17] [2,11]),(10,zK [6,29] [11]),(11,zK [4,5] []),(12,zK [4,5] [11])],
 [(5,zK [2,6,15,16,17] [2,11])],
 [(3,zK [1,2,6,14] [2,11]),(4,zK [1,2,6] [2,11]),(8,zK [2,6,15,16,17,26] [2,11]),(11,zK [6,29] [11])],
 [],[]⟩
abbrev R74:=(web×Int)
abbrev e74 (r:R74):List PA:=cond (r.2 == 0) [.one (.fp (zaE r.1) 0),.one (.int .i64 (0:Int))] [.one (.nilp),.one (.int .i64 r.2)]
@[irreducible] def z74:=ptF Tryd.prog G74 zCf Tryd.f74
def zDH (n:Net) (nodes:(Sl Int)) (zd4:Int):St:=⟨[(2,zp 2 0),(6,zp 11 0),(15,zS zad 1 nodes),(16,zI (nodes.len:Int)),(17,zI zd4)],[(2,.box 24 (zm (enc_24 n))),(11,.box 105 (zm (zaE (⟨n,(⟨0,(λ _=>none)⟩:Mp)⟩:web))))],[]⟩
abbrev zFG (K:List PA->Prop) (n:Net) (nodes:(Sl Int)) (X:St->Prop) (P:Int->Bool) (S:Int->(web×Int)):Prop:=∀ ⦃zd4:Int⦄,P zd4=true->K (e74 (S zd4))->X (zDH n nodes zd4)
section
variable {K:List PA->Prop}{n:Net}{nodes:(Sl Int)}{zqx:Bool}{zd4:Int}{X2:St->Prop}{P2:Int->Bool}{S2:Int->(web×Int)}{zqy:Int}{zqz:Bool}{zCg:Bool}
def zqA (n:Net) (zCg:Bool):(web×Int) :=
  (cond zCg
 ((default:web),(5:Int))
 ((⟨n,(⟨0,(λ _=>none)⟩:Mp)⟩:web),(0:Int)))
theorem zFH (hk:K (e74 (zqA n zCg))):z74 K [1,1,1,1,0,1] [] ⟨[(6,zp 11 0),(29,zB zCg)],[(11,.box 105 (zm (zaE (⟨n,(⟨0,(λ _=>none)⟩:Mp)⟩:web))))],[]⟩:=zaW (by kernel_rfl) (zt hk (λ hk=>hk) (λ hk=>hk))
def zqB (S2:Int->(web×Int)) (n:Net) (nodes:(Sl Int)) (zqy:Int) (zqz:Bool):(web×Int) :=
  (cond zqz
 ((default:web),(2:Int))
 (S2 (w64 (zqy+(1:Int)))))
def zqC (P2:Int->Bool) (n:Net) (nodes:(Sl Int)) (zqy:Int) (zqz:Bool):Bool :=
  (cond zqz
 true
 (P2 (w64 (zqy+(1:Int)))))
theorem zFI (hX2:zFG K n nodes X2 P2 S2) (hs:zqC P2 n nodes zqy zqz=true) (hk:K (e74 (zqB S2 n nodes zqy zqz))):z74 K [1,1,1,0,1,0,0,1,1,0,0,1,1] [X2] ⟨[(2,zp 2 0),(6,zp 11 0),(15,zS zad 1 nodes),(16,zI (nodes.len:Int)),(17,zI zqy),(26,zB zqz)],[(2,.box 24 (zm (enc_24 n))),(11,.box 105 (zm (zaE (⟨n,(⟨0,(λ _=>none)⟩:Mp)⟩:web))))],[]⟩:=zaW (by kernel_rfl) (zc hs hk (λ hs hk=>hk) (λ hs hk=>(hX2 hs hk)))
def ziG (n:Net) (nodes:(Sl Int)) (S2:Int->(web×Int)) (zd4:Int):(web×Int) :=
  (cond (decide (zd4 < (nodes.len : Int)))
 (zqB S2 n nodes zd4 (!(s81 (nodes.get zd4.toNat) (0:Int) (w64 (n.Nodes - (1:Int))))))
 (zqA n (s88 (⟨n,(⟨0,(λ _=>none)⟩:Mp)⟩:web))))
def ziH (n:Net) (nodes:(Sl Int)) (P2:Int->Bool) (zd4:Int):Bool :=
  (cond (decide (zd4 < (nodes.len : Int)))
 (decide ((0<=zd4/\zd4 < (nodes.len:Int))) &&
 (zqC P2 n nodes zd4 (!(s81 (nodes.get zd4.toNat) (0:Int) (w64 (n.Nodes - (1:Int)))))))
 (decide ((p88 (⟨n,(⟨0,(λ _=>none)⟩:Mp)⟩:web)=true)) &&
 true))
def ziI (n:Net) (nodes:(Sl Int)):Nat->Int->(web×Int):=lpO (λ _=>default) (ziG n nodes)
def ziJ (n:Net) (nodes:(Sl Int)):Nat->Int->Bool:=lpO (λ _=>false) (ziH n nodes)
def zqD (n:Net) (nodes:(Sl Int)) (zd4:Int):(web×Int):=ziI n nodes Fuel zd4
def zqE (n:Net) (nodes:(Sl Int)) (zd4:Int):Bool:=ziJ n nodes Fuel zd4
theorem zFJ (hs:zqE n nodes zd4=true) (hk:K (e74 (zqD n nodes zd4))):z74 K [1,1,1,0,1,0] [] (zDH n nodes zd4) :=
  zl (λ X=>z74 K [1,1,1,0,1,0,0] [X]) (by kernel_rfl) λ X2 hX =>
  (show ∀ k, zFG K n nodes X2 (ziJ n nodes k) (ziI n nodes k) from zeH _ _ (ziH n nodes) (ziG n nodes) (zFG K n nodes X2)
 (by intro _ hs;exact absurd hs dqk)
 (by intro P2 S2 hX2 zd4 hs hk;exact hX _ (zaW (by kernel_rfl) (zc hs hk (λ hs hk=>(zaI hs λ hc hs=>And.intro hc (zFI hX2 hs hk))) (λ hs hk=>(zaI hs λ hc hs=>And.intro (And.intro (zE enc_40 4 n.Ties.get) (And.intro (rfl:((false,1,false,[none]):MQ)=(false,1,false,[none])) hc)) (zFH hk))))))) _ hs hk
def zqF (n:Net) (nodes:(Sl Int)):(web×Int) :=
  (zqD n nodes (0:Int))
def zqG (n:Net) (nodes:(Sl Int)):Bool :=
  (zqE n nodes (0:Int))
theorem zFK (hs:zqG n nodes=true) (hk:K (e74 (zqF n nodes))):z74 K [1,1,1] [] ⟨[(1,zS zad 1 nodes),(2,zp 2 0),(6,zp 11 0)],[(2,.box 24 (zm (enc_24 n))),(11,.box 105 (zm (zaE (⟨n,(⟨0,(λ _=>none)⟩:Mp)⟩:web))))],[]⟩:=zaW (by kernel_rfl) (zFJ hs hk)
def zqH (n:Net) (nodes:(Sl Int)) (zqx:Bool):(web×Int) :=
  (cond zqx
 ((default:web),(2:Int))
 (zqF n nodes))
def zqI (n:Net) (nodes:(Sl Int)) (zqx:Bool):Bool :=
  (cond zqx
 true
 (zqG n nodes))
theorem zFL (hs:zqI n nodes zqx=true) (hk:K (e74 (zqH n nodes zqx))):z74 K [1,1,0,1] [] ⟨[(1,zS zad 1 nodes),(2,zp 2 0),(6,zp 11 0),(14,zB zqx)],[(2,.box 24 (zm (enc_24 n))),(11,.box 105 (zm (zaE (⟨n,(⟨0,(λ _=>none)⟩:Mp)⟩:web))))],[]⟩:=zaW (by kernel_rfl) (zc hs hk (λ hs hk=>hk) (λ hs hk=>(zFK hs hk)))
def s74 (n:Net) (nodes:(Sl Int)):(web×Int) :=
  (zqH n nodes (!(s67 n)))
def p74 (n:Net) (nodes:(Sl Int)):Bool :=
  (decide ((p67 n=true)) &&
 (zqI n nodes (!(s67 n))))
end
theorem q74 (n:Net) (nodes:(Sl Int)) (K:List PA->Prop) (hs:p74 n nodes=true) (hk:K (e74 (s74 n nodes))):vcFun Tryd.prog G74 zCf 74 [.agg (enc_24 n),.one (.sl nodes.len 1 (λ i=>zad (nodes.get i)))] K :=
  zaW (by kernel_rfl) (zaI hs λ hc hs=>And.intro (And.intro (zE enc_40 4 n.Ties.get) hc) (zFL hs hk))
def zuZ : List PA → COut
  | [.agg [.int .i64 zaf,.sl zae zaw zac],.one (.sl zg0 zom zgR)]=>.alt ((s74 (⟨zaf,(⟨zae,zai zac⟩:(Sl Tie))⟩:Net) (⟨zg0,zaq zgR⟩:(Sl Int))).2 == 0) (IsE enc_40 4 zaw zac/\IsE zad 1 zom zgR/\p74 (⟨zaf,(⟨zae,zai zac⟩:(Sl Tie))⟩:Net) (⟨zg0,zaq zgR⟩:(Sl Int))=true) [.one (.fp (zaE (⟨(s74 (⟨zaf,(⟨zae,zai zac⟩:(Sl Tie))⟩:Net) (⟨zg0,zaq zgR⟩:(Sl Int))).1.Net,((s74 (⟨zaf,(⟨zae,zai zac⟩:(Sl Tie))⟩:Net) (⟨zg0,zaq zgR⟩:(Sl Int))).1.out)⟩:web)) 0),.one (.int .i64 (0:Int))] (IsE enc_40 4 zaw zac/\IsE zad 1 zom zgR/\p74 (⟨zaf,(⟨zae,zai zac⟩:(Sl Tie))⟩:Net) (⟨zg0,zaq zgR⟩:(Sl Int))=true) [.one (.nilp),.one (.int .i64 ((s74 (⟨zaf,(⟨zae,zai zac⟩:(Sl Tie))⟩:Net) (⟨zg0,zaq zgR⟩:(Sl Int))).2))]
  | [.agg [.int .i64 zaf,.sl zae zaw zac],.one (.nils)]=>.alt ((s74 (⟨zaf,(⟨zae,zai zac⟩:(Sl Tie))⟩:Net) (⟨0,λ _=>default⟩:(Sl Int))).2 == 0) (IsE enc_40 4 zaw zac/\p74 (⟨zaf,(⟨zae,zai zac⟩:(Sl Tie))⟩:Net) (⟨0,λ _=>default⟩:(Sl Int))=true) [.one (.fp (zaE (⟨(s74 (⟨zaf,(⟨zae,zai zac⟩:(Sl Tie))⟩:Net) (⟨0,λ _=>default⟩:(Sl Int))).1.Net,((s74 (⟨zaf,(⟨zae,zai zac⟩:(Sl Tie))⟩:Net) (⟨0,λ _=>default⟩:(Sl Int))).1.out)⟩:web)) 0),.one (.int .i64 (0:Int))] (IsE enc_40 4 zaw zac/\p74 (⟨zaf,(⟨zae,zai zac⟩:(Sl Tie))⟩:Net) (⟨0,λ _=>default⟩:(Sl Int))=true) [.one (.nilp),.one (.int .i64 ((s74 (⟨zaf,(⟨zae,zai zac⟩:(Sl Tie))⟩:Net) (⟨0,λ _=>default⟩:(Sl Int))).2))]
  | _=>.no
theorem zJ9:zav Tryd.prog 74:=⟨_,rfl,rfl,by kernel_rfl⟩
theorem zMj:Ok Tryd.prog 74 zuZ:=zhl zMS zJ9 λ args K h=>by
  unfold zuZ at h
  split at h
  · rename_i zaf zae zaw zac zg0 zom zgR
    have h:=zJL h
    obtain⟨⟨⟨rfl,zak,rfl⟩,⟨rfl,zk4,rfl⟩,hs⟩,hk⟩:=h
    try rw[zaj zak] at hs
    try rw[zaj zak] at hk
    try rw[zbR zk4] at hs
    try rw[zbR zk4] at hk
    exact⟨_,zfB zfV _,(λ _ _=>[]),(λ _=>false),zCf,q74 (⟨zaf,(⟨zae,zak⟩:(Sl Tie))⟩:Net) (⟨zg0,zk4⟩:(Sl Int)) (Wk K) hs (zfW hk)⟩
  · rename_i zaf zae zaw zac
    have h:=zJL h
    obtain⟨⟨⟨rfl,zak,rfl⟩,hs⟩,hk⟩:=h
    try rw[zaj zak] at hs
    try rw[zaj zak] at hk
    exact⟨_,(zhB (zfV _) (zhB (.one (.nil _ _)) zol)),(λ _ _=>[]),(λ _=>false),zCf,q74 (⟨zaf,(⟨zae,zak⟩:(Sl Tie))⟩:Net) (⟨0,λ _=>default⟩:(Sl Int)) (Wk K) hs (zfW hk)⟩
  · exact h.elim
abbrev zN4:Tabs:=Tabs.nil
theorem zKa:TabsOk Tryd.prog zN4:=TabsOk.nil
abbrev zOu:Ctrs:=csm zN4 (λ _ _=>[]) (λ _=>false)
def zDI:Ann:=⟨24,[(0,zK [2,3] [2,3]),(1,zK [4] [])],
 [],
 [],
 [],[]⟩
abbrev zOv:=Bool
abbrev zOw (r:zOv):List PA:=[.one (.bool r)]
section
variable {K:List PA->Prop}{a:far}{b:far}
def zCh (a:far) (b:far):Bool :=
  (cond (decide (a.length < b.length))
 true
 (cond (a.length == b.length)
 (decide (a.uses < b.uses))
 false))
end
theorem zOx (a:far) (b:far) (K:List PA->Prop) (hk:K (zOw (zCh a b))):vcFun Tryd.prog zOu zDI 105 [.agg (zcg a),.agg (zcg b)] K :=
  zaW (by kernel_rfl) (zt hk (λ hk=>hk) (λ hk=>(zt hk (λ hk=>hk) (λ hk=>hk))))
def zxa : List PA → COut
  | [.agg [.int .i64 zck,.int .i64 zqJ],.agg [.int .i64 zbU,.int .i64 zfp]]=>.tot [.one (.bool (zCh (⟨zck,zqJ⟩:far) (⟨zbU,zfp⟩:far)))]
  | _=>.no
theorem zFM:zav Tryd.prog 105:=⟨_,rfl,rfl,by kernel_rfl⟩
theorem zMT:Ok Tryd.prog 105 zxa:=zbx zKa zFM λ args K h=>by
  unfold zxa at h
  split at h
  · rename_i zck zqJ zbU zfp
    have hk:=h
    exact⟨(λ _ _=>[]),(λ _=>false),zDI,zOx (⟨zck,zqJ⟩:far) (⟨zbU,zfp⟩:far) K hk⟩
  · exact h.elim
abbrev zN5:Tabs:=(Tabs.nil.addF 105 zxa)
theorem zKb:TabsOk Tryd.prog zN5:=(TabsOk.nil.addF zMT)
abbrev zN6:Ctrs:=csm zN5 (λ _ _=>[]) (λ _=>false)
def zxb:Ann:=⟨22,[(0,zK [0,2,4,6] [4,6]),(1,zK [0,4,6,9,10,11] [4,6]),(2,zK [0,4,6,9,10,11,12] [4,6]),(3,zK [0,4,6,8,9,10,11] [4,6,8]),(4,zK [0,4,6,8,9,10,11,18] [4,6,8]),(5,zK [0,4,6,9,10,11] [4,6]),(6,zK [0,4,6,9,10,11] [4,6]),(7,zK [6] [6])],
 [(2,zK [0,4,6,9,10,11] [4,6])],
 [(5,zK [0,4,6,8,9,10,11,18] [4,6,8])],
 [],[]⟩
abbrev zOy:=far
abbrev zMk (r:zOy):List PA:=[.agg [.int .i64 r.length,.int .i64 r.uses]]
@[irreducible] def z104:=ptF Tryd.prog zN6 zxb Tryd.f104
def zxc (others:(Sl far)) (zaV:Int) (zbk:Int) (zbl:Int):St:=⟨[(0,zP (.fn 105 [] [])),(4,zp 4 0),(6,zp 6 0),(9,zS zcg 2 others),(10,zI (others.len:Int)),(11,zI zaV)],[(4,.box 114 (zm (zcg (⟨zbk,zbl⟩:far)))),(6,.box 114 (zm (zcg (⟨(0:Int),(0:Int)⟩:far))))],[]⟩
abbrev zxd (K:List PA->Prop) (others:(Sl far)) (X:St->Prop) (P:Int->Int->Int->Bool) (S:Int->Int->Int->far):Prop:=∀ ⦃zaV:Int⦄ ⦃zbk:Int⦄ ⦃zbl:Int⦄,P zaV zbk zbl=true->K (zMk (S zaV zbk zbl))->X (zxc others zaV zbk zbl)
section
variable {K:List PA->Prop}{first:far}{others:(Sl far)}{zaV:Int}{zbk:Int}{zbl:Int}{X0:St->Prop}{P0:Int->Int->Int->Bool}{S0:Int->Int->Int->far}{zcM:Int}{zdg:Bool}{zej:Int}{zek:Int}{zqK:Int}{zqL:Int}
def znk (S0:Int->Int->Int->far) (others:(Sl far)) (zcM:Int) (zdg:Bool) (zej:Int) (zek:Int) (zqK:Int) (zqL:Int):far :=
  (cond zdg
 (S0 (w64 (zcM+(1:Int))) zqK zqL)
 (S0 (w64 (zcM+(1:Int))) zej zek))
def znl (P0:Int->Int->Int->Bool) (others:(Sl far)) (zcM:Int) (zdg:Bool) (zej:Int) (zek:Int) (zqK:Int) (zqL:Int):Bool :=
  (cond zdg
 (P0 (w64 (zcM+(1:Int))) zqK zqL)
 (P0 (w64 (zcM+(1:Int))) zej zek))
theorem zCi (hX0:zxd K others X0 P0 S0) (hs:znl P0 others zcM zdg zej zek zqK zqL=true) (hk:K (zMk (znk S0 others zcM zdg zej zek zqK zqL))):z104 K [1,0,1,0,0,1,1,0,0,1,1] [X0] ⟨[(0,zP (.fn 105 [] [])),(4,zp 4 0),(6,zp 6 0),(8,zp 8 0),(9,zS zcg 2 others),(10,zI (others.len:Int)),(11,zI zcM),(18,zB zdg)],[(4,.box 114 (zm (zcg (⟨zej,zek⟩:far)))),(6,.box 114 (zm (zcg (⟨(0:Int),(0:Int)⟩:far)))),(8,.box 114 (zm (zcg (⟨zqK,zqL⟩:far))))],[]⟩:=zaW (by kernel_rfl) (zc hs hk (λ hs hk=>(hX0 hs hk)) (λ hs hk=>(hX0 hs hk)))
def zgS (others:(Sl far)) (S0:Int->Int->Int->far) (zaV:Int) (zbk:Int) (zbl:Int):far :=
  (cond (decide (zaV < (others.len : Int)))
 (znk S0 others zaV (zCh (others.get zaV.toNat) (⟨zbk,zbl⟩:far)) zbk zbl ((others.get zaV.toNat).length) ((others.get zaV.toNat).uses))
 (⟨zbk,zbl⟩:far))
def zgT (others:(Sl far)) (P0:Int->Int->Int->Bool) (zaV:Int) (zbk:Int) (zbl:Int):Bool :=
  (cond (decide (zaV < (others.len : Int)))
 (decide ((0<=zaV/\zaV < (others.len:Int))) &&
 (znl P0 others zaV (zCh (others.get zaV.toNat) (⟨zbk,zbl⟩:far)) zbk zbl ((others.get zaV.toNat).length) ((others.get zaV.toNat).uses)))
 true)
def zgU (others:(Sl far)):Nat->Int->Int->Int->far:=lpO (λ _ _ _=>default) (zgS others)
def zgV (others:(Sl far)):Nat->Int->Int->Int->Bool:=lpO (λ _ _ _=>false) (zgT others)
def znm (others:(Sl far)) (zaV:Int) (zbk:Int) (zbl:Int):far:=zgU others Fuel zaV zbk zbl
def znn (others:(Sl far)) (zaV:Int) (zbk:Int) (zbl:Int):Bool:=zgV others Fuel zaV zbk zbl
theorem zCj (hs:znn others zaV zbk zbl=true) (hk:K (zMk (znm others zaV zbk zbl))):z104 K [1,0,1,0] [] (zxc others zaV zbk zbl) :=
  zl (λ X=>z104 K [1,0,1,0,0] [X]) (by kernel_rfl) λ X0 hX =>
  (show ∀ k, zxd K others X0 (zgV others k) (zgU others k) from zeH _ _ (zgT others) (zgS others) (zxd K others X0)
 (by intro _ _ _ hs;exact absurd hs dqk)
 (by intro P0 S0 hX0 zaV zbk zbl hs hk;exact hX _ (zaW (by kernel_rfl) (zc hs hk (λ hs hk=>(zaI hs λ hc hs=>And.intro hc (zCi hX0 hs hk))) (λ hs hk=>hk))))) _ hs hk
def zc4 (first:far) (others:(Sl far)):far :=
  (znm others (0:Int) first.length first.uses)
def zCk (first:far) (others:(Sl far)):Bool :=
  (znn others (0:Int) first.length first.uses)
end
theorem zOz (first:far) (others:(Sl far)) (K:List PA->Prop) (hs:zCk first others=true) (hk:K (zMk (zc4 first others))):vcFun Tryd.prog zN6 zxb 104 [.one (.fn 105 [] []),.agg (zcg first),.one (.sl others.len 2 (λ i=>zcg (others.get i)))] K :=
  zaW (by kernel_rfl) (zCj hs hk)
def zpg : List PA → COut
  | [.one (.fn 105 [] []),.agg [.int .i64 zbU,.int .i64 zfp],.one (.sl zvg zKc zvh)]=>.det (IsE zcg 2 zKc zvh/\zCk (⟨zbU,zfp⟩:far) (⟨zvg,zjZ zvh⟩:(Sl far))=true) [.agg [.int .i64 ((zc4 (⟨zbU,zfp⟩:far) (⟨zvg,zjZ zvh⟩:(Sl far))).length),.int .i64 ((zc4 (⟨zbU,zfp⟩:far) (⟨zvg,zjZ zvh⟩:(Sl far))).uses)]]
  | _=>.no
theorem zFN:zav Tryd.prog 104:=⟨_,rfl,rfl,by kernel_rfl⟩
theorem zFO:Ok Tryd.prog 104 zpg:=zbx zKb zFN λ args K h=>by
  unfold zpg at h
  split at h
  · rename_i zbU zfp zvg zKc zvh
    obtain⟨⟨⟨rfl,zFP,rfl⟩,hs⟩,hk⟩:=h
    try rw[zjy zFP] at hs
    try rw[zjy zFP] at hk
    exact⟨(λ _ _=>[]),(λ _=>false),zxb,zOz (⟨zbU,zfp⟩:far) (⟨zvg,zFP⟩:(Sl far)) K hs hk⟩
  · exact h.elim
abbrev T75:Tabs:=(((Tabs.nil.addF 93 zpd).addF 104 zpg).addI 110 zpf)
theorem zMU:TabsOk Tryd.prog T75:=(((TabsOk.nil.addF zI6).addF zFO).addI zuY)
abbrev G75:Ctrs:=csm T75 (λ _ _=>[]) (λ _=>false)
def zxe:Ann:=⟨66,[(0,zK [0,1,4] [4]),(1,zK [0,1,4,5] [4,5]),(2,zK [0,1,4,5,10] [4,5]),(3,zK [0,1,4,5,10,11] [4,5]),(4,zK [0,1,4,5,6,10] [4,5]),(5,zK [0,1,4,5,10] [4,5]),(6,zK [0,1,4,5,10] [4,5]),(7,zK [0,4,5] [4,5]),(8,zK [0,4,5,7] [4,5,7]),(9,zK [0,4,5,7,20] [4,5,7]),(10,zK [0,4,5,7] [4,5,7]),(11,zK [0,4,5,7,22] [4,5,7]),(12,zK [0,4,5,7,8,22] [4,5,7,8]),(13,zK [0,4,5,7,8,22,29] [4,5,7,8]),(14,zK [0,4,5,7,8,9,22] [4,5,7,8,9]),(15,zK [0,4,5,7,8,9,22] [4,5,7,8,9]),(16,zK [0,4,5,7,22] [4,5,7]),(17,zK [0,4,5,64] [4,5]),(18,zK [0,4,5,7] [4,5,7]),(19,zK [4] [4])],
 [(3,zK [0,1,4,5,10] [4,5]),(9,zK [0,4,5,7] [4,5,7]),(12,zK [0,4,5,7,22] [4,5,7])],
 [(7,zK [0,1,4,5] [4,5])],
 [],[]⟩
abbrev R75:=Tab
abbrev e75 (r:R75):List PA:=[.agg (zar r)]
@[irreducible] def z75:=ptF Tryd.prog G75 zxe Tryd.f75
@[irreducible] def x75:=exF Tryd.prog G75 zxe Tryd.f75
@[irreducible] def y75:=rnF Tryd.prog G75 zxe Tryd.f75
def zDJ (w:web) (node:Int) (za7:Int) (t4t0:Tab) (dt0:Tab):St:=⟨[(0,zP (.fp (zaE w) 0)),(1,zI node),(4,zp 4 0),(5,zp 5 0),(10,zI za7)],[(4,.box 116 (zm (zar t4t0))),(5,.box 116 (zm (zar dt0)))],[]⟩
abbrev zKd (K:List PA->Prop) (w:web) (node:Int) (X:St->Prop) (P:Int->Tab->Tab->Bool) (S:Int->Tab->Tab->Tab):Prop:=∀ ⦃za7:Int⦄ ⦃t4t0:Tab⦄ ⦃dt0:Tab⦄,P za7 t4t0 dt0=true->K (e75 (S za7 t4t0 dt0))->X (zDJ w node za7 t4t0 dt0)
def zDK (w:web) (zax:Bool) (t4t2:Tab) (dt2:Tab):St:=⟨[(0,zP (.fp (zaE w) 0)),(4,zp 4 0),(5,zp 5 0),(7,zp 7 0)],[(4,.box 116 (zm (zar t4t2))),(5,.box 116 (zm (zar dt2))),(7,.box 4 [.p (.bool zax)])],[]⟩
abbrev zFQ (K:List PA->Prop) (w:web) (X:St->Prop) (P:Bool->Tab->Tab->Bool) (S:Bool->Tab->Tab->Tab):Prop:=∀ ⦃zax:Bool⦄ ⦃t4t2:Tab⦄ ⦃dt2:Tab⦄,P zax t4t2 dt2=true->K (e75 (S zax t4t2 dt2))->X (zDK w zax t4t2 dt2)
def zxf (w:web) (zal:Bool) (t4t3:Tab) (dt3:Tab):St:=⟨[(0,zP (.fp (zaE w) 0)),(4,zp 4 0),(5,zp 5 0),(7,zp 7 0),(22,zP (.fn 110 [] [.fp [.fp (zaE w) 0] 0]))],[(4,.box 116 (zm (zar t4t3))),(5,.box 116 (zm (zar dt3))),(7,.box 4 [.p (.bool zal)])],[]⟩
abbrev zKe (K:List PA->Prop) (w:web) (X:St->Prop) (P:Bool->Tab->Tab->Bool) (S:Bool->Tab->Tab->Tab):Prop:=∀ ⦃zal:Bool⦄ ⦃t4t3:Tab⦄ ⦃dt3:Tab⦄,P zal t4t3 dt3=true->K (e75 (S zal t4t3 dt3))->X (zxf w zal t4t3 dt3)
section
variable {K:List PA->Prop}{w:web}{node:Int}{za7:Int}{t4t0:Tab}{dt0:Tab}{X0:St->Prop}{P0:Int->Tab->Tab->Bool}{S0:Int->Tab->Tab->Tab}{t4t1:Tab}{dt1:Tab}{zax:Bool}{t4t2:Tab}{dt2:Tab}{X2:St->Prop}{P2:Bool->Tab->Tab->Bool}{S2:Bool->Tab->Tab->Tab}{zal:Bool}{t4t3:Tab}{dt3:Tab}
def zFR (S2:Bool->Tab->Tab->Tab) (w:web) (zal:Bool) (t4t3:Tab) (dt3:Tab):Tab :=
  (S2 zal t4t3 dt3)
def zFS (P2:Bool->Tab->Tab->Bool) (w:web) (zal:Bool) (t4t3:Tab) (dt3:Tab):Bool :=
  (P2 zal t4t3 dt3)
def zno (S2:Bool->Tab->Tab->Tab) (w:web) (y3:step) (S3:Bool->Tab->Tab->Tab) (zal:Bool) (t4t3:Tab) (dt3:Tab):Tab :=
  (cond (nvr (tL dt3 y3.to) (tU dt3 y3.to))
 (S3 zal t4t3 dt3)
 (cond zal
 (S3 true t4t3 (ts 80 dt3 (0+y3.from_.toNat * 2+0) [(zc4 (⟨(tL dt3 y3.from_),(tU dt3 y3.from_)⟩:far) (⟨1,λ _=>(⟨(w64 ((tL dt3 y3.to)+y3.length)),(w64 ((tV dt3 y3.to)+(1:Int)))⟩:far)⟩:(Sl far))).length,(zc4 (⟨(tL dt3 y3.from_),(tU dt3 y3.from_)⟩:far) (⟨1,λ _=>(⟨(w64 ((tL dt3 y3.to)+y3.length)),(w64 ((tV dt3 y3.to)+(1:Int)))⟩:far)⟩:(Sl far))).uses]))
 (S3 (!(match ((zc4 (⟨(tL dt3 y3.from_),(tU dt3 y3.from_)⟩:far) (⟨1,λ _=>(⟨(w64 ((tL dt3 y3.to)+y3.length)),(w64 ((tV dt3 y3.to)+(1:Int)))⟩:far)⟩:(Sl far))).length == (tL dt3 y3.from_)) with | true=>(match ((zc4 (⟨(tL dt3 y3.from_),(tU dt3 y3.from_)⟩:far) (⟨1,λ _=>(⟨(w64 ((tL dt3 y3.to)+y3.length)),(w64 ((tV dt3 y3.to)+(1:Int)))⟩:far)⟩:(Sl far))).uses == (tU dt3 y3.from_)) with | true=>true | false=>false) | false=>false)) t4t3 (ts 80 dt3 (0+y3.from_.toNat * 2+0) [(zc4 (⟨(tL dt3 y3.from_),(tU dt3 y3.from_)⟩:far) (⟨1,λ _=>(⟨(w64 ((tL dt3 y3.to)+y3.length)),(w64 ((tV dt3 y3.to)+(1:Int)))⟩:far)⟩:(Sl far))).length,(zc4 (⟨(tL dt3 y3.from_),(tU dt3 y3.from_)⟩:far) (⟨1,λ _=>(⟨(w64 ((tL dt3 y3.to)+y3.length)),(w64 ((tV dt3 y3.to)+(1:Int)))⟩:far)⟩:(Sl far))).uses]))))
def znp (P2:Bool->Tab->Tab->Bool) (w:web) (y3:step) (P3:Bool->Tab->Tab->Bool) (zal:Bool) (t4t3:Tab) (dt3:Tab):Bool :=
  (decide ((0<=y3.to/\y3.to < (40:Int))) &&
 (cond (nvr (tL dt3 y3.to) (tU dt3 y3.to))
 (P3 zal t4t3 dt3)
 (decide ((0<=y3.from_/\y3.from_ < (40:Int))) &&
 (decide ((0<=y3.to/\y3.to < (40:Int))) &&
 (decide ((0<=y3.to/\y3.to < (40:Int))) &&
 (decide ((zCk (⟨(tL dt3 y3.from_),(tU dt3 y3.from_)⟩:far) (⟨1,λ _=>(⟨(w64 ((tL dt3 y3.to)+y3.length)),(w64 ((tV dt3 y3.to)+(1:Int)))⟩:far)⟩:(Sl far))=true)) &&
 (cond zal
 (decide ((0<=y3.from_/\y3.from_ < (40:Int))) &&
 (P3 true t4t3 (ts 80 dt3 (0+y3.from_.toNat * 2+0) [(zc4 (⟨(tL dt3 y3.from_),(tU dt3 y3.from_)⟩:far) (⟨1,λ _=>(⟨(w64 ((tL dt3 y3.to)+y3.length)),(w64 ((tV dt3 y3.to)+(1:Int)))⟩:far)⟩:(Sl far))).length,(zc4 (⟨(tL dt3 y3.from_),(tU dt3 y3.from_)⟩:far) (⟨1,λ _=>(⟨(w64 ((tL dt3 y3.to)+y3.length)),(w64 ((tV dt3 y3.to)+(1:Int)))⟩:far)⟩:(Sl far))).uses])))
 (decide ((0<=y3.from_/\y3.from_ < (40:Int))) &&
 (decide ((0<=y3.from_/\y3.from_ < (40:Int))) &&
 (P3 (!(match ((zc4 (⟨(tL dt3 y3.from_),(tU dt3 y3.from_)⟩:far) (⟨1,λ _=>(⟨(w64 ((tL dt3 y3.to)+y3.length)),(w64 ((tV dt3 y3.to)+(1:Int)))⟩:far)⟩:(Sl far))).length == (tL dt3 y3.from_)) with | true=>(match ((zc4 (⟨(tL dt3 y3.from_),(tU dt3 y3.from_)⟩:far) (⟨1,λ _=>(⟨(w64 ((tL dt3 y3.to)+y3.length)),(w64 ((tV dt3 y3.to)+(1:Int)))⟩:far)⟩:(Sl far))).uses == (tU dt3 y3.from_)) with | true=>true | false=>false) | false=>false)) t4t3 (ts 80 dt3 (0+y3.from_.toNat * 2+0) [(zc4 (⟨(tL dt3 y3.from_),(tU dt3 y3.from_)⟩:far) (⟨1,λ _=>(⟨(w64 ((tL dt3 y3.to)+y3.length)),(w64 ((tV dt3 y3.to)+(1:Int)))⟩:far)⟩:(Sl far))).length,(zc4 (⟨(tL dt3 y3.from_),(tU dt3 y3.from_)⟩:far) (⟨1,λ _=>(⟨(w64 ((tL dt3 y3.to)+y3.length)),(w64 ((tV dt3 y3.to)+(1:Int)))⟩:far)⟩:(Sl far))).uses])))))))))))
def znq (S2:Bool->Tab->Tab->Tab) (w:web):List step->Bool->Tab->Tab->Tab:=lpR (zFR S2 w) (zno S2 w)
def znr (P2:Bool->Tab->Tab->Bool) (w:web):List step->Bool->Tab->Tab->Bool:=lpR (zFS P2 w) (znp P2 w)
def zqM (S2:Bool->Tab->Tab->Tab) (w:web) (zal:Bool) (t4t3:Tab) (dt3:Tab):Tab:=znq S2 w (zk7 w) zal t4t3 dt3
def zqN (P2:Bool->Tab->Tab->Bool) (w:web) (zal:Bool) (t4t3:Tab) (dt3:Tab):Bool:=decide ((zvf w=true)) && znr P2 w (zk7 w) zal t4t3 dt3
theorem zFT (hX2:zFQ K w X2 P2 S2) (hs:zqN P2 w zal t4t3 dt3=true) (hk:K (e75 (zqM S2 w zal t4t3 dt3))):z75 K [1,1,1,1,0,1,0,0,1,0,0,1,1,0] [X2] (zxf w zal t4t3 dt3) :=
  zaI hs λ hc hs=>zr (enc:=(λ y:step=>[.agg (zaB y)])) (ys:=zk7 w) (g:=(zxf w zal t4t3 dt3)) (x75 K [1,1,1,1,0,1,0,0,1,0,0,1,1,0] [X2]) (y75 K [1,1,1,1,0,1,0,0,1,0,0,1,1,0] [X2]) (by kernel_rfl) (And.intro (zE enc_40 4 w.Net.Ties.get) (And.intro (rfl:((false,1,false,[none]):MQ)=(false,1,false,[none])) hc)) λ X3 hE hR =>
  (show ∀ l : List step, zKe K w (X3 (l.map (λ y : step => [.agg (zaB y)]))) (znr P2 w l) (znq S2 w l) from zri (X := X3) (enc := (λ y : step => [.agg (zaB y)])) _ _ (znp P2 w) (zno S2 w) (λ Z P S => zKe K w Z P S)
 (by intro zal t4t3 dt3 hs hk;exact hE _ (zaW (by kernel_rfl) (hX2 hs hk)))
 (by intro y3 rest P3 S3 hX3 zal t4t3 dt3 hs hk;exact hR _ rest _ (zaW (by kernel_rfl) (zaI hs λ hc hs=>And.intro hc (zc hs hk (λ hs hk=>(hX3 hs hk)) (λ hs hk=>(zaI hs λ hc hs=>And.intro hc (zaI hs λ hc hs=>And.intro hc (zaI hs λ hc hs=>And.intro hc (zaI hs λ hc hs=>And.intro (And.intro (zwQ:IsE zcg 2 2 (λ _=>(zcg (⟨(w64 ((tL dt3 y3.to)+y3.length)),(w64 ((tV dt3 y3.to)+(1:Int)))⟩:far)))) hc) (zc hs hk (λ hs hk=>(zaI hs λ hc hs=>And.intro hc (hX3 hs hk))) (λ hs hk=>(zaI hs λ hc hs=>And.intro hc (zaI hs λ hc hs=>And.intro hc (hX3 hs hk))))))))))))))) _ hs hk
def zns (w:web) (S2:Bool->Tab->Tab->Tab) (zax:Bool) (t4t2:Tab) (dt2:Tab):Tab :=
  (cond zax
 (zqM S2 w false t4t2 dt2)
 dt2)
def znt (w:web) (P2:Bool->Tab->Tab->Bool) (zax:Bool) (t4t2:Tab) (dt2:Tab):Bool :=
  (cond zax
 (zqN P2 w false t4t2 dt2)
 true)
def zf4 (w:web):Nat->Bool->Tab->Tab->Tab:=lpO (λ _ _ _=>default) (zns w)
def zf5 (w:web):Nat->Bool->Tab->Tab->Bool:=lpO (λ _ _ _=>false) (znt w)
def zqO (w:web) (zax:Bool) (t4t2:Tab) (dt2:Tab):Tab:=zf4 w Fuel zax t4t2 dt2
def zqP (w:web) (zax:Bool) (t4t2:Tab) (dt2:Tab):Bool:=zf5 w Fuel zax t4t2 dt2
theorem zFU (hs:zqP w zax t4t2 dt2=true) (hk:K (e75 (zqO w zax t4t2 dt2))):z75 K [1,1,1,1,0,1,0] [] (zDK w zax t4t2 dt2) :=
  zl (λ X=>z75 K [1,1,1,1,0,1,0,0] [X]) (by kernel_rfl) λ X2 hX =>
  (show ∀ k, zFQ K w X2 (zf5 w k) (zf4 w k) from zeH _ _ (znt w) (zns w) (zFQ K w X2)
 (by intro _ _ _ hs;exact absurd hs dqk)
 (by intro P2 S2 hX2 zax t4t2 dt2 hs hk;exact hX _ (zaW (by kernel_rfl) (zc hs hk (λ hs hk=>(And.intro (And.intro (zE enc_40 4 w.Net.Ties.get) (rfl:((false,1,false,[none]):MQ)=(false,1,false,[none]))) (zFT hX2 hs hk))) (λ hs hk=>hk))))) _ hs hk
def znu (w:web) (node:Int) (t4t1:Tab) (dt1:Tab):Tab :=
  (zqO w true t4t1 (ts 80 dt1 (0+node.toNat * 2+0) [(0:Int),(0:Int)]))
def znv (w:web) (node:Int) (t4t1:Tab) (dt1:Tab):Bool :=
  (decide ((0<=node/\node < (40:Int))) &&
 (zqP w true t4t1 (ts 80 dt1 (0+node.toNat * 2+0) [(0:Int),(0:Int)])))
theorem zFV (hs:znv w node t4t1 dt1=true) (hk:K (e75 (znu w node t4t1 dt1))):z75 K [1,1,1] [] ⟨[(0,zP (.fp (zaE w) 0)),(1,zI node),(4,zp 4 0),(5,zp 5 0)],[(4,.box 116 (zm (zar t4t1))),(5,.box 116 (zm (zar dt1)))],[]⟩:=zaW (by kernel_rfl) (zaI hs λ hc hs=>And.intro hc (zFU hs hk))
def ziK (w:web) (node:Int) (S0:Int->Tab->Tab->Tab) (za7:Int) (t4t0:Tab) (dt0:Tab):Tab :=
  (cond (decide (za7 < (40:Int)))
 (S0 (w64 (za7+(1:Int))) t4t0 (ts 80 dt0 (0+za7.toNat * 2+0) [(1000000000000:Int),(0:Int)]))
 (znu w node t4t0 dt0))
def ziL (w:web) (node:Int) (P0:Int->Tab->Tab->Bool) (za7:Int) (t4t0:Tab) (dt0:Tab):Bool :=
  (cond (decide (za7 < (40:Int)))
 (decide ((0<=za7/\za7 < (40:Int))) &&
 (P0 (w64 (za7+(1:Int))) t4t0 (ts 80 dt0 (0+za7.toNat * 2+0) [(1000000000000:Int),(0:Int)])))
 (znv w node t4t0 dt0))
def ziM (w:web) (node:Int):Nat->Int->Tab->Tab->Tab:=lpO (λ _ _ _=>default) (ziK w node)
def ziN (w:web) (node:Int):Nat->Int->Tab->Tab->Bool:=lpO (λ _ _ _=>false) (ziL w node)
def zxg (w:web) (node:Int) (za7:Int) (t4t0:Tab) (dt0:Tab):Tab:=ziM w node Fuel za7 t4t0 dt0
def zxh (w:web) (node:Int) (za7:Int) (t4t0:Tab) (dt0:Tab):Bool:=ziN w node Fuel za7 t4t0 dt0
theorem zFW (hs:zxh w node za7 t4t0 dt0=true) (hk:K (e75 (zxg w node za7 t4t0 dt0))):z75 K [1,1,0,1,0] [] (zDJ w node za7 t4t0 dt0) :=
  zl (λ X=>z75 K [1,1,0,1,0,0] [X]) (by kernel_rfl) λ X0 hX =>
  (show ∀ k, zKd K w node X0 (ziN w node k) (ziM w node k) from zeH _ _ (ziL w node) (ziK w node) (zKd K w node X0)
 (by intro _ _ _ hs;exact absurd hs dqk)
 (by intro P0 S0 hX0 za7 t4t0 dt0 hs hk;exact hX _ (zaW (by kernel_rfl) (zc hs hk (λ hs hk=>(zaI hs λ hc hs=>And.intro hc (hX0 hs hk))) (λ hs hk=>(zFV hs hk)))))) _ hs hk
def s75 (w:web) (node:Int):Tab :=
  (zxg w node (0:Int) (λ _=>(0:Int)) (λ _=>(0:Int)))
def p75 (w:web) (node:Int):Bool :=
  (zxh w node (0:Int) (λ _=>(0:Int)) (λ _=>(0:Int)))
end
theorem q75 (w:web) (node:Int) (K:List PA->Prop) (hs:p75 w node=true) (hk:K (e75 (s75 w node))):vcFun Tryd.prog G75 zxe 75 [.one (.fp (zaE w) 0),.one (.int .i64 node)] K :=
  zaW (by kernel_rfl) (zFW hs hk)
def zu0 : List PA → COut
  | [.one (.fp [.int .i64 zat,.sl zan zaK zao,.fm zbz zaL zaM] 0),.one (.int .i64 a1)]=>.det (IsE enc_40 4 zaK zao/\zbz=(false,1,false,[none])/\p75 (⟨(⟨zat,(⟨zan,zai zao⟩:(Sl Tie))⟩:Net),(⟨zaL,zaM⟩:Mp)⟩:web) a1=true) [.agg (zar ((s75 (⟨(⟨zat,(⟨zan,zai zao⟩:(Sl Tie))⟩:Net),(⟨zaL,zaM⟩:Mp)⟩:web) a1)))]
  | _=>.no
theorem zKf:zav Tryd.prog 75:=⟨_,rfl,rfl,by kernel_rfl⟩
theorem zMl:Ok Tryd.prog 75 zu0:=zbx zMU zKf λ args K h=>by
  unfold zu0 at h
  split at h
  · rename_i zat zan zaK zao zbz zaL zaM a1
    obtain⟨⟨⟨rfl,zaA,rfl⟩,rfl,hs⟩,hk⟩:=h
    try rw[zaj zaA] at hs
    try rw[zaj zaA] at hk
    exact⟨(λ _ _=>[]),(λ _=>false),zxe,q75 (⟨(⟨zat,(⟨zan,zaA⟩:(Sl Tie))⟩:Net),(⟨zaL,zaM⟩:Mp)⟩:web) a1 K hs hk⟩
  · exact h.elim
abbrev T92:Tabs:=((Tabs.nil.addF 93 zpd).addI 110 zpf)
theorem zMV:TabsOk Tryd.prog T92:=((TabsOk.nil.addF zI6).addI zuY)
abbrev G92:Ctrs:=csm T92 (λ _ _=>[]) (λ _=>false)
def zjO:Ann:=⟨49,[(0,zK [0,1,2,3,4] [0,1,2,3,4,4099]),(1,zK [0,1,2,3,4,7] [0,1,2,3,4,4099]),(2,zK [0,1,2,3,4,5,7] [0,1,2,3,4,5,4099]),(3,zK [0,1,2,3,4,5,7,41] [0,1,2,3,4,5,4099]),(4,zK [0,1,2,3,4,5] [0,1,2,3,4,5,4099]),(5,zK [0,1,2,3,4] [0,1,2,3,4,4099]),(6,zK [0,1,2,3,4] [0,1,2,3,4,4099]),(7,zK [0,1,2,3,4] [0,1,2,3,4,4099])],
 [(2,zK [0,1,2,3,4,7] [0,1,2,3,4,4099])],
 [],
 [],[]⟩
def zf6 (w:web) (at_:Int) (d:Tab) (out:(Sl Use)):St:=⟨[(0,.one (.c (.ptr 0 0))),(1,.one (.c (.ptr 1 0))),(2,.one (.c (.ptr 2 0))),(3,.one (.c (.ptr 3 0))),(4,.one (.c (.ptr 4 0))),(7,.one (.c (.p (.fn 110 [] [.fp [.fp (zaE w) 0] 0]))))],[(0,.box 102 [.p (.fp (zaE w) 0)]),(1,.box 3 [.p (.int .i64 at_)]),(2,.box 116 (zm (zar d))),(3,.box 67 [.vec 4099]),(4,.box 4 [.p (.bool false)]),(4099,.vec 75 2 16 out.len (λ i=>zaC (out.get i)))],[]⟩
def zk8 (K:List PA×List XA->Prop) (w:web) (at_:Int) (d:Tab) (out:(Sl Use)):Prop:=vc Tryd.prog G92 zjO (cdF Tryd.f92 [1,0,1,0]) (zfy 0 (sqK Tryd.prog G92 zjO (cdF Tryd.f92 [1,1]) (zlE Tryd.prog Tryd.f92 [.box 102 [.p (.fp (zaE w) 0)],.box 3 [.p (.int .i64 at_)],.box 116 (xcm (zar d)),.box 67 [.vec 75 2 16 out.len (λ i=>zaC (out.get i))]] (λ a b=>K (a,b))))) (zf6 w at_ d out)
theorem zFX (w : web) (at_ : Int) (d : Tab) (out : (Sl Use)) (K : List PA × List XA → Prop) :
  zkY Tryd.prog G92 zjO 92 [.box 102 [.p (.fp (zaE w) 0)],.box 3 [.p (.int .i64 at_)],.box 116 (xcm (zar d)),.box 67 [.vec 75 2 16 out.len (λ i=>zaC (out.get i))]] (λ a b=>K (a,b)) =
  ((IsE enc_40 4 4 (λ i=>enc_40 (w.Net.Ties.get i))/\((false,1,false,[none]):MQ)=(false,1,false,[none])) /\
 (zk8 K w at_ d out)):=by kernel_rfl
def zph (K:List PA×List XA->Prop) (w:web) (at_:Int) (d:Tab) (out:(Sl Use)):Prop :=
  (K ([.one (.bool false)],[.box 102 [.p (.fp (zaE w) 0)],.box 3 [.p (.int .i64 at_)],.box 116 (xcm (zar d)),.box 67 [.vec 75 2 16 out.len (λ i=>zaC (out.get i))]]))
def zpi (K:List PA×List XA->Prop) (X0:List (List PA)->St->Prop) (y0:step) (rest0:List (List PA)) (w:web) (at_:Int) (d:Tab) (out:(Sl Use)):Prop :=
  (zdN (y0.from_ == at_)
 (((0<=y0.to/\y0.to < (40:Int))) /\
 (zdN (!(match ((tg 80 d (0 + y0.to.toNat * 2 + 0)) == (1000000000000:Int)) with | true => (match ((tg 80 d (0 + y0.to.toNat * 2 + 0 + 1)) == (0:Int)) with | true => true | false => false) | false => false))
 (((0<=y0.to/\y0.to < (40:Int))) /\
 (((0<=y0.to/\y0.to < (40:Int))) /\
 (((0<=at_/\at_ < (40:Int))) /\
 (zdN (match ((w64 ((tg 80 d (0 + y0.to.toNat * 2 + 0)) + y0.length)) == (tg 80 d (0 + at_.toNat * 2 + 0))) with | true => (match ((w64 ((tg 80 d (0 + y0.to.toNat * 2 + 1)) + (1:Int))) == (tg 80 d (0 + at_.toNat * 2 + 0 + 1))) with | true => true | false => false) | false => false)
 ((((out.len+1) * 16<=140737488355328/\out.len+1<=9223372036854775807)) /\
 (K ([.one (.bool true)],[.box 102 [.p (.fp (zaE w) 0)],.box 3 [.p (.int .i64 y0.to)],.box 116 (xcm (zar d)),.box 67 [.vec 75 2 16 (out.len+1) (appG out.len (λ i=>zaC (out.get i)) (λ _=>(zaC y0.Use)))]])))
 (X0 rest0 (zf6 w at_ d out))))))
 (X0 rest0 (zf6 w at_ d out))))
 (X0 rest0 (zf6 w at_ d out)))
theorem zqQ (K:List PA×List XA->Prop) (w:web) (at_:Int) (d:Tab) (out:(Sl Use)):(zfy 0 (sqK Tryd.prog G92 zjO (cdF Tryd.f92 [1,1]) (zlE Tryd.prog Tryd.f92 [.box 102 [.p (.fp (zaE w) 0)],.box 3 [.p (.int .i64 at_)],.box 116 (xcm (zar d)),.box 67 [.vec 75 2 16 out.len (λ i=>zaC (out.get i))]] (λ a b=>K (a,b))))) .normal (zf6 w at_ d out)=zph K w at_ d out:=by kernel_rfl
theorem zqR (K : List PA × List XA → Prop) (X0 : List (List PA) → St → Prop) (y0 : step) (rest0 : List (List PA)) (w : web) (at_ : Int) (d : Tab) (out : (Sl Use)) :
  zMD Tryd.prog G92 zjO 2 [8] (cd (cdF Tryd.f92 [1,0,1,0]) [0]) (cd (cdF Tryd.f92 [1,0,1,0]) [1]) X0 (zfy 0 (sqK Tryd.prog G92 zjO (cdF Tryd.f92 [1,1]) (zlE Tryd.prog Tryd.f92 [.box 102 [.p (.fp (zaE w) 0)],.box 3 [.p (.int .i64 at_)],.box 116 (xcm (zar d)),.box 67 [.vec 75 2 16 out.len (λ i=>zaC (out.get i))]] (λ a b=>K (a,b))))) [.agg (zaB y0)] rest0 (zf6 w at_ d out)=zpi K X0 y0 rest0 w at_ d out:=by kernel_rfl
theorem zxi (K : List PA × List XA → Prop) (w : web) (at_ : Int) (d : Tab) (out : (Sl Use))
  (hsafe:IsE enc_40 4 4 (λ i=>enc_40 (w.Net.Ties.get i))/\((false,1,false,[none]):MQ)=(false,1,false,[none])/\(zvf w=true)) (h:∀ X0:List (List PA)->St->Prop,(∀ (_:Unit),zph K w at_ d out->X0 [] (zf6 w at_ d out))->(∀ (y:step) (rest:List (List PA)) (_:Unit),zpi K X0 y rest w at_ d out->X0 ([.agg (zaB y)] :: rest) (zf6 w at_ d out))->X0 ((zk7 w).map λ y=>[.agg (zaB y)]) (zf6 w at_ d out)) :
  zk8 K w at_ d out:=by
  have e:zk8 K w at_ d out=((IsE enc_40 4 4 (λ i=>enc_40 (w.Net.Ties.get i))/\((false,1,false,[none]):MQ)=(false,1,false,[none])/\(zvf w=true))/\∀ X:List (List PA)->St->Prop,(∀ s,(zfy 0 (sqK Tryd.prog G92 zjO (cdF Tryd.f92 [1,1]) (zlE Tryd.prog Tryd.f92 [.box 102 [.p (.fp (zaE w) 0)],.box 3 [.p (.int .i64 at_)],.box 116 (xcm (zar d)),.box 67 [.vec 75 2 16 out.len (λ i=>zaC (out.get i))]] (λ a b=>K (a,b))))) .normal s->X [] s)->(∀ y rest s,zMD Tryd.prog G92 zjO 2 [8] (cd (cdF Tryd.f92 [1,0,1,0]) [0]) (cd (cdF Tryd.f92 [1,0,1,0]) [1]) X (zfy 0 (sqK Tryd.prog G92 zjO (cdF Tryd.f92 [1,1]) (zlE Tryd.prog Tryd.f92 [.box 102 [.p (.fp (zaE w) 0)],.box 3 [.p (.int .i64 at_)],.box 116 (xcm (zar d)),.box 67 [.vec 75 2 16 out.len (λ i=>zaC (out.get i))]] (λ a b=>K (a,b))))) y rest s->X (y :: rest) s)->X ((zk7 w).map λ y=>[.agg (zaB y)]) (zf6 w at_ d out)):=by kernel_rfl
  refine zaW e ⟨hsafe,?_⟩
  intro X h0 h1
  refine h X (λ _ hs=>h0 _ ?_) (λ y rest _ hs=>h1 _ rest _ ?_)
  · rw[zqQ K w at_ d out];exact hs
  · have e2 := zqR K X y rest w at_ d out
    rw[e2];exact hs
abbrev e92 (w:web) (d:Tab) (r:(Bool×Int×(Sl Use))):List PA×List XA:=([.one (.bool r.1)],[.box 102 [.p (.fp (zaE w) 0)],.box 3 [.p (.int .i64 r.2.1)],.box 116 (xcm (zar d)),.box 67 [.vec 75 2 16 r.2.2.len (λ i=>zaC (r.2.2.get i))]])
attribute [irreducible] zk8
def zqS (w:web) (at_:Int) (d:Tab) (out:(Sl Use)):(Bool×Int×(Sl Use)) :=
  (false,at_,(⟨out.len,out.get⟩:(Sl Use)))
def zqT (w:web) (at_:Int) (d:Tab) (out:(Sl Use)):Bool :=
  true
def znw (w:web) (at_:Int) (d:Tab) (out:(Sl Use)) (y0:step) (S0:(Bool×Int×(Sl Use))):(Bool×Int×(Sl Use)) :=
  (cond (y0.from_ == at_)
 (cond (!(match ((tg 80 d (0 + y0.to.toNat * 2 + 0)) == (1000000000000:Int)) with | true => (match ((tg 80 d (0 + y0.to.toNat * 2 + 0 + 1)) == (0:Int)) with | true => true | false => false) | false => false))
 (cond (match ((w64 ((tg 80 d (0 + y0.to.toNat * 2 + 0)) + y0.length)) == (tg 80 d (0 + at_.toNat * 2 + 0))) with | true => (match ((w64 ((tg 80 d (0 + y0.to.toNat * 2 + 1)) + (1:Int))) == (tg 80 d (0 + at_.toNat * 2 + 0 + 1))) with | true => true | false => false) | false => false)
 (true,y0.to,(⟨(out.len+1),(zdm out.len out.get (λ _=>y0.Use))⟩:(Sl Use)))
 (S0))
 (S0))
 (S0))
def znx (w:web) (at_:Int) (d:Tab) (out:(Sl Use)) (y0:step) (P0:Bool):Bool :=
  (cond (y0.from_ == at_)
 (decide ((0<=y0.to/\y0.to < (40:Int))) &&
 (cond (!(match ((tg 80 d (0 + y0.to.toNat * 2 + 0)) == (1000000000000:Int)) with | true => (match ((tg 80 d (0 + y0.to.toNat * 2 + 0 + 1)) == (0:Int)) with | true => true | false => false) | false => false))
 (decide ((0<=y0.to/\y0.to < (40:Int))) &&
 (decide ((0<=y0.to/\y0.to < (40:Int))) &&
 (decide ((0<=at_/\at_ < (40:Int))) &&
 (cond (match ((w64 ((tg 80 d (0 + y0.to.toNat * 2 + 0)) + y0.length)) == (tg 80 d (0 + at_.toNat * 2 + 0))) with | true => (match ((w64 ((tg 80 d (0 + y0.to.toNat * 2 + 1)) + (1:Int))) == (tg 80 d (0 + at_.toNat * 2 + 0 + 1))) with | true => true | false => false) | false => false)
 (decide (((out.len+1) * 16<=140737488355328/\out.len+1<=9223372036854775807)) &&
 true)
 (P0)))))
 (P0)))
 (P0))
def zcY (w : web) (at_ : Int) (d : Tab) (out : (Sl Use)) : List step → (Bool × Int × (Sl Use))
  | []=>zqS w at_ d out
  | y :: r=>znw w at_ d out y (zcY w at_ d out r)
def zcZ (w : web) (at_ : Int) (d : Tab) (out : (Sl Use)) : List step → Bool
  | []=>zqT w at_ d out
  | y :: r=>znx w at_ d out y (zcZ w at_ d out r)
def zqU (w:web) (at_:Int) (d:Tab) (out:(Sl Use)):(Bool×Int×(Sl Use)):=zcY w at_ d out (zk7 w)
def zny (w:web) (at_:Int) (d:Tab) (out:(Sl Use)):Bool:=decide ((zvf w=true)) && zcZ w at_ d out (zk7 w)
theorem zFY (K:List PA×List XA->Prop) (w:web) (at_:Int) (d:Tab) (out:(Sl Use)) (hs:zny w at_ d out=true) (hk:K (e92 w d (zqU w at_ d out))):zk8 K w at_ d out:=by
  unfold zny at hs
  rw[dqm] at hs
  obtain⟨hsf,hs⟩:=hs
  have hc:=of_decide_eq_true hsf
  refine zxi K w at_ d out ⟨isE,rfl,hc⟩ ?_
  intro X0 hexit hstep
  have key:∀ (l:List step),zcZ w at_ d out l=true->K (e92 w d (zcY w at_ d out l))->X0 (l.map λ y=>[.agg (zaB y)]) (zf6 w at_ d out):=by
    intro l
    induction l with
    | nil =>
      intro hs hk
      refine hexit () ?_
      have hs:zqT w at_ d out=true:=hs
      have hk:K (e92 w d (zqS w at_ d out)):=hk
      unfold zqT at hs
      unfold zqS at hk
      exact hk
    | cons y0 l ih =>
      intro hs hk
      refine hstep y0 _ () ?_
      have hs:znx w at_ d out y0 (zcZ w at_ d out l)=true:=hs
      have hk:K (e92 w d (znw w at_ d out y0 (zcY w at_ d out l))):=hk
      unfold znx at hs
      unfold znw at hk
      generalize zcY w at_ d out l=S0 at hk ih
      generalize zcZ w at_ d out l=P0 at hs ih
      have hX0:=ih
      exact (zfl (K := λ r => K (e92 w d r))
 (λ hs hk => (zaI hs λ hc hs => ⟨hc, (zfl (K := λ r => K (e92 w d r))
 (λ hs hk => (zaI hs λ hc hs => ⟨hc, (zaI hs λ hc hs => ⟨hc, (zaI hs λ hc hs => ⟨hc, (zfl (K := λ r => K (e92 w d r))
 (λ hs hk=>(zaI hs λ hc hs=>⟨hc,(Eq.mpr (congrArg K (congrArg (λ (g_:Nat->List PV)=>(([.one (.bool true)],[.box 102 [.p (.fp (zaE w) 0)],.box 3 [.p (.int .i64 y0.to)],.box 116 (xcm (zar d)),.box 67 [.vec 75 2 16 (out.len+1) g_]]):List PA×List XA)) (zjx (enc:=zaC) (f:=out.get) (h:=(λ _=>y0.Use)) rfl rfl))) hk)⟩))
 (λ hs hk=>(hX0 hs hk)) hs hk)⟩)⟩)⟩))
 (λ hs hk=>(hX0 hs hk)) hs hk)⟩))
 (fun hs hk=>(hX0 hs hk)) hs hk)
  exact key _ hs hk
def s92 (w:web) (at_:Int) (d:Tab) (out:(Sl Use)):(Bool×Int×(Sl Use)) :=
  (zqU w at_ d out)
def p92 (w:web) (at_:Int) (d:Tab) (out:(Sl Use)):Bool :=
  (zny w at_ d out)
theorem q92 (w:web) (at_:Int) (d:Tab) (out:(Sl Use)) (K:List PA×List XA->Prop) (hs:p92 w at_ d out=true) (hk:K (e92 w d (s92 w at_ d out))):zkY Tryd.prog G92 zjO 92 [.box 102 [.p (.fp (zaE w) 0)],.box 3 [.p (.int .i64 at_)],.box 116 (xcm (zar d)),.box 67 [.vec 75 2 16 out.len (λ i=>zaC (out.get i))]] (λ a b=>K (a,b)):=by
  refine zaW (zFX w at_ d out K) ?_
  unfold p92 at hs
  unfold s92 at hk
  exact⟨⟨isE,rfl⟩,(zFY K w at_ d out hs hk)⟩
def zFZ : MK
  | [.box 102 [.p (.fp [.int .i64 zay,.sl zau zbF zas,.fm zdw zaT zaU] 0)],.box 3 [.p (.int .i64 b1)],.box 116 zlF,.box 67 [.vec 75 2 16 zF0 zF1]]=>some (IsE enc_40 4 zbF zas/\zdw=(false,1,false,[none])/\zlF=xcm (zar (za0 (unX zlF)))/\IsE zaC 2 2 zF1/\p92 (⟨(⟨zay,(⟨zau,zai zas⟩:(Sl Tie))⟩:Net),(⟨zaT,zaU⟩:Mp)⟩:web) b1 (za0 (unX zlF)) (⟨zF0,zcy zF1⟩:(Sl Use))=true,[.one (.bool ((s92 (⟨(⟨zay,(⟨zau,zai zas⟩:(Sl Tie))⟩:Net),(⟨zaT,zaU⟩:Mp)⟩:web) b1 (za0 (unX zlF)) (⟨zF0,zcy zF1⟩:(Sl Use))).1))],[.box 102 [.p (.fp [.int .i64 zay,.sl zau zbF zas,.fm zdw zaT zaU] 0)],.box 3 [.p (.int .i64 ((s92 (⟨(⟨zay,(⟨zau,zai zas⟩:(Sl Tie))⟩:Net),(⟨zaT,zaU⟩:Mp)⟩:web) b1 (za0 (unX zlF)) (⟨zF0,zcy zF1⟩:(Sl Use))).2.1))],.box 116 zlF,.box 67 [.vec 75 2 16 (((s92 (⟨(⟨zay,(⟨zau,zai zas⟩:(Sl Tie))⟩:Net),(⟨zaT,zaU⟩:Mp)⟩:web) b1 (za0 (unX zlF)) (⟨zF0,zcy zF1⟩:(Sl Use))).2.2).len) (λ i=>zaC (((s92 (⟨(⟨zay,(⟨zau,zai zas⟩:(Sl Tie))⟩:Net),(⟨zaT,zaU⟩:Mp)⟩:web) b1 (za0 (unX zlF)) (⟨zF0,zcy zF1⟩:(Sl Use))).2.2).get i))]])
  | _=>none
theorem zKg:zav Tryd.prog 92:=⟨_,rfl,rfl,by kernel_rfl⟩
theorem zOA:zjL Tryd.prog 92 zFZ:=zFl zMV zKg λ xs safe rs ys h hs K hk=>by
  unfold zFZ at h
  split at h
  · rename_i zay zau zbF zas zdw zaT zaU b1 zlF zF0 zF1
    simp only[dqa,dqh] at h
    obtain⟨rfl,rfl,rfl⟩:=h
    obtain⟨⟨rfl,zch,rfl⟩,rfl,hT_b2,⟨_,zMW,rfl⟩,hs⟩:=hs
    try rw[zaj zch] at hs
    try rw[zaj zch] at hk
    try rw[zcz zMW] at hs
    try rw[zcz zMW] at hk
    refine⟨λ _ _=>[],λ _=>false,zjO,?_⟩
    show zkY Tryd.prog G92 zjO 92 _ K
    have hq:=q92 (⟨(⟨zay,(⟨zau,zch⟩:(Sl Tie))⟩:Net),(⟨zaT,zaU⟩:Mp)⟩:web) b1 (za0 (unX zlF)) (⟨zF0,zMW⟩:(Sl Use)) (λ x=>K x.1 x.2) hs
    dsimp only[e92] at hq
    rw[<- hT_b2] at hq
    exact hq hk
  · cases h
abbrev T54:Tabs:=(((Tabs.nil.addF 74 zuZ).addF 75 zu0).addM 92 zFZ)
theorem zMX:TabsOk Tryd.prog T54:=(((TabsOk.nil.addF zMj).addF zMl).addM zOA)
abbrev G54:Ctrs:=csm T54 (λ _ _=>[]) (λ _=>false)
def zF2:Ann:=⟨45,[(0,zK [1,2,3] [3]),(1,zK [1,2,8,9] [8]),(2,zK [1,2,8,9,23] [8]),(3,zK [6,7] []),(4,zK [1,8,10] [8,10]),(5,zK [1,8,10,32] [8,10]),(6,zK [6,7] []),(7,zK [1,8,10,11] [8,10,11]),(8,zK [8,10,11,12] [8,10,11,12]),(9,zK [10,11,12,13] [8,10,11,12]),(10,zK [10,11,12,13,43] [8,10,11,12,5000]),(11,zK [6,7] [5000])],
 [(10,⟨[10,11,12,13],[8,10,11,12,5000],[],[(11,0,5000,75,λ _=>zaC default)],[],[],[]⟩)],
 [],
 [],[]⟩
abbrev R54:=((Sl Use)×Int)
abbrev e54 (r:R54):List PA:=[.one (.sl r.1.len 2 (λ i=>zaC (r.1.get i))),.one (.int .i64 r.2)]
@[irreducible] def z54:=ptF Tryd.prog G54 zF2 Tryd.f54
def zDL (n:Net) (zaa:Int) (to:Int) (zhC:Int) (za1:(Sl Use)) (dt0:Tab) (zdE:Nat->List PV):St:=⟨[(10,zp 10 0),(11,zp 11 0),(12,zp 12 0),(13,.one (.c (.clo 92 [.b 8,.b 12,.b 10,.b 11])))],[(8,.box 102 [.p (.fp (zaE (⟨(s74 n (⟨2,zaq (za9 [(zad zaa),(zad to)])⟩:(Sl Int))).1.Net,((s74 n (⟨2,zaq (za9 [(zad zaa),(zad to)])⟩:(Sl Int))).1.out)⟩:web)) 0)]),(10,.box 116 (zm (zar dt0))),(11,.box 67 [.vec 5000]),(12,.box 3 [zi zhC]),(5000,.vec 75 2 16 za1.len zdE)],[]⟩
abbrev zKh (K:List PA->Prop) (n:Net) (zaa:Int) (to:Int) (X:St->Prop) (P:Int->(Sl Use)->Tab->Bool) (S:Int->(Sl Use)->Tab->((Sl Use)×Int)):Prop:=∀ ⦃zhC:Int⦄ ⦃za1:(Sl Use)⦄ ⦃dt0:Tab⦄ ⦃zdE:Nat->List PV⦄,P zhC za1 dt0=true->K (e54 (S zhC za1 dt0))->zdE=zg zaC za1->X (zDL n zaa to zhC za1 dt0 zdE)
section
variable {K:List PA->Prop}{n:Net}{zaa:Int}{to:Int}{zhC:Int}{za1:(Sl Use)}{dt0:Tab}{zdE:Nat->List PV}{X0:St->Prop}{P0:Int->(Sl Use)->Tab->Bool}{S0:Int->(Sl Use)->Tab->((Sl Use)×Int)}
def ziO (n:Net) (zaa:Int) (to:Int) (S0:Int->(Sl Use)->Tab->((Sl Use)×Int)) (zhC:Int) (za1:(Sl Use)) (dt0:Tab):((Sl Use)×Int) :=
  (cond (decide ((tg 80 dt0 (0 + zhC.toNat * 2 + 1)) > (0:Int)))
 (cond ((s92 (⟨(s74 n (⟨2, zaq (za9 [(zad zaa), (zad to)])⟩ : (Sl Int))).1.Net, ((s74 n (⟨2, zaq (za9 [(zad zaa), (zad to)])⟩ : (Sl Int))).1.out)⟩ : web) zhC (za0 (unX (xcm (zar dt0)))) (⟨za1.len, za1.get⟩ : (Sl Use))).1)
 (S0 ((s92 (⟨(s74 n (⟨2,zaq (za9 [(zad zaa),(zad to)])⟩:(Sl Int))).1.Net,((s74 n (⟨2,zaq (za9 [(zad zaa),(zad to)])⟩:(Sl Int))).1.out)⟩:web) zhC (za0 (unX (xcm (zar dt0)))) (⟨za1.len,za1.get⟩:(Sl Use))).2.1) ((s92 (⟨(s74 n (⟨2,zaq (za9 [(zad zaa),(zad to)])⟩:(Sl Int))).1.Net,((s74 n (⟨2,zaq (za9 [(zad zaa),(zad to)])⟩:(Sl Int))).1.out)⟩:web) zhC (za0 (unX (xcm (zar dt0)))) (⟨za1.len,za1.get⟩:(Sl Use))).2.2) dt0)
 (((s92 (⟨(s74 n (⟨2,zaq (za9 [(zad zaa),(zad to)])⟩:(Sl Int))).1.Net,((s74 n (⟨2,zaq (za9 [(zad zaa),(zad to)])⟩:(Sl Int))).1.out)⟩:web) zhC (za0 (unX (xcm (zar dt0)))) (⟨za1.len,za1.get⟩:(Sl Use))).2.2),(0:Int)))
 (za1,(0:Int)))
def ziP (n:Net) (zaa:Int) (to:Int) (P0:Int->(Sl Use)->Tab->Bool) (zhC:Int) (za1:(Sl Use)) (dt0:Tab):Bool :=
  (decide ((0<=zhC/\zhC < (40:Int))) &&
 (cond (decide ((tg 80 dt0 (0 + zhC.toNat * 2 + 1)) > (0:Int)))
 (decide ((p92 (⟨(s74 n (⟨2,zaq (za9 [(zad zaa),(zad to)])⟩:(Sl Int))).1.Net,((s74 n (⟨2,zaq (za9 [(zad zaa),(zad to)])⟩:(Sl Int))).1.out)⟩:web) zhC (za0 (unX (xcm (zar dt0)))) (⟨za1.len,za1.get⟩:(Sl Use))=true)) &&
 (cond ((s92 (⟨(s74 n (⟨2, zaq (za9 [(zad zaa), (zad to)])⟩ : (Sl Int))).1.Net, ((s74 n (⟨2, zaq (za9 [(zad zaa), (zad to)])⟩ : (Sl Int))).1.out)⟩ : web) zhC (za0 (unX (xcm (zar dt0)))) (⟨za1.len, za1.get⟩ : (Sl Use))).1)
 (P0 ((s92 (⟨(s74 n (⟨2,zaq (za9 [(zad zaa),(zad to)])⟩:(Sl Int))).1.Net,((s74 n (⟨2,zaq (za9 [(zad zaa),(zad to)])⟩:(Sl Int))).1.out)⟩:web) zhC (za0 (unX (xcm (zar dt0)))) (⟨za1.len,za1.get⟩:(Sl Use))).2.1) ((s92 (⟨(s74 n (⟨2,zaq (za9 [(zad zaa),(zad to)])⟩:(Sl Int))).1.Net,((s74 n (⟨2,zaq (za9 [(zad zaa),(zad to)])⟩:(Sl Int))).1.out)⟩:web) zhC (za0 (unX (xcm (zar dt0)))) (⟨za1.len,za1.get⟩:(Sl Use))).2.2) dt0)
 true))
 true))
def zhm (n:Net) (zaa:Int) (to:Int):Nat->Int->(Sl Use)->Tab->((Sl Use)×Int):=lpO (λ _ _ _=>default) (ziO n zaa to)
def zhn (n:Net) (zaa:Int) (to:Int):Nat->Int->(Sl Use)->Tab->Bool:=lpO (λ _ _ _=>false) (ziP n zaa to)
def zqV (n:Net) (zaa:Int) (to:Int) (zhC:Int) (za1:(Sl Use)) (dt0:Tab):((Sl Use)×Int):=zhm n zaa to Fuel zhC za1 dt0
def zqW (n:Net) (zaa:Int) (to:Int) (zhC:Int) (za1:(Sl Use)) (dt0:Tab):Bool:=zhn n zaa to Fuel zhC za1 dt0
theorem zF3 (hs:zqW n zaa to zhC za1 dt0=true) (hk:K (e54 (zqV n zaa to zhC za1 dt0))) (zk9:zdE=zg zaC za1):z54 (Wk K) [1,1,1,1,1,1,1,1,0,0] [] (zDL n zaa to zhC za1 dt0 zdE) :=
  zl (λ X=>z54 (Wk K) [1,1,1,1,1,1,1,1,0,0,0] [X]) (by kernel_rfl) λ X0 hX =>
  (show ∀ k, zKh K n zaa to X0 (zhn n zaa to k) (zhm n zaa to k) from zeH _ _ (ziP n zaa to) (ziO n zaa to) (zKh K n zaa to X0)
 (by intro _ _ _ _ hs;exact absurd hs dqk)
 (by intro P0 S0 hX0 zhC za1 dt0 zdE hs hk zk9;subst zk9;exact hX _ (zaW (by kernel_rfl) (zaI hs λ hc hs=>And.intro hc (zc hs hk (λ hs hk=>(zaI hs λ hc hs=>And.intro (And.intro (zE enc_40 4 ((s74 n (⟨2,zaq (za9 [(zad zaa),(zad to)])⟩:(Sl Int))).1.Net.Ties.get)) (And.intro (rfl:((false,1,false,[none]):MQ)=(false,1,false,[none])) (And.intro (zFn:xcm (zar dt0)=xcm (zar (za0 (unX (xcm (zar dt0)))))) (And.intro (zE zaC 2 za1.get) hc)))) (zc hs hk (λ hs hk=>(hX0 hs hk rfl)) (λ hs hk=>((zfW hk):Wk K [.one (.sl (((s92 (⟨(s74 n (⟨2,zaq (za9 [(zad zaa),(zad to)])⟩:(Sl Int))).1.Net,((s74 n (⟨2,zaq (za9 [(zad zaa),(zad to)])⟩:(Sl Int))).1.out)⟩:web) zhC (za0 (unX (xcm (zar dt0)))) (⟨za1.len,za1.get⟩:(Sl Use))).2.2).len) 2 (λ i=>zaC (((s92 (⟨(s74 n (⟨2,zaq (za9 [(zad zaa),(zad to)])⟩:(Sl Int))).1.Net,((s74 n (⟨2,zaq (za9 [(zad zaa),(zad to)])⟩:(Sl Int))).1.out)⟩:web) zhC (za0 (unX (xcm (zar dt0)))) (⟨za1.len,za1.get⟩:(Sl Use))).2.2).get i))),.one (.int .i64 (0:Int))]))))) (λ hs hk=>((zfW hk):Wk K [.one (.sl za1.len 2 (λ i=>zaC (za1.get i))),.one (.int .i64 (0:Int))]))))))) _ hs hk zk9
def s54 (n:Net) (zaa:Int) (to:Int):((Sl Use)×Int) :=
  (cond ((s74 n (⟨2, zaq (za9 [(zad zaa), (zad to)])⟩ : (Sl Int))).2 == 0)
 (cond ((0:Int) != (0:Int))
 ((⟨0,λ _=>default⟩:(Sl Use)),(0:Int))
 (cond (match ((tg 80 (s75 (⟨(s74 n (⟨2, zaq (za9 [(zad zaa), (zad to)])⟩ : (Sl Int))).1.Net, ((s74 n (⟨2, zaq (za9 [(zad zaa), (zad to)])⟩ : (Sl Int))).1.out)⟩ : web) to) (0 + zaa.toNat * 2 + 0)) == (1000000000000:Int)) with | true => (match ((tg 80 (s75 (⟨(s74 n (⟨2, zaq (za9 [(zad zaa), (zad to)])⟩ : (Sl Int))).1.Net, ((s74 n (⟨2, zaq (za9 [(zad zaa), (zad to)])⟩ : (Sl Int))).1.out)⟩ : web) to) (0 + zaa.toNat * 2 + 0 + 1)) == (0:Int)) with | true => true | false => false) | false => false)
 ((⟨0,λ _=>default⟩:(Sl Use)),(6:Int))
 (zqV n zaa to zaa (⟨0,(λ _=>default)⟩:Sl Use) (s75 (⟨(s74 n (⟨2,zaq (za9 [(zad zaa),(zad to)])⟩:(Sl Int))).1.Net,((s74 n (⟨2,zaq (za9 [(zad zaa),(zad to)])⟩:(Sl Int))).1.out)⟩:web) to))))
 (cond ((s74 n (⟨2, zaq (za9 [(zad zaa), (zad to)])⟩ : (Sl Int))).2 != (0:Int))
 ((⟨0,λ _=>default⟩:(Sl Use)),(s74 n (⟨2,zaq (za9 [(zad zaa),(zad to)])⟩:(Sl Int))).2)
 default))
def p54 (n:Net) (zaa:Int) (to:Int):Bool :=
  (cond ((s74 n (⟨2, zaq (za9 [(zad zaa), (zad to)])⟩ : (Sl Int))).2 == 0)
 (decide ((p74 n (⟨2,zaq (za9 [(zad zaa),(zad to)])⟩:(Sl Int))=true)) &&
 (cond ((0:Int) != (0:Int))
 true
 (decide ((p75 (⟨(s74 n (⟨2,zaq (za9 [(zad zaa),(zad to)])⟩:(Sl Int))).1.Net,((s74 n (⟨2,zaq (za9 [(zad zaa),(zad to)])⟩:(Sl Int))).1.out)⟩:web) to=true)) &&
 (decide ((0<=zaa/\zaa < (40:Int))) &&
 (cond (match ((tg 80 (s75 (⟨(s74 n (⟨2, zaq (za9 [(zad zaa), (zad to)])⟩ : (Sl Int))).1.Net, ((s74 n (⟨2, zaq (za9 [(zad zaa), (zad to)])⟩ : (Sl Int))).1.out)⟩ : web) to) (0 + zaa.toNat * 2 + 0)) == (1000000000000:Int)) with | true => (match ((tg 80 (s75 (⟨(s74 n (⟨2, zaq (za9 [(zad zaa), (zad to)])⟩ : (Sl Int))).1.Net, ((s74 n (⟨2, zaq (za9 [(zad zaa), (zad to)])⟩ : (Sl Int))).1.out)⟩ : web) to) (0 + zaa.toNat * 2 + 0 + 1)) == (0:Int)) with | true => true | false => false) | false => false)
 true
 (zqW n zaa to zaa (⟨0,(λ _=>default)⟩:Sl Use) (s75 (⟨(s74 n (⟨2,zaq (za9 [(zad zaa),(zad to)])⟩:(Sl Int))).1.Net,((s74 n (⟨2,zaq (za9 [(zad zaa),(zad to)])⟩:(Sl Int))).1.out)⟩:web) to)))))))
 (decide ((p74 n (⟨2,zaq (za9 [(zad zaa),(zad to)])⟩:(Sl Int))=true)) &&
 (cond ((s74 n (⟨2, zaq (za9 [(zad zaa), (zad to)])⟩ : (Sl Int))).2 != (0:Int))
 true
 false)))
end
theorem q54 (n:Net) (zaa:Int) (to:Int) (K:List PA->Prop) (hs:p54 n zaa to=true) (hk:K (e54 (s54 n zaa to))):vcFun Tryd.prog G54 zF2 54 [.agg (enc_24 n),.one (.int .i64 zaa),.one (.int .i64 to)] (Wk K) :=
  zaW (by kernel_rfl) (zc hs hk (λ hs hk=>(zaI hs λ hc hs=>And.intro (And.intro (zE enc_40 4 n.Ties.get) (And.intro ((zdv []):IsE zad 1 1 (za9 [(zad zaa),(zad to)])) hc)) (zc hs hk (λ hs hk=>((wk hk (zhB (.one (.nil _ _)) (zhB (.one (.rfl _)) zol))):Wk K [.one (.nils),.one (.int .i64 (0:Int))])) (λ hs hk=>(zaI hs λ hc hs=>And.intro (And.intro (zE enc_40 4 ((s74 n (⟨2,zaq (za9 [(zad zaa),(zad to)])⟩:(Sl Int))).1.Net.Ties.get)) (And.intro (rfl:((false,1,false,[none]):MQ)=(false,1,false,[none])) hc)) (zaI hs λ hc hs=>And.intro hc (zc hs hk (λ hs hk=>((wk hk (zhB (.one (.nil _ _)) (zhB (.one (.rfl _)) zol))):Wk K [.one (.nils),.one (.int .i64 (6:Int))])) (λ hs hk=>(zF3 hs hk rfl))))))))) (λ hs hk=>(zaI hs λ hc hs=>And.intro (And.intro (zE enc_40 4 n.Ties.get) (And.intro ((zdv []):IsE zad 1 1 (za9 [(zad zaa),(zad to)])) hc)) (zc hs hk (λ hs hk=>((wk hk (zhB (.one (.nil _ _)) (zhB (.one (.rfl _)) zol))):Wk K [.one (.nils),.one (.int .i64 ((s74 n (⟨2,zaq (za9 [(zad zaa),(zad to)])⟩:(Sl Int))).2))])) (λ hs hk=>(absurd hs dqk:False))))))
def zCl : List PA → COut
  | [.agg [.int .i64 zaf,.sl zae zaw zac],.one (.int .i64 a1),.one (.int .i64 a2)]=>.det (IsE enc_40 4 zaw zac/\p54 (⟨zaf,(⟨zae,zai zac⟩:(Sl Tie))⟩:Net) a1 a2=true) [.one (.sl (((s54 (⟨zaf,(⟨zae,zai zac⟩:(Sl Tie))⟩:Net) a1 a2).1).len) 2 (λ i=>zaC (((s54 (⟨zaf,(⟨zae,zai zac⟩:(Sl Tie))⟩:Net) a1 a2).1).get i))),.one (.int .i64 ((s54 (⟨zaf,(⟨zae,zai zac⟩:(Sl Tie))⟩:Net) a1 a2).2))]
  | _=>.no
theorem zKi:zav Tryd.prog 54:=⟨_,rfl,rfl,by kernel_rfl⟩
theorem zN7:Ok Tryd.prog 54 zCl:=zhl zMX zKi λ args K h=>by
  unfold zCl at h
  split at h
  · rename_i zaf zae zaw zac a1 a2
    obtain⟨⟨⟨rfl,zak,rfl⟩,hs⟩,hk⟩:=h
    try rw[zaj zak] at hs
    try rw[zaj zak] at hk
    exact⟨_,zfB zfV _,(λ _ _=>[]),(λ _=>false),zF2,q54 (⟨zaf,(⟨zae,zak⟩:(Sl Tie))⟩:Net) a1 a2 K hs hk⟩
  · exact h.elim
abbrev zN8:Tabs:=(((Tabs.nil.addF 93 zpd).addF 104 zpg).addI 110 zpf)
theorem zKj:TabsOk Tryd.prog zN8:=(((TabsOk.nil.addF zI6).addF zFO).addI zuY)
abbrev zMm:Ctrs:=csm zN8 (λ _ _=>[]) (λ _=>false)
def zpj:Ann:=⟨91,[(0,zK [0,2,4] [4]),(1,zK [0,2,4,7] [4,7,15]),(2,zK [0,2,4,7,17,18] [4,7,15]),(3,zK [0,2,4,7,17,18,19] [4,7,15]),(4,zK [0,2,4,7,8,17,18] [4,7,15]),(5,zK [0,2,4,7,8,17,18,21] [4,7,15]),(6,zK [0,2,4,7,8,17,18,21,22] [4,7,15]),(7,zK [0,2,4,7,8,9,17,18,21] [4,7,15]),(8,zK [0,2,4,7,8,17,18,21] [4,7,15]),(9,zK [0,2,4,7,8,17,18,21] [4,7,15]),(10,zK [0,2,4,7,17,18] [4,7,15]),(11,zK [0,2,4,7] [4,7,15]),(12,zK [0,2,4,7,10] [4,7,10,15]),(13,zK [0,2,4,7,10,39] [4,7,10,15]),(14,zK [0,2,4,7,10] [4,7,10,15]),(15,zK [0,2,4,7,10,43] [4,7,10,15]),(16,zK [0,2,4,7,10,11,43] [4,7,10,11,15]),(17,zK [0,2,4,7,10,11,12,43] [4,7,10,11,12,15]),(18,zK [0,2,4,7,10,11,12,43,67] [4,7,10,11,12,15]),(19,zK [0,2,4,7,10,43] [4,7,10,15]),(20,zK [0,2,4,7,89] [4,7,15]),(21,zK [0,2,4,7,10] [4,7,10,15]),(22,zK [6] [15])],
 [(3,zK [0,2,4,7,17,18] [4,7,15]),(6,zK [0,2,4,7,8,17,18,21] [4,7,15]),(13,zK [0,2,4,7,10] [4,7,10,15]),(16,zK [0,2,4,7,10,43] [4,7,10,15])],
 [(11,zK [0,2,4,7] [4,7,15])],
 [],[]⟩
abbrev zOB:=(Sl Tab)
abbrev zA8 (r:zOB):List PA:=[.one (.sl r.len 80 (λ i=>zar (r.get i)))]
@[irreducible] def z106:=ptF Tryd.prog zMm zpj Tryd.f106
@[irreducible] def x106:=exF Tryd.prog zMm zpj Tryd.f106
@[irreducible] def y106:=rnF Tryd.prog zMm zpj Tryd.f106
def zxj (w:web) (node:Int) (uses:Int) (zc5:Int) (zev:(Sl Tab)) (zf7:Nat->List PV):St:=⟨[(0,zP (.fp (zaE w) 0)),(2,zI uses),(4,zp 4 0),(7,zp 7 0),(17,zI ((w64 (uses+(1:Int))).toNat:Int)),(18,zI zc5)],[(4,.box 3 [zi node]),(7,.box 159 [.vec 15]),(15,.vec 116 80 640 zev.len zf7)],[]⟩
abbrev zxk (K:List PA->Prop) (w:web) (node:Int) (uses:Int) (X:St->Prop) (P:Int->(Sl Tab)->Bool) (S:Int->(Sl Tab)->(Sl Tab)):Prop:=∀ ⦃zc5:Int⦄ ⦃zev:(Sl Tab)⦄ ⦃zf7:Nat->List PV⦄,P zc5 zev=true->K (zA8 (S zc5 zev))->zf7=zg zar zev->X (zxj w node uses zc5 zev zf7)
def zxl (w:web) (node:Int) (uses:Int) (iv1:Int) (zdg:Int) (zdF:Int) (zbA:(Sl Tab)) (zcA:Nat->List PV):St:=⟨[(0,zP (.fp (zaE w) 0)),(2,zI uses),(4,zp 4 0),(7,zp 7 0),(8,zI iv1),(17,zI ((w64 (uses+(1:Int))).toNat:Int)),(18,zI zdg),(21,zI zdF)],[(4,.box 3 [zi node]),(7,.box 159 [.vec 15]),(15,.vec 116 80 640 zbA.len zcA)],[]⟩
abbrev zDM (K:List PA->Prop) (w:web) (node:Int) (uses:Int) (X:St->Prop) (P:Int->Int->Int->(Sl Tab)->Bool) (S:Int->Int->Int->(Sl Tab)->(Sl Tab)):Prop:=∀ ⦃iv1:Int⦄ ⦃zdg:Int⦄ ⦃zdF:Int⦄ ⦃zbA:(Sl Tab)⦄ ⦃zcA:Nat->List PV⦄,P iv1 zdg zdF zbA=true->K (zA8 (S iv1 zdg zdF zbA))->zcA=zg zar zbA->X (zxl w node uses iv1 zdg zdF zbA zcA)
def zxm (w:web) (node:Int) (uses:Int) (kv3:Int) (zbY:(Sl Tab)) (zcB:Nat->List PV):St:=⟨[(0,zP (.fp (zaE w) 0)),(2,zI uses),(4,zp 4 0),(7,zp 7 0),(10,zp 10 0)],[(4,.box 3 [zi node]),(7,.box 159 [.vec 15]),(10,.box 3 [zi kv3]),(15,.vec 116 80 640 zbY.len zcB)],[]⟩
abbrev zxn (K:List PA->Prop) (w:web) (node:Int) (uses:Int) (X:St->Prop) (P:Int->(Sl Tab)->Bool) (S:Int->(Sl Tab)->(Sl Tab)):Prop:=∀ ⦃kv3:Int⦄ ⦃zbY:(Sl Tab)⦄ ⦃zcB:Nat->List PV⦄,P kv3 zbY=true->K (zA8 (S kv3 zbY))->zcB=zg zar zbY->X (zxm w node uses kv3 zbY zcB)
def zqX (w:web) (node:Int) (uses:Int) (kv4:Int) (zaH:(Sl Tab)) (zci:Nat->List PV):St:=⟨[(0,zP (.fp (zaE w) 0)),(2,zI uses),(4,zp 4 0),(7,zp 7 0),(10,zp 10 0),(43,zP (.fn 110 [] [.fp [.fp (zaE w) 0] 0]))],[(4,.box 3 [zi node]),(7,.box 159 [.vec 15]),(10,.box 3 [zi kv4]),(15,.vec 116 80 640 zaH.len zci)],[]⟩
abbrev zDN (K:List PA->Prop) (w:web) (node:Int) (uses:Int) (X:St->Prop) (P:Int->(Sl Tab)->Bool) (S:Int->(Sl Tab)->(Sl Tab)):Prop:=∀ ⦃kv4:Int⦄ ⦃zaH:(Sl Tab)⦄ ⦃zci:Nat->List PV⦄,P kv4 zaH=true->K (zA8 (S kv4 zaH))->zci=zg zar zaH->X (zqX w node uses kv4 zaH zci)
section
variable {K:List PA->Prop}{w:web}{node:Int}{uses:Int}{zc5:Int}{zev:(Sl Tab)}{zf7:Nat->List PV}{X0:St->Prop}{P0:Int->(Sl Tab)->Bool}{S0:Int->(Sl Tab)->(Sl Tab)}{iv1:Int}{zdg:Int}{zdF:Int}{zbA:(Sl Tab)}{zcA:Nat->List PV}{X1:St->Prop}{P1:Int->Int->Int->(Sl Tab)->Bool}{S1:Int->Int->Int->(Sl Tab)->(Sl Tab)}{zc0:(Sl Tab)}{zla:Nat->List PV}{kv3:Int}{zbY:(Sl Tab)}{zcB:Nat->List PV}{X3:St->Prop}{P3:Int->(Sl Tab)->Bool}{S3:Int->(Sl Tab)->(Sl Tab)}{kv4:Int}{zaH:(Sl Tab)}{zci:Nat->List PV}
def zCm (S3:Int->(Sl Tab)->(Sl Tab)) (w:web) (node:Int) (uses:Int) (kv4:Int) (zaH:(Sl Tab)):(Sl Tab) :=
  (S3 (w64 (kv4+(1:Int))) zaH)
def zCn (P3:Int->(Sl Tab)->Bool) (w:web) (node:Int) (uses:Int) (kv4:Int) (zaH:(Sl Tab)):Bool :=
  (P3 (w64 (kv4+(1:Int))) zaH)
def ztp (S3:Int->(Sl Tab)->(Sl Tab)) (w:web) (node:Int) (uses:Int) (y4:step) (S4:Int->(Sl Tab)->(Sl Tab)) (kv4:Int) (zaH:(Sl Tab)):(Sl Tab) :=
  (cond (decide (y4.from_ >= node))
 (cond (decide (y4.to >= node))
 (cond (!(nvr (tg 80 (zaH.get ((w64 (kv4 - (1:Int))).toNat)) (0 + y4.to.toNat * 2 + 0)) (tg 80 (zaH.get ((w64 (kv4 - (1:Int))).toNat)) (0 + y4.to.toNat * 2 + 0 + 1))))
 (S4 kv4 (⟨zaH.len,(setT kv4.toNat (ts 80 (zaH.get kv4.toNat) (0+y4.from_.toNat * 2+0) [(zc4 (⟨(tL (zaH.get kv4.toNat) y4.from_),(tU (zaH.get kv4.toNat) y4.from_)⟩:far) (⟨1,λ _=>(⟨(w64 ((tg 80 (zaH.get ((w64 (kv4 - (1:Int))).toNat)) (0+y4.to.toNat * 2+0))+y4.length)),(0:Int)⟩:far)⟩:(Sl far))).length,(zc4 (⟨(tL (zaH.get kv4.toNat) y4.from_),(tU (zaH.get kv4.toNat) y4.from_)⟩:far) (⟨1,λ _=>(⟨(w64 ((tg 80 (zaH.get ((w64 (kv4 - (1:Int))).toNat)) (0+y4.to.toNat * 2+0))+y4.length)),(0:Int)⟩:far)⟩:(Sl far))).uses]) zaH.get)⟩:Sl Tab))
 (S4 kv4 zaH))
 (S4 kv4 zaH))
 (S4 kv4 zaH))
def ztq (P3:Int->(Sl Tab)->Bool) (w:web) (node:Int) (uses:Int) (y4:step) (P4:Int->(Sl Tab)->Bool) (kv4:Int) (zaH:(Sl Tab)):Bool :=
  (decide ((0<=(w64 (kv4 - (1:Int)))/\(w64 (kv4 - (1:Int))) < (zaH.len:Int))) &&
 (decide ((0<=y4.to/\y4.to < (40:Int))) &&
 (decide (((w64 (kv4 - (1:Int))).toNat < zaH.len)) &&
 (cond (decide (y4.from_ >= node))
 (cond (decide (y4.to >= node))
 (cond (!(nvr (tg 80 (zaH.get ((w64 (kv4 - (1:Int))).toNat)) (0 + y4.to.toNat * 2 + 0)) (tg 80 (zaH.get ((w64 (kv4 - (1:Int))).toNat)) (0 + y4.to.toNat * 2 + 0 + 1))))
 (decide ((0<=kv4/\kv4 < (zaH.len:Int))) &&
 (decide ((0<=y4.from_/\y4.from_ < (40:Int))) &&
 (decide ((kv4.toNat < zaH.len)) &&
 (decide ((zCk (⟨(tL (zaH.get kv4.toNat) y4.from_),(tU (zaH.get kv4.toNat) y4.from_)⟩:far) (⟨1,λ _=>(⟨(w64 ((tg 80 (zaH.get ((w64 (kv4 - (1:Int))).toNat)) (0+y4.to.toNat * 2+0))+y4.length)),(0:Int)⟩:far)⟩:(Sl far))=true)) &&
 (decide ((0<=kv4/\kv4 < (zaH.len:Int))) &&
 (decide ((0<=y4.from_/\y4.from_ < (40:Int))) &&
 (decide ((kv4.toNat < zaH.len)) &&
 (P4 kv4 (⟨zaH.len,(setT kv4.toNat (ts 80 (zaH.get kv4.toNat) (0+y4.from_.toNat * 2+0) [(zc4 (⟨(tL (zaH.get kv4.toNat) y4.from_),(tU (zaH.get kv4.toNat) y4.from_)⟩:far) (⟨1,λ _=>(⟨(w64 ((tg 80 (zaH.get ((w64 (kv4 - (1:Int))).toNat)) (0+y4.to.toNat * 2+0))+y4.length)),(0:Int)⟩:far)⟩:(Sl far))).length,(zc4 (⟨(tL (zaH.get kv4.toNat) y4.from_),(tU (zaH.get kv4.toNat) y4.from_)⟩:far) (⟨1,λ _=>(⟨(w64 ((tg 80 (zaH.get ((w64 (kv4 - (1:Int))).toNat)) (0+y4.to.toNat * 2+0))+y4.length)),(0:Int)⟩:far)⟩:(Sl far))).uses]) zaH.get)⟩:Sl Tab)))))))))
 (P4 kv4 zaH))
 (P4 kv4 zaH))
 (P4 kv4 zaH)))))
def ztr (S3:Int->(Sl Tab)->(Sl Tab)) (w:web) (node:Int) (uses:Int):List step->Int->(Sl Tab)->(Sl Tab):=lpR (zCm S3 w node uses) (ztp S3 w node uses)
def zts (P3:Int->(Sl Tab)->Bool) (w:web) (node:Int) (uses:Int):List step->Int->(Sl Tab)->Bool:=lpR (zCn P3 w node uses) (ztq P3 w node uses)
def ztt (S3:Int->(Sl Tab)->(Sl Tab)) (w:web) (node:Int) (uses:Int) (kv4:Int) (zaH:(Sl Tab)):(Sl Tab):=ztr S3 w node uses (zk7 w) kv4 zaH
def ztu (P3:Int->(Sl Tab)->Bool) (w:web) (node:Int) (uses:Int) (kv4:Int) (zaH:(Sl Tab)):Bool:=decide ((zvf w=true)) && zts P3 w node uses (zk7 w) kv4 zaH
theorem zCo (hX3:zxn K w node uses X3 P3 S3) (hs:ztu P3 w node uses kv4 zaH=true) (hk:K (zA8 (ztt S3 w node uses kv4 zaH))) (zfq:zci=zg zar zaH):z106 K [1,1,1,1,0,1,0,0,1,0,0,1,0] [X3] (zqX w node uses kv4 zaH zci) :=
  zaI hs λ hc hs=>zr (enc:=(λ y:step=>[.agg (zaB y)])) (ys:=zk7 w) (g:=(zqX w node uses kv4 zaH zci)) (x106 K [1,1,1,1,0,1,0,0,1,0,0,1,0] [X3]) (y106 K [1,1,1,1,0,1,0,0,1,0,0,1,0] [X3]) (by kernel_rfl) (And.intro (zE enc_40 4 w.Net.Ties.get) (And.intro (rfl:((false,1,false,[none]):MQ)=(false,1,false,[none])) hc)) λ X4 hE hR =>
  (show ∀ l : List step, zDN K w node uses (X4 (l.map (λ y : step => [.agg (zaB y)]))) (zts P3 w node uses l) (ztr S3 w node uses l) from zri (X := X4) (enc := (λ y : step => [.agg (zaB y)])) _ _ (ztq P3 w node uses) (ztp S3 w node uses) (λ Z P S => zDN K w node uses Z P S)
 (by intro kv4 zaH zci hs hk zfq;subst zfq;exact hE _ (zaW (by kernel_rfl) (hX3 hs hk rfl)))
 (by intro y4 rest P4 S4 hX4 kv4 zaH zci hs hk zfq;subst zfq;exact hR _ rest _ (zaW (by kernel_rfl) (zaI hs λ hc hs=>And.intro hc (zaI hs λ hc hs=>And.intro hc (zaI hs λ hc hs=>And.intro hc (zc hs hk (λ hs hk=>(zc hs hk (λ hs hk=>(zc hs hk (λ hs hk=>(zaI hs λ hc hs=>And.intro hc (zaI hs λ hc hs=>And.intro hc (zaI hs λ hc hs=>And.intro hc (zaI hs λ hc hs=>And.intro (And.intro (zwQ:IsE zcg 2 2 (λ _=>(zcg (⟨(w64 ((tg 80 (zaH.get ((w64 (kv4 - (1:Int))).toNat)) (0+y4.to.toNat * 2+0))+y4.length)),(0:Int)⟩:far)))) hc) (zaI hs λ hc hs=>And.intro hc (zaI hs λ hc hs=>And.intro hc (zaI hs λ hc hs=>And.intro hc (hX4 hs hk (zfU (enc:=zar) (i:=kv4.toNat) (k:=0) (f:=zaH.get) (new:=(zar (ts 80 (zaH.get kv4.toNat) (0+y4.from_.toNat * 2+0) [(zc4 (⟨(tL (zaH.get kv4.toNat) y4.from_),(tU (zaH.get kv4.toNat) y4.from_)⟩:far) (⟨1,λ _=>(⟨(w64 ((tg 80 (zaH.get ((w64 (kv4 - (1:Int))).toNat)) (0+y4.to.toNat * 2+0))+y4.length)),(0:Int)⟩:far)⟩:(Sl far))).length,(zc4 (⟨(tL (zaH.get kv4.toNat) y4.from_),(tU (zaH.get kv4.toNat) y4.from_)⟩:far) (⟨1,λ _=>(⟨(w64 ((tg 80 (zaH.get ((w64 (kv4 - (1:Int))).toNat)) (0+y4.to.toNat * 2+0))+y4.length)),(0:Int)⟩:far)⟩:(Sl far))).uses]))) (v:=(ts 80 (zaH.get kv4.toNat) (0+y4.from_.toNat * 2+0) [(zc4 (⟨(tL (zaH.get kv4.toNat) y4.from_),(tU (zaH.get kv4.toNat) y4.from_)⟩:far) (⟨1,λ _=>(⟨(w64 ((tg 80 (zaH.get ((w64 (kv4 - (1:Int))).toNat)) (0+y4.to.toNat * 2+0))+y4.length)),(0:Int)⟩:far)⟩:(Sl far))).length,(zc4 (⟨(tL (zaH.get kv4.toNat) y4.from_),(tU (zaH.get kv4.toNat) y4.from_)⟩:far) (⟨1,λ _=>(⟨(w64 ((tg 80 (zaH.get ((w64 (kv4 - (1:Int))).toNat)) (0+y4.to.toNat * 2+0))+y4.length)),(0:Int)⟩:far)⟩:(Sl far))).uses])) rfl znc)))))))))) (λ hs hk=>(hX4 hs hk rfl)))) (λ hs hk=>(hX4 hs hk rfl)))) (λ hs hk=>(hX4 hs hk rfl))))))))) _ hs hk zfq
def ztv (w:web) (node:Int) (uses:Int) (S3:Int->(Sl Tab)->(Sl Tab)) (kv3:Int) (zbY:(Sl Tab)):(Sl Tab) :=
  (cond (decide (kv3 <= uses))
 (ztt S3 w node uses kv3 zbY)
 zbY)
def ztw (w:web) (node:Int) (uses:Int) (P3:Int->(Sl Tab)->Bool) (kv3:Int) (zbY:(Sl Tab)):Bool :=
  (cond (decide (kv3 <= uses))
 (ztu P3 w node uses kv3 zbY)
 true)
def ztx (w:web) (node:Int) (uses:Int):Nat->Int->(Sl Tab)->(Sl Tab):=lpO (λ _ _=>default) (ztv w node uses)
def zty (w:web) (node:Int) (uses:Int):Nat->Int->(Sl Tab)->Bool:=lpO (λ _ _=>false) (ztw w node uses)
def ztz (w:web) (node:Int) (uses:Int) (kv3:Int) (zbY:(Sl Tab)):(Sl Tab):=ztx w node uses Fuel kv3 zbY
def ztA (w:web) (node:Int) (uses:Int) (kv3:Int) (zbY:(Sl Tab)):Bool:=zty w node uses Fuel kv3 zbY
theorem zCp (hs:ztA w node uses kv3 zbY=true) (hk:K (zA8 (ztz w node uses kv3 zbY))) (zho:zcB=zg zar zbY):z106 K [1,1,1,1,0,1,0] [] (zxm w node uses kv3 zbY zcB) :=
  zl (λ X=>z106 K [1,1,1,1,0,1,0,0] [X]) (by kernel_rfl) λ X3 hX =>
  (show ∀ k, zxn K w node uses X3 (zty w node uses k) (ztx w node uses k) from zeH _ _ (ztw w node uses) (ztv w node uses) (zxn K w node uses X3)
 (by intro _ _ _ hs;exact absurd hs dqk)
 (by intro P3 S3 hX3 kv3 zbY zcB hs hk zho;subst zho;exact hX _ (zaW (by kernel_rfl) (zc hs hk (λ hs hk=>(And.intro (And.intro (zE enc_40 4 w.Net.Ties.get) (rfl:((false,1,false,[none]):MQ)=(false,1,false,[none]))) (zCo hX3 hs hk rfl))) (λ hs hk=>hk))))) _ hs hk zho
def ztB (w:web) (node:Int) (uses:Int) (zc0:(Sl Tab)):(Sl Tab) :=
  (ztz w node uses (1:Int) (⟨zc0.len,(setT 0 (ts 80 (zc0.get 0) (0+node.toNat * 2+0) [(0:Int),(0:Int)]) zc0.get)⟩:Sl Tab))
def ztC (w:web) (node:Int) (uses:Int) (zc0:(Sl Tab)):Bool :=
  (decide ((0<=(0:Int)/\(0:Int) < (zc0.len:Int))) &&
 (decide ((0<=node/\node < (40:Int))) &&
 (decide ((0 < zc0.len)) &&
 (ztA w node uses (1:Int) (⟨zc0.len,(setT 0 (ts 80 (zc0.get 0) (0+node.toNat * 2+0) [(0:Int),(0:Int)]) zc0.get)⟩:Sl Tab)))))
theorem zCq (hs:ztC w node uses zc0=true) (hk:K (zA8 (ztB w node uses zc0))) (zqY:zla=zg zar zc0):z106 K [1,1,1] [] ⟨[(0,zP (.fp (zaE w) 0)),(2,zI uses),(4,zp 4 0),(7,zp 7 0)],[(4,.box 3 [zi node]),(7,.box 159 [.vec 15]),(15,.vec 116 80 640 zc0.len zla)],[]⟩:=by subst zqY;exact zaW (by kernel_rfl) (zaI hs λ hc hs=>And.intro hc (zaI hs λ hc hs=>And.intro hc (zaI hs λ hc hs=>And.intro hc (zCp hs hk (zfU (enc:=zar) (i:=0) (k:=0) (f:=zc0.get) (new:=(zar (ts 80 (zc0.get 0) (0+node.toNat * 2+0) [(0:Int),(0:Int)]))) (v:=(ts 80 (zc0.get 0) (0+node.toNat * 2+0) [(0:Int),(0:Int)])) rfl znc)))))
def ztD (S0:Int->(Sl Tab)->(Sl Tab)) (w:web) (node:Int) (uses:Int) (S1:Int->Int->Int->(Sl Tab)->(Sl Tab)) (iv1:Int) (zdg:Int) (zdF:Int) (zbA:(Sl Tab)):(Sl Tab) :=
  (cond (decide (zdF < (40:Int)))
 (S1 iv1 zdg (w64 (zdF+(1:Int))) (⟨zbA.len,(setT iv1.toNat (ts 80 (zbA.get iv1.toNat) (0+zdF.toNat * 2+0) [(1000000000000:Int),(0:Int)]) zbA.get)⟩:Sl Tab))
 (S0 (w64 (zdg+(1:Int))) zbA))
def ztE (P0:Int->(Sl Tab)->Bool) (w:web) (node:Int) (uses:Int) (P1:Int->Int->Int->(Sl Tab)->Bool) (iv1:Int) (zdg:Int) (zdF:Int) (zbA:(Sl Tab)):Bool :=
  (cond (decide (zdF < (40:Int)))
 (decide ((0<=iv1/\iv1 < (zbA.len:Int))) &&
 (decide ((0<=zdF/\zdF < (40:Int))) &&
 (decide ((iv1.toNat < zbA.len)) &&
 (P1 iv1 zdg (w64 (zdF+(1:Int))) (⟨zbA.len,(setT iv1.toNat (ts 80 (zbA.get iv1.toNat) (0+zdF.toNat * 2+0) [(1000000000000:Int),(0:Int)]) zbA.get)⟩:Sl Tab)))))
 (P0 (w64 (zdg+(1:Int))) zbA))
def ztF (S0:Int->(Sl Tab)->(Sl Tab)) (w:web) (node:Int) (uses:Int):Nat->Int->Int->Int->(Sl Tab)->(Sl Tab):=lpO (λ _ _ _ _=>default) (ztD S0 w node uses)
def ztG (P0:Int->(Sl Tab)->Bool) (w:web) (node:Int) (uses:Int):Nat->Int->Int->Int->(Sl Tab)->Bool:=lpO (λ _ _ _ _=>false) (ztE P0 w node uses)
def ztH (S0:Int->(Sl Tab)->(Sl Tab)) (w:web) (node:Int) (uses:Int) (iv1:Int) (zdg:Int) (zdF:Int) (zbA:(Sl Tab)):(Sl Tab):=ztF S0 w node uses Fuel iv1 zdg zdF zbA
def ztI (P0:Int->(Sl Tab)->Bool) (w:web) (node:Int) (uses:Int) (iv1:Int) (zdg:Int) (zdF:Int) (zbA:(Sl Tab)):Bool:=ztG P0 w node uses Fuel iv1 zdg zdF zbA
theorem zCr (hX0:zxk K w node uses X0 P0 S0) (hs:ztI P0 w node uses iv1 zdg zdF zbA=true) (hk:K (zA8 (ztH S0 w node uses iv1 zdg zdF zbA))) (zhp:zcA=zg zar zbA):z106 K [1,1,0,1,0,0,1,1,0,0,1,1,0] [X0] (zxl w node uses iv1 zdg zdF zbA zcA) :=
  zl (λ X=>z106 K [1,1,0,1,0,0,1,1,0,0,1,1,0,0] [X0,X]) (by kernel_rfl) λ X1 hX =>
  (show ∀ k, zDM K w node uses X1 (ztG P0 w node uses k) (ztF S0 w node uses k) from zeH _ _ (ztE P0 w node uses) (ztD S0 w node uses) (zDM K w node uses X1)
 (by intro _ _ _ _ _ hs;exact absurd hs dqk)
 (by intro P1 S1 hX1 iv1 zdg zdF zbA zcA hs hk zhp;subst zhp;exact hX _ (zaW (by kernel_rfl) (zc hs hk (λ hs hk=>(zaI hs λ hc hs=>And.intro hc (zaI hs λ hc hs=>And.intro hc (zaI hs λ hc hs=>And.intro hc (hX1 hs hk (zfU (enc:=zar) (i:=iv1.toNat) (k:=0) (f:=zbA.get) (new:=(zar (ts 80 (zbA.get iv1.toNat) (0+zdF.toNat * 2+0) [(1000000000000:Int),(0:Int)]))) (v:=(ts 80 (zbA.get iv1.toNat) (0+zdF.toNat * 2+0) [(1000000000000:Int),(0:Int)])) rfl znc)))))) (λ hs hk=>(hX0 hs hk rfl)))))) _ hs hk zhp
def ztJ (w:web) (node:Int) (uses:Int) (S0:Int->(Sl Tab)->(Sl Tab)) (zc5:Int) (zev:(Sl Tab)):(Sl Tab) :=
  (cond (decide (zc5 < ((w64 (uses + (1:Int))).toNat : Int)))
 (ztH S0 w node uses zc5 zc5 (0:Int) zev)
 (ztB w node uses zev))
def ztK (w:web) (node:Int) (uses:Int) (P0:Int->(Sl Tab)->Bool) (zc5:Int) (zev:(Sl Tab)):Bool :=
  (cond (decide (zc5 < ((w64 (uses + (1:Int))).toNat : Int)))
 (ztI P0 w node uses zc5 zc5 (0:Int) zev)
 (ztC w node uses zev))
def ztL (w:web) (node:Int) (uses:Int):Nat->Int->(Sl Tab)->(Sl Tab):=lpO (λ _ _=>default) (ztJ w node uses)
def ztM (w:web) (node:Int) (uses:Int):Nat->Int->(Sl Tab)->Bool:=lpO (λ _ _=>false) (ztK w node uses)
def ztN (w:web) (node:Int) (uses:Int) (zc5:Int) (zev:(Sl Tab)):(Sl Tab):=ztL w node uses Fuel zc5 zev
def ztO (w:web) (node:Int) (uses:Int) (zc5:Int) (zev:(Sl Tab)):Bool:=ztM w node uses Fuel zc5 zev
theorem zCs (hs:ztO w node uses zc5 zev=true) (hk:K (zA8 (ztN w node uses zc5 zev))) (zqZ:zf7=zg zar zev):z106 K [1,1,0,1,0] [] (zxj w node uses zc5 zev zf7) :=
  zl (λ X=>z106 K [1,1,0,1,0,0] [X]) (by kernel_rfl) λ X0 hX =>
  (show ∀ k, zxk K w node uses X0 (ztM w node uses k) (ztL w node uses k) from zeH _ _ (ztK w node uses) (ztJ w node uses) (zxk K w node uses X0)
 (by intro _ _ _ hs;exact absurd hs dqk)
 (by intro P0 S0 hX0 zc5 zev zf7 hs hk zqZ;subst zqZ;exact hX _ (zaW (by kernel_rfl) (zc hs hk (λ hs hk=>(zCr hX0 hs hk rfl)) (λ hs hk=>(zCq hs hk rfl)))))) _ hs hk zqZ
def zF4 (w:web) (node:Int) (uses:Int):(Sl Tab) :=
  (ztN w node uses (0:Int) (⟨(w64 (uses+(1:Int))).toNat,(λ _=>(λ _=>(0:Int)))⟩:Sl Tab))
def zMY (w:web) (node:Int) (uses:Int):Bool :=
  (decide ((0<=(w64 (uses+(1:Int)))/\(w64 (uses+(1:Int)))=(w64 (uses+(1:Int)))/\(w64 (uses+(1:Int)))<=1000000)) &&
 (ztO w node uses (0:Int) (⟨(w64 (uses+(1:Int))).toNat,(λ _=>(λ _=>(0:Int)))⟩:Sl Tab)))
end
theorem zOC (w:web) (node:Int) (uses:Int) (K:List PA->Prop) (hs:zMY w node uses=true) (hk:K (zA8 (zF4 w node uses))):vcFun Tryd.prog zMm zpj 106 [.one (.fp (zaE w) 0),.one (.int .i64 node),.one (.int .i64 uses)] K :=
  zaW (by kernel_rfl) (zaI hs λ hc hs=>And.intro hc (zCs hs hk rfl))
def zxo : List PA → COut
  | [.one (.fp [.int .i64 zat,.sl zan zaK zao,.fm zbz zaL zaM] 0),.one (.int .i64 a1),.one (.int .i64 a2)]=>.det (IsE enc_40 4 zaK zao/\zbz=(false,1,false,[none])/\zMY (⟨(⟨zat,(⟨zan,zai zao⟩:(Sl Tie))⟩:Net),(⟨zaL,zaM⟩:Mp)⟩:web) a1 a2=true) [.one (.sl ((zF4 (⟨(⟨zat,(⟨zan,zai zao⟩:(Sl Tie))⟩:Net),(⟨zaL,zaM⟩:Mp)⟩:web) a1 a2).len) 80 (λ i=>zar ((zF4 (⟨(⟨zat,(⟨zan,zai zao⟩:(Sl Tie))⟩:Net),(⟨zaL,zaM⟩:Mp)⟩:web) a1 a2).get i)))]
  | _=>.no
theorem zF5:zav Tryd.prog 106:=⟨_,rfl,rfl,by kernel_rfl⟩
theorem zMZ:Ok Tryd.prog 106 zxo:=zbx zKj zF5 λ args K h=>by
  unfold zxo at h
  split at h
  · rename_i zat zan zaK zao zbz zaL zaM a1 a2
    obtain⟨⟨⟨rfl,zaA,rfl⟩,rfl,hs⟩,hk⟩:=h
    try rw[zaj zaA] at hs
    try rw[zaj zaA] at hk
    exact⟨(λ _ _=>[]),(λ _=>false),zpj,zOC (⟨(⟨zat,(⟨zan,zaA⟩:(Sl Tie))⟩:Net),(⟨zaL,zaM⟩:Mp)⟩:web) a1 a2 K hs hk⟩
  · exact h.elim
abbrev zN9:Tabs:=Tabs.nil
theorem zKk:TabsOk Tryd.prog zN9:=TabsOk.nil
abbrev zOa:Ctrs:=csm zN9 (λ _ _=>[]) (λ _=>false)
def zxp:Ann:=⟨18,[(0,zK [0] []),(1,zK [0,3] []),(2,zK [3,6,7,8] []),(3,zK [3,6,7,8,9] []),(4,zK [3,5,6,7,8] []),(5,zK [3,5,6,7,8,14] []),(6,zK [2] []),(7,zK [3,6,7,8] []),(8,zK [2] [])],
 [(3,zK [3,6,7,8] [])],
 [],
 [],[]⟩
abbrev zOD:=Int
abbrev zM0 (r:zOD):List PA:=[.one (.int .i64 r)]
@[irreducible] def z100:=ptF Tryd.prog zOa zxp Tryd.f100
def zxq (vals:(Sl Int)) (zdX:Int):St:=⟨[(3,zI (0:Int)),(6,zS zad 1 vals),(7,zI (vals.len:Int)),(8,zI zdX)],[],[]⟩
abbrev zDO (K:List PA->Prop) (vals:(Sl Int)) (X:St->Prop) (P:Int->Bool) (S:Int->Int):Prop:=∀ ⦃zdX:Int⦄,P zdX=true->K (zM0 (S zdX))->X (zxq vals zdX)
section
variable {K:List PA->Prop}{vals:(Sl Int)}{zdX:Int}{X0:St->Prop}{P0:Int->Bool}{S0:Int->Int}
def ztP (vals:(Sl Int)) (S0:Int->Int) (zdX:Int):Int :=
  (cond (decide (zdX < (vals.len : Int)))
 (cond ((vals.get zdX.toNat) != (0:Int))
 (vals.get zdX.toNat)
 (S0 (w64 (zdX+(1:Int)))))
 (0:Int))
def ztQ (vals:(Sl Int)) (P0:Int->Bool) (zdX:Int):Bool :=
  (cond (decide (zdX < (vals.len : Int)))
 (decide ((0<=zdX/\zdX < (vals.len:Int))) &&
 (cond ((vals.get zdX.toNat) != (0:Int))
 true
 (P0 (w64 (zdX+(1:Int))))))
 true)
def ztR (vals:(Sl Int)):Nat->Int->Int:=lpO (λ _=>default) (ztP vals)
def ztS (vals:(Sl Int)):Nat->Int->Bool:=lpO (λ _=>false) (ztQ vals)
def ztT (vals:(Sl Int)) (zdX:Int):Int:=ztR vals Fuel zdX
def ztU (vals:(Sl Int)) (zdX:Int):Bool:=ztS vals Fuel zdX
theorem zCt (hs:ztU vals zdX=true) (hk:K (zM0 (ztT vals zdX))):z100 K [1,1,0,1,0] [] (zxq vals zdX) :=
  zl (λ X=>z100 K [1,1,0,1,0,0] [X]) (by kernel_rfl) λ X0 hX =>
  (show ∀ k, zDO K vals X0 (ztS vals k) (ztR vals k) from zeH _ _ (ztQ vals) (ztP vals) (zDO K vals X0)
 (by intro _ hs;exact absurd hs dqk)
 (by intro P0 S0 hX0 zdX hs hk;exact hX _ (zaW (by kernel_rfl) (zc hs hk (λ hs hk=>(zaI hs λ hc hs=>And.intro hc (zc hs hk (λ hs hk=>hk) (λ hs hk=>(hX0 hs hk))))) (λ hs hk=>hk))))) _ hs hk
def zM1 (vals:(Sl Int)):Int :=
  (ztT vals (0:Int))
def zM2 (vals:(Sl Int)):Bool :=
  (ztU vals (0:Int))
end
theorem zOE (vals:(Sl Int)) (K:List PA->Prop) (hs:zM2 vals=true) (hk:K (zM0 (zM1 vals))):vcFun Tryd.prog zOa zxp 100 [.one (.sl vals.len 1 (λ i=>zad (vals.get i)))] K :=
  zaW (by kernel_rfl) (zCt hs hk)
def zxr : List PA → COut
  | [.one (.sl zf0 zmh zf1)]=>.det (IsE zad 1 zmh zf1/\zM2 (⟨zf0,zaq zf1⟩:(Sl Int))=true) [.one (.int .i64 (zM1 (⟨zf0,zaq zf1⟩:(Sl Int))))]
  | _=>.no
theorem zF6:zav Tryd.prog 100:=⟨_,rfl,rfl,by kernel_rfl⟩
theorem zM3:Ok Tryd.prog 100 zxr:=zbx zKk zF6 λ args K h=>by
  unfold zxr at h
  split at h
  · rename_i zf0 zmh zf1
    obtain⟨⟨⟨rfl,zix,rfl⟩,hs⟩,hk⟩:=h
    try rw[zbR zix] at hs
    try rw[zbR zix] at hk
    exact⟨(λ _ _=>[]),(λ _=>false),zxp,zOE (⟨zf0,zix⟩:(Sl Int)) K hs hk⟩
  · exact h.elim
abbrev zOb:Tabs:=Tabs.nil
theorem zKl:TabsOk Tryd.prog zOb:=TabsOk.nil
abbrev zOF:Ctrs:=csm zOb (λ _ _=>[]) (λ _=>false)
def zDP:Ann:=⟨6,[(0,zK [0] []),(1,zK [2] [])],
 [],
 [],
 [],[]⟩
abbrev zOG:=Bool
abbrev zOH (r:zOG):List PA:=[.one (.bool r)]
section
variable {K:List PA->Prop}{x:Int}
def zKm (x:Int):Bool :=
  (x != x)
end
theorem zOI (x:Int) (K:List PA->Prop) (hk:K (zOH (zKm x))):vcFun Tryd.prog zOF zDP 114 [.one (.int .i64 x)] K :=
  zaW (by kernel_rfl) hk
def zxs : List PA → COut
  | [.one (.int .i64 a0)]=>.tot [.one (.bool (zKm a0))]
  | _=>.no
theorem zF7:zav Tryd.prog 114:=⟨_,rfl,rfl,by kernel_rfl⟩
theorem zM4:Ok Tryd.prog 114 zxs:=zbx zKl zF7 λ args K h=>by
  unfold zxs at h
  split at h
  · rename_i a0
    have hk:=h
    exact⟨(λ _ _=>[]),(λ _=>false),zDP,zOI a0 K hk⟩
  · exact h.elim
abbrev zOc:Tabs:=(Tabs.nil.addF 114 zxs)
theorem zKn:TabsOk Tryd.prog zOc:=(TabsOk.nil.addF zM4)
abbrev zOJ:Ctrs:=csm zOc (λ _ _=>[]) (λ _=>false)
def zDQ:Ann:=⟨20,[(0,zK [0,1] []),(1,zK [0,1,5] []),(2,zK [0,1,5,6] []),(3,zK [0,1,6,11] []),(4,zK [12] []),(5,zK [4] []),(6,zK [4] []),(7,zK [0,1,13] []),(8,zK [4] []),(9,zK [0,1,16] []),(10,zK [4] []),(11,zK [19] []),(12,zK [4] []),(13,zK [4] [])],
 [],
 [],
 [],[]⟩
abbrev zOK:=Int
abbrev zOL (r:zOK):List PA:=[.one (.int .i64 r)]
section
variable {K:List PA->Prop}{x:Int}{y_a1:Int}
def zA9 (x:Int) (y_a1:Int):Int :=
  (cond (zKm x)
 (cond (zKm y_a1)
 (0:Int)
 (-1:Int))
 (cond (zKm y_a1)
 (1:Int)
 (cond (decide (x < y_a1))
 (-1:Int)
 (cond (decide (x > y_a1))
 (1:Int)
 (0:Int)))))
end
theorem zOM (x:Int) (y_a1:Int) (K:List PA->Prop) (hk:K (zOL (zA9 x y_a1))):vcFun Tryd.prog zOJ zDQ 101 [.one (.int .i64 x),.one (.int .i64 y_a1)] K :=
  zaW (by kernel_rfl) (zt hk (λ hk=>(zt hk (λ hk=>hk) (λ hk=>hk))) (λ hk=>(zt hk (λ hk=>hk) (λ hk=>(zt hk (λ hk=>hk) (λ hk=>(zt hk (λ hk=>hk) (λ hk=>hk))))))))
def ztV : List PA → COut
  | [.one (.int .i64 a0),.one (.int .i64 a1)]=>.tot [.one (.int .i64 (zA9 a0 a1))]
  | _=>.no
theorem zF8:zav Tryd.prog 101:=⟨_,rfl,rfl,by kernel_rfl⟩
theorem zKo:Ok Tryd.prog 101 ztV:=zbx zKn zF8 λ args K h=>by
  unfold ztV at h
  split at h
  · rename_i a0 a1
    have hk:=h
    exact⟨(λ _ _=>[]),(λ _=>false),zDQ,zOM a0 a1 K hk⟩
  · exact h.elim
abbrev zOd:Tabs:=Tabs.nil
theorem zKp:TabsOk Tryd.prog zOd:=TabsOk.nil
abbrev zON:Ctrs:=csm zOd (λ _ _=>[]) (λ _=>false)
def zDR:Ann:=⟨6,[(0,zK [1] [1]),(1,zK [5] []),(2,zK [2] []),(3,zK [2] [])],
 [],
 [],
 [],[]⟩
abbrev zOO:=Int
abbrev e118 (r:zOO):List PA:=[.one (.int .i64 r)]
section
variable {K:List PA->Prop}{s:step}
def zDS (s:step):Int :=
  (cond s.Use.Back
 (1:Int)
 (0:Int))
end
theorem zOP (s:step) (K:List PA->Prop) (hk:K (e118 (zDS s))):vcFun Tryd.prog zON zDR 118 [.agg (zaB s)] K :=
  zaW (by kernel_rfl) (zt hk (λ hk=>hk) (λ hk=>hk))
def zxt : List PA → COut
  | [.agg [.int .i64 zc2,.bool zcC,.int .i64 zeL,.int .i64 zpk,.int .i64 zck]]=>.tot [.one (.int .i64 (zDS (⟨(⟨zc2,zcC⟩:Use),zeL,zpk,zck⟩:step)))]
  | _=>.no
theorem zF9:zav Tryd.prog 118:=⟨_,rfl,rfl,by kernel_rfl⟩
theorem zM5:Ok Tryd.prog 118 zxt:=zbx zKp zF9 λ args K h=>by
  unfold zxt at h
  split at h
  · rename_i zc2 zcC zeL zpk zck
    have hk:=h
    exact⟨(λ _ _=>[]),(λ _=>false),zDR,zOP (⟨(⟨zc2,zcC⟩:Use),zeL,zpk,zck⟩:step) K hk⟩
  · exact h.elim
abbrev zOe:Tabs:=(((Tabs.nil.addF 100 zxr).addF 101 ztV).addF 118 zxt)
theorem zKq:TabsOk Tryd.prog zOe:=(((TabsOk.nil.addF zM3).addF zKo).addF zM5)
abbrev zOQ:Ctrs:=csm zOe (λ _ _=>[]) (λ _=>false)
def zDT:Ann:=⟨22,[(0,zK [2,3] [2,3]),(1,zK [2,3,5] [2,3]),(2,zK [4] [])],
 [],
 [],
 [],[]⟩
abbrev zOR:=Int
abbrev e108 (r:zOR):List PA:=[.one (.int .i64 r)]
section
variable {K:List PA->Prop}{a:step}{b:step}
def zMn (a:step) (b:step):Int :=
  (zM1 (⟨2,zaq (za9 [(zad (zA9 a.Use.Tie b.Use.Tie)),(zad (zA9 (zDS a) (zDS b)))])⟩:(Sl Int)))
def zM6 (a:step) (b:step):Bool :=
  (decide ((zM2 (⟨2,zaq (za9 [(zad (zA9 a.Use.Tie b.Use.Tie)),(zad (zA9 (zDS a) (zDS b)))])⟩:(Sl Int))=true)) &&
 true)
end
theorem zOS (a:step) (b:step) (K:List PA->Prop) (hs:zM6 a b=true) (hk:K (e108 (zMn a b))):vcFun Tryd.prog zOQ zDT 108 [.agg (zaB a),.agg (zaB b)] K :=
  zaW (by kernel_rfl) (zaI hs λ hc hs=>And.intro (And.intro ((zdv []):IsE zad 1 1 (za9 [(zad (zA9 a.Use.Tie b.Use.Tie)),(zad (zA9 (zDS a) (zDS b)))])) hc) hk)
def zxu : List PA → COut
  | [.agg [.int .i64 zc2,.bool zcC,.int .i64 zeL,.int .i64 zpk,.int .i64 zck],.agg [.int .i64 zgW,.bool zfr,.int .i64 zj0,.int .i64 zCu,.int .i64 zbU]]=>.det (zM6 (⟨(⟨zc2,zcC⟩:Use),zeL,zpk,zck⟩:step) (⟨(⟨zgW,zfr⟩:Use),zj0,zCu,zbU⟩:step)=true) [.one (.int .i64 (zMn (⟨(⟨zc2,zcC⟩:Use),zeL,zpk,zck⟩:step) (⟨(⟨zgW,zfr⟩:Use),zj0,zCu,zbU⟩:step)))]
  | _=>.no
theorem zGa:zav Tryd.prog 108:=⟨_,rfl,rfl,by kernel_rfl⟩
theorem zM7:Ok Tryd.prog 108 zxu:=zbx zKq zGa λ args K h=>by
  unfold zxu at h
  split at h
  · rename_i zc2 zcC zeL zpk zck zgW zfr zj0 zCu zbU
    obtain⟨hs,hk⟩:=h
    exact⟨(λ _ _=>[]),(λ _=>false),zDT,zOS (⟨(⟨zc2,zcC⟩:Use),zeL,zpk,zck⟩:step) (⟨(⟨zgW,zfr⟩:Use),zj0,zCu,zbU⟩:step) K hs hk⟩
  · exact h.elim
abbrev zOf:Tabs:=(Tabs.nil.addF 108 zxu)
theorem zKr:TabsOk Tryd.prog zOf:=(TabsOk.nil.addF zM7)
abbrev zOg:Ctrs:=csm zOf (λ _ _=>[]) (λ _=>false)
def zxv:Ann:=⟨39,[(0,zK [0,1,2] []),(1,zK [0,1,2,11,12,13] []),(2,zK [0,1,2,11,12,13,14] []),(3,zK [0,1,2,7,8,11,12,13] [8]),(4,zK [0,1,2,7,8,11,12,13,21] [8]),(5,zK [6] []),(6,zK [0,1,2,8,9,11,12,13] [8,9]),(7,zK [0,1,2,10,11,12,13] []),(8,zK [0,1,2,10,11,12,13,31] []),(9,zK [6] []),(10,zK [0,1,2,11,12,13] []),(11,zK [38] []),(12,zK [6] []),(13,zK [6] [])],
 [(2,zK [0,1,2,11,12,13] [])],
 [(6,zK [0,1,2,7,8,11,12,13] [8]),(8,zK [0,1,2,10,11,12,13] [])],
 [],[]⟩
abbrev zOT:=Int
abbrev zKs (r:zOT):List PA:=[.one (.int .i64 r)]
@[irreducible] def z107:=ptF Tryd.prog zOg zxv Tryd.f107
def zxw (zeT:(Sl step)) (zel:(Sl step)) (zaV:(Sl step)) (zb7:Int) (zbV:Int) (zdG:Nat->List PV) (zdH:Nat->List PV) (zf8:Nat->List PV):St:=⟨[(0,zP (.sl zeT.len 5 zdG)),(1,zP (.sl zel.len 5 zdH)),(2,zP (.fn 108 [] [])),(11,zP (.sl zaV.len 5 zf8)),(12,zI zb7),(13,zI zbV)],[],[]⟩
abbrev ztW (K:List PA->Prop) (X:St->Prop) (P:(Sl step)->(Sl step)->(Sl step)->Int->Int->Bool) (S:(Sl step)->(Sl step)->(Sl step)->Int->Int->Int):Prop:=∀ ⦃zeT:(Sl step)⦄ ⦃zel:(Sl step)⦄ ⦃zaV:(Sl step)⦄ ⦃zb7:Int⦄ ⦃zbV:Int⦄ ⦃zdG:Nat->List PV⦄ ⦃zdH:Nat->List PV⦄ ⦃zf8:Nat->List PV⦄,P zeT zel zaV zb7 zbV=true->K (zKs (S zeT zel zaV zb7 zbV))->zdG=zg zaB zeT->zdH=zg zaB zel->zf8=zg zaB zaV->X (zxw zeT zel zaV zb7 zbV zdG zdH zf8)
section
variable {K:List PA->Prop}{s1_a0:(Sl step)}{s2_a1:(Sl step)}{zeT:(Sl step)}{zel:(Sl step)}{zaV:(Sl step)}{zb7:Int}{zbV:Int}{zdG:Nat->List PV}{zdH:Nat->List PV}{zf8:Nat->List PV}{X0:St->Prop}{P0:(Sl step)->(Sl step)->(Sl step)->Int->Int->Bool}{S0:(Sl step)->(Sl step)->(Sl step)->Int->Int->Int}{zpl:(Sl step)}{zj1:(Sl step)}{iv1:Int}{zcM:(Sl step)}{zb8:Int}{zq0:Int}{zjA:Int}{zjB:Bool}{zjC:Int}{zjD:Int}{zjE:Int}{zpm:Nat->List PV}{zpn:Nat->List PV}{zxx:Nat->List PV}{zpo:(Sl step)}{zpp:(Sl step)}{cv2:Int}{zq1:Int}{zpq:Nat->List PV}{zpr:Nat->List PV}
def ztX (S0:(Sl step)->(Sl step)->(Sl step)->Int->Int->Int) (zcM:(Sl step)) (zb8:Int) (zpo:(Sl step)) (zpp:(Sl step)) (cv2:Int) (zq1:Int):Int :=
  (cond (cv2 != (0:Int))
 cv2
 (S0 zpo zpp zcM zb8 (w64 (zq1+(1:Int)))))
def ztY (P0:(Sl step)->(Sl step)->(Sl step)->Int->Int->Bool) (zcM:(Sl step)) (zb8:Int) (zpo:(Sl step)) (zpp:(Sl step)) (cv2:Int) (zq1:Int):Bool :=
  (cond (cv2 != (0:Int))
 true
 (P0 zpo zpp zcM zb8 (w64 (zq1+(1:Int)))))
theorem zCv (hX0:ztW K X0 P0 S0) (hs:ztY P0 zcM zb8 zpo zpp cv2 zq1=true) (hk:K (zKs (ztX S0 zcM zb8 zpo zpp cv2 zq1))) (zxy:zpq=zg zaB zpo) (zxz:zpr=zg zaB zpp):z107 K [1,0,1,0,0,1,1,0,0,1,1,1,1] [X0] ⟨[(0,zP (.sl zpo.len 5 zpq)),(1,zP (.sl zpp.len 5 zpr)),(2,zP (.fn 108 [] [])),(10,zI cv2),(11,zS zaB 5 zcM),(12,zI zb8),(13,zI zq1)],[],[]⟩:=by subst zxy;subst zxz;exact zaW (by kernel_rfl) (zc hs hk (λ hs hk=>hk) (λ hs hk=>(hX0 hs hk rfl rfl rfl)))
def ztZ (S0:(Sl step)->(Sl step)->(Sl step)->Int->Int->Int) (zpl:(Sl step)) (zj1:(Sl step)) (iv1:Int) (zcM:(Sl step)) (zb8:Int) (zq0:Int) (zjA:Int) (zjB:Bool) (zjC:Int) (zjD:Int) (zjE:Int):Int :=
  (ztX S0 zcM zb8 zpl zj1 (zMn (⟨(⟨zjA,zjB⟩:Use),zjC,zjD,zjE⟩:step) (zj1.get iv1.toNat)) zq0)
def zt0 (P0:(Sl step)->(Sl step)->(Sl step)->Int->Int->Bool) (zpl:(Sl step)) (zj1:(Sl step)) (iv1:Int) (zcM:(Sl step)) (zb8:Int) (zq0:Int) (zjA:Int) (zjB:Bool) (zjC:Int) (zjD:Int) (zjE:Int):Bool :=
  (decide ((0<=iv1/\iv1 < (zj1.len:Int))) &&
 (decide ((zM6 (⟨(⟨zjA,zjB⟩:Use),zjC,zjD,zjE⟩:step) (zj1.get iv1.toNat)=true)) &&
 (ztY P0 zcM zb8 zpl zj1 (zMn (⟨(⟨zjA,zjB⟩:Use),zjC,zjD,zjE⟩:step) (zj1.get iv1.toNat)) zq0)))
theorem zCw (hX0:ztW K X0 P0 S0) (hs:zt0 P0 zpl zj1 iv1 zcM zb8 zq0 zjA zjB zjC zjD zjE=true) (hk:K (zKs (ztZ S0 zpl zj1 iv1 zcM zb8 zq0 zjA zjB zjC zjD zjE))) (zxA:zpm=zg zaB zpl) (zxB:zpn=zg zaB zj1) (zGb:zxx=zg zaB zcM):z107 K [1,0,1,0,0,1,1,0,0,1,1] [X0] ⟨[(0,zP (.sl zpl.len 5 zpm)),(1,zP (.sl zj1.len 5 zpn)),(2,zP (.fn 108 [] [])),(7,zI iv1),(8,zp 8 0),(11,zP (.sl zcM.len 5 zxx)),(12,zI zb8),(13,zI zq0)],[(8,.box 130 (zm (zaB (⟨(⟨zjA,zjB⟩:Use),zjC,zjD,zjE⟩:step))))],[]⟩:=by subst zxA;subst zxB;subst zGb;exact zaW (by kernel_rfl) (zaI hs λ hc hs=>And.intro hc (zaI hs λ hc hs=>And.intro hc (zCv hX0 hs hk rfl rfl)))
def zt1 (S0:(Sl step)->(Sl step)->(Sl step)->Int->Int->Int) (zeT:(Sl step)) (zel:(Sl step)) (zaV:(Sl step)) (zb7:Int) (zbV:Int):Int :=
  (cond (decide (zbV < zb7))
 (cond (decide (zbV >= (zel.len : Int)))
 (1:Int)
 (ztZ S0 zeT zel zbV zaV zb7 zbV ((zaV.get zbV.toNat).Use.Tie) ((zaV.get zbV.toNat).Use.Back) ((zaV.get zbV.toNat).from_) ((zaV.get zbV.toNat).to) ((zaV.get zbV.toNat).length)))
 (cond (decide ((zeT.len : Int) < (zel.len : Int)))
 (-1:Int)
 (0:Int)))
def zt2 (P0:(Sl step)->(Sl step)->(Sl step)->Int->Int->Bool) (zeT:(Sl step)) (zel:(Sl step)) (zaV:(Sl step)) (zb7:Int) (zbV:Int):Bool :=
  (cond (decide (zbV < zb7))
 (decide ((0<=zbV/\zbV < (zaV.len:Int))) &&
 (cond (decide (zbV >= (zel.len : Int)))
 true
 (zt0 P0 zeT zel zbV zaV zb7 zbV ((zaV.get zbV.toNat).Use.Tie) ((zaV.get zbV.toNat).Use.Back) ((zaV.get zbV.toNat).from_) ((zaV.get zbV.toNat).to) ((zaV.get zbV.toNat).length))))
 true)
def zt3:Nat->(Sl step)->(Sl step)->(Sl step)->Int->Int->Int:=lpO (λ _ _ _ _ _=>default) (zt1)
def zt4:Nat->(Sl step)->(Sl step)->(Sl step)->Int->Int->Bool:=lpO (λ _ _ _ _ _=>false) (zt2)
def zt5 (zeT:(Sl step)) (zel:(Sl step)) (zaV:(Sl step)) (zb7:Int) (zbV:Int):Int:=zt3 Fuel zeT zel zaV zb7 zbV
def zt6 (zeT:(Sl step)) (zel:(Sl step)) (zaV:(Sl step)) (zb7:Int) (zbV:Int):Bool:=zt4 Fuel zeT zel zaV zb7 zbV
theorem zCx (hs:zt6 zeT zel zaV zb7 zbV=true) (hk:K (zKs (zt5 zeT zel zaV zb7 zbV))) (zlb:zdG=zg zaB zeT) (zlc:zdH=zg zaB zel) (zq2:zf8=zg zaB zaV):z107 K [1,0,1,0] [] (zxw zeT zel zaV zb7 zbV zdG zdH zf8) :=
  zl (λ X=>z107 K [1,0,1,0,0] [X]) (by kernel_rfl) λ X0 hX =>
  (show ∀ k, ztW K X0 (zt4 k) (zt3 k) from zeH _ _ (zt2) (zt1) (ztW K X0)
 (by intro _ _ _ _ _ _ _ _ hs;exact absurd hs dqk)
 (by intro P0 S0 hX0 zeT zel zaV zb7 zbV zdG zdH zf8 hs hk zlb zlc zq2;subst zlb;subst zlc;subst zq2;exact hX _ (zaW (by kernel_rfl) (zc hs hk (λ hs hk=>(zaI hs λ hc hs=>And.intro hc (zc hs hk (λ hs hk=>hk) (λ hs hk=>(zCw hX0 hs hk rfl rfl rfl))))) (λ hs hk=>(zt hk (λ hk=>hk) (λ hk=>hk))))))) _ hs hk zlb zlc zq2
def zI7 (s1_a0:(Sl step)) (s2_a1:(Sl step)):Int :=
  (zt5 s1_a0 s2_a1 s1_a0 (s1_a0.len:Int) (0:Int))
def zMo (s1_a0:(Sl step)) (s2_a1:(Sl step)):Bool :=
  (zt6 s1_a0 s2_a1 s1_a0 (s1_a0.len:Int) (0:Int))
end
theorem zOU (s1_a0:(Sl step)) (s2_a1:(Sl step)) (K:List PA->Prop) (hs:zMo s1_a0 s2_a1=true) (hk:K (zKs (zI7 s1_a0 s2_a1))):vcFun Tryd.prog zOg zxv 107 [.one (.sl s1_a0.len 5 (λ i=>zaB (s1_a0.get i))),.one (.sl s2_a1.len 5 (λ i=>zaB (s2_a1.get i))),.one (.fn 108 [] [])] K :=
  zaW (by kernel_rfl) (zCx hs hk rfl rfl rfl)
def zxC : List PA → COut
  | [.one (.sl zf0 zmh zf1),.one (.sl zg0 zom zgR),.one (.fn 108 [] [])]=>.det (IsE zaB 5 zmh zf1/\IsE zaB 5 zom zgR/\zMo (⟨zf0,zh2 zf1⟩:(Sl step)) (⟨zg0,zh2 zgR⟩:(Sl step))=true) [.one (.int .i64 (zI7 (⟨zf0,zh2 zf1⟩:(Sl step)) (⟨zg0,zh2 zgR⟩:(Sl step))))]
  | _=>.no
theorem zGc:zav Tryd.prog 107:=⟨_,rfl,rfl,by kernel_rfl⟩
theorem zM8:Ok Tryd.prog 107 zxC:=zbx zKr zGc λ args K h=>by
  unfold zxC at h
  split at h
  · rename_i zf0 zmh zf1 zg0 zom zgR
    obtain⟨⟨⟨rfl,zix,rfl⟩,⟨rfl,zk4,rfl⟩,hs⟩,hk⟩:=h
    try rw[zeI zix] at hs
    try rw[zeI zix] at hk
    try rw[zeI zk4] at hs
    try rw[zeI zk4] at hk
    exact⟨(λ _ _=>[]),(λ _=>false),zxv,zOU (⟨zf0,zix⟩:(Sl step)) (⟨zg0,zk4⟩:(Sl step)) K hs hk⟩
  · exact h.elim
abbrev T89:Tabs:=((((Tabs.nil.addF 93 zpd).addF 106 zxo).addF 107 zxC).addI 110 zpf)
theorem zM9:TabsOk Tryd.prog T89:=((((TabsOk.nil.addF zI6).addF zMZ).addF zM8).addI zuY)
abbrev G89:Ctrs:=csm T89 (λ _ _=>[]) (λ _=>false)
def zxD:Ann:=⟨148,[(0,zK [0] []),(1,zK [0,3] [21]),(2,zK [0,3,23,24] [21]),(3,zK [0,3,23,24,25] [21]),(4,zK [0,3,4,23,24] [21]),(5,zK [0,3,23,24] [21]),(6,zK [0,3,23,24] [21]),(7,zK [0,3] [21]),(8,zK [0,3,5] [21]),(9,zK [0,3,5,45] [21]),(10,zK [0,3,5] [21]),(11,zK [0,3,5,48,49,50] [21]),(12,zK [0,3,5,48,49,50,51] [21]),(13,zK [0,3,5,6,7,48,49,50] [21]),(14,zK [0,3,5,48,49,50,62] [21]),(15,zK [0,3,5,48,49,50] [21]),(16,zK [0,3,5,8] [21]),(17,zK [0,5,8,64,65,66] [21]),(18,zK [0,5,8,64,65,66,67] [21]),(19,zK [0,5,8,9,10,64,65,66] [9,10,21]),(20,zK [0,5,8,9,10,64,65,66,78] [9,10,21]),(21,zK [0,5,8,9,10,11,64,65,66] [9,10,11,21]),(22,zK [0,5,8,9,10,11,12,13,64,65,66] [9,10,11,12,13,21]),(23,zK [0,5,8,9,10,11,12,13,14,64,65,66] [9,10,11,12,13,14,21]),(24,zK [0,5,8,9,10,11,12,13,14,64,65,66,83] [9,10,11,12,13,14,21,129]),(25,zK [0,5,8,9,10,11,12,13,14,64,65,66] [9,10,11,12,13,14,21,129]),(26,zK [0,5,8,9,10,11,12,13,14,64,65,66,87] [9,10,11,12,13,14,21,129]),(27,zK [0,5,8,9,10,11,12,13,14,15,64,65,66,87] [9,10,11,12,13,14,15,21,129]),(28,zK [0,5,8,9,10,11,12,13,14,15,64,65,66,87,125] [9,10,11,12,13,14,15,21,129]),(29,zK [0,5,8,9,10,11,12,13,14,15,64,65,66] [9,10,11,12,13,14,15,21,129]),(30,zK [0,5,8,9,10,11,12,13,14,64,65,66] [9,10,11,12,13,14,21,129]),(31,zK [0,5,8,9,10,11,12,13,64,65,66,136] [9,10,11,12,13,21,129]),(32,zK [0,5,8,9,10,11,12,13,14,64,65,66] [9,10,11,12,13,14,21,129]),(33,zK [0,5,8,11,64,65,66,144] [11,21,129]),(34,zK [0,5,8,64,65,66] [21,129]),(35,zK [0,5,8,64,65,66] [21,129]),(36,zK [2] [])],
 [(3,zK [0,3,23,24] [21]),(9,zK [0,3,5] [21]),(12,zK [0,3,5,48,49,50] [21]),(18,⟨[0,5,8,64,65,66],[21],[],[],[],[],[(8,1005,λ _=>zaB default)]⟩),(24,⟨[0,5,8,9,10,11,12,13,14,64,65,66],[9,10,11,12,13,14,21,129],[],[(11,0,129,130,λ _=>zaB default)],[],[],[]⟩),(27,zK [0,5,8,9,10,11,12,13,14,64,65,66,87] [9,10,11,12,13,14,21,129])],
 [(7,zK [0,3] [21]),(16,zK [0,3,5] [21]),(34,zK [0,5,8,11,64,65,66,144] [11,21,129])],
 [],[]⟩
abbrev R89:=(Sl step)
abbrev e89 (r:R89):List PA:=[.one (.sl r.len 5 (λ i=>zaB (r.get i)))]
@[irreducible] def z89:=ptF Tryd.prog G89 zxD Tryd.f89
@[irreducible] def x89:=exF Tryd.prog G89 zxD Tryd.f89
@[irreducible] def y89:=rnF Tryd.prog G89 zxD Tryd.f89
def zDU (w:web) (zc1:Int) (zdn:(Sl (Sl Tab))) (zf9:Nat->List PV):St:=⟨[(0,zP (.fp (zaE w) 0)),(3,zv 21),(23,zI (w.Net.Nodes.toNat:Int)),(24,zI zc1)],[(21,.vec 159 1 24 zdn.len zf9)],[]⟩
abbrev zKt (K:List PA->Prop) (w:web) (X:St->Prop) (P:Int->(Sl (Sl Tab))->Bool) (S:Int->(Sl (Sl Tab))->(Sl step)):Prop:=∀ ⦃zc1:Int⦄ ⦃zdn:(Sl (Sl Tab))⦄ ⦃zf9:Nat->List PV⦄,P zc1 zdn=true->K (e89 (S zc1 zdn))->zf9=zg zcX zdn->X (zDU w zc1 zdn zf9)
def zDV (w:web) (zbd:(Sl (Sl Tab))) (zcJ:Int):St:=⟨[(0,zP (.fp (zaE w) 0)),(3,zv 21),(5,zI zcJ)],[(21,.vec 159 1 24 zbd.len (λ i=>zcX (zbd.get i)))],[]⟩
abbrev zGd (K:List PA->Prop) (w:web) (zbd:(Sl (Sl Tab))) (X:St->Prop) (P:Int->Bool) (S:Int->(Sl step)):Prop:=∀ ⦃zcJ:Int⦄,P zcJ=true->K (e89 (S zcJ))->X (zDV w zbd zcJ)
def zDW (w:web) (zbd:(Sl (Sl Tab))) (za6:Int) (zc6:Int):St:=⟨[(0,zP (.fp (zaE w) 0)),(3,zv 21),(5,zI za6),(48,zv 21),(49,zI (zbd.len:Int)),(50,zI zc6)],[(21,.vec 159 1 24 zbd.len (λ i=>zcX (zbd.get i)))],[]⟩
abbrev zKu (K:List PA->Prop) (w:web) (zbd:(Sl (Sl Tab))) (X:St->Prop) (P:Int->Int->Bool) (S:Int->Int->(Sl step)):Prop:=∀ ⦃za6:Int⦄ ⦃zc6:Int⦄,P za6 zc6=true->K (e89 (S za6 zc6))->X (zDW w zbd za6 zc6)
def zDX (w:web) (zaP:(Sl (Sl Tab))) (zbJ:Int) (zbK:Bool) (zcD:(Sl step)) (zcl:Int) (zdb:(Sl (Sl Tab))) (zeM:Nat->List PV) (zga:Nat->List PV):St:=⟨[(0,zP (.fp (zaE w) 0)),(5,zI zbJ),(8,zP (.ns zbK zcD.len 5 zeM)),(64,zv 21),(65,zI (zaP.len:Int)),(66,zI zcl)],[(21,.vec 159 1 24 zdb.len zga)],[]⟩
abbrev zxE (K:List PA->Prop) (w:web) (zaP:(Sl (Sl Tab))) (X:St->Prop) (P:Int->Bool->(Sl step)->Int->(Sl (Sl Tab))->Bool) (S:Int->Bool->(Sl step)->Int->(Sl (Sl Tab))->(Sl step)):Prop:=∀ ⦃zbJ:Int⦄ ⦃zbK:Bool⦄ ⦃zcD:(Sl step)⦄ ⦃zcl:Int⦄ ⦃zdb:(Sl (Sl Tab))⦄ ⦃zeM:Nat->List PV⦄ ⦃zga:Nat->List PV⦄,P zbJ zbK zcD zcl zdb=true->K (e89 (S zbJ zbK zcD zcl zdb))->zeM=zg zaB zcD->zga=zg zcX zdb->X (zDX w zaP zbJ zbK zcD zcl zdb zeM zga)
def zDY (w:web) (zaP:(Sl (Sl Tab))) (zbm:Int) (zbr:Bool) (zbW:(Sl step)) (zew:Int) (iv6:Int) (hv6:(Sl Tab)) (zex:Int) (zbj:Int) (kv6:Int) (zd5:(Sl (Sl Tab))) (zb3:(Sl step)) (zeN:Nat->List PV) (zps:Nat->List PV) (zgb:Nat->List PV) (zeO:Nat->List PV):St:=⟨[(0,zP (.fp (zaE w) 0)),(5,zI zbm),(8,zP (.ns zbr zbW.len 5 zeN)),(9,zp 9 0),(10,zp 10 0),(11,zp 11 0),(12,zp 12 0),(13,zp 13 0),(14,zp 14 0),(64,zv 21),(65,zI (zaP.len:Int)),(66,zI zew)],[(9,.box 3 [zi iv6]),(10,.box 159 [.p (.sl hv6.len 80 zps)]),(11,.box 127 [.vec 129]),(12,.box 3 [zi zex]),(13,.box 3 [zi zbj]),(14,.box 3 [zi kv6]),(21,.vec 159 1 24 zd5.len zgb),(129,.vec 130 5 40 zb3.len zeO)],[]⟩
abbrev zGe (K:List PA->Prop) (w:web) (zaP:(Sl (Sl Tab))) (X:St->Prop) (P:Int->Bool->(Sl step)->Int->Int->(Sl Tab)->Int->Int->Int->(Sl (Sl Tab))->(Sl step)->Bool) (S:Int->Bool->(Sl step)->Int->Int->(Sl Tab)->Int->Int->Int->(Sl (Sl Tab))->(Sl step)->(Sl step)):Prop:=∀ ⦃zbm:Int⦄ ⦃zbr:Bool⦄ ⦃zbW:(Sl step)⦄ ⦃zew:Int⦄ ⦃iv6:Int⦄ ⦃hv6:(Sl Tab)⦄ ⦃zex:Int⦄ ⦃zbj:Int⦄ ⦃kv6:Int⦄ ⦃zd5:(Sl (Sl Tab))⦄ ⦃zb3:(Sl step)⦄ ⦃zeN:Nat->List PV⦄ ⦃zps:Nat->List PV⦄ ⦃zgb:Nat->List PV⦄ ⦃zeO:Nat->List PV⦄,P zbm zbr zbW zew iv6 hv6 zex zbj kv6 zd5 zb3=true->K (e89 (S zbm zbr zbW zew iv6 hv6 zex zbj kv6 zd5 zb3))->zeN=zg zaB zbW->zps=zg zar hv6->zgb=zg zcX zd5->zeO=zg zaB zb3->X (zDY w zaP zbm zbr zbW zew iv6 hv6 zex zbj kv6 zd5 zb3 zeN zps zgb zeO)
def zxF (w:web) (zaP:(Sl (Sl Tab))) (zaO:Int) (za3:Bool) (zbL:(Sl step)) (zcP:Int) (iv7:Int) (hv7:(Sl Tab)) (zdc:Int) (zaZ:Int) (kv7:Int) (zcH:(Sl (Sl Tab))) (zbv:(Sl step)) (zdx:Nat->List PV) (zlG:Nat->List PV) (zeU:Nat->List PV) (zdy:Nat->List PV):St:=⟨[(0,zP (.fp (zaE w) 0)),(5,zI zaO),(8,zP (.ns za3 zbL.len 5 zdx)),(9,zp 9 0),(10,zp 10 0),(11,zp 11 0),(12,zp 12 0),(13,zp 13 0),(14,zp 14 0),(64,zv 21),(65,zI (zaP.len:Int)),(66,zI zcP),(87,zP (.fn 110 [] [.fp [.fp (zaE w) 0] 0]))],[(9,.box 3 [zi iv7]),(10,.box 159 [.p (.sl hv7.len 80 zlG)]),(11,.box 127 [.vec 129]),(12,.box 3 [zi zdc]),(13,.box 3 [zi zaZ]),(14,.box 3 [zi kv7]),(21,.vec 159 1 24 zcH.len zeU),(129,.vec 130 5 40 zbv.len zdy)],[]⟩
abbrev zKv (K:List PA->Prop) (w:web) (zaP:(Sl (Sl Tab))) (X:St->Prop) (P:Int->Bool->(Sl step)->Int->Int->(Sl Tab)->Int->Int->Int->(Sl (Sl Tab))->(Sl step)->Bool) (S:Int->Bool->(Sl step)->Int->Int->(Sl Tab)->Int->Int->Int->(Sl (Sl Tab))->(Sl step)->(Sl step)):Prop:=∀ ⦃zaO:Int⦄ ⦃za3:Bool⦄ ⦃zbL:(Sl step)⦄ ⦃zcP:Int⦄ ⦃iv7:Int⦄ ⦃hv7:(Sl Tab)⦄ ⦃zdc:Int⦄ ⦃zaZ:Int⦄ ⦃kv7:Int⦄ ⦃zcH:(Sl (Sl Tab))⦄ ⦃zbv:(Sl step)⦄ ⦃zdx:Nat->List PV⦄ ⦃zlG:Nat->List PV⦄ ⦃zeU:Nat->List PV⦄ ⦃zdy:Nat->List PV⦄,P zaO za3 zbL zcP iv7 hv7 zdc zaZ kv7 zcH zbv=true->K (e89 (S zaO za3 zbL zcP iv7 hv7 zdc zaZ kv7 zcH zbv))->zdx=zg zaB zbL->zlG=zg zar hv7->zeU=zg zcX zcH->zdy=zg zaB zbv->X (zxF w zaP zaO za3 zbL zcP iv7 hv7 zdc zaZ kv7 zcH zbv zdx zlG zeU zdy)
section
variable {K:List PA->Prop}{w:web}{zc1:Int}{zdn:(Sl (Sl Tab))}{zf9:Nat->List PV}{X0:St->Prop}{P0:Int->(Sl (Sl Tab))->Bool}{S0:Int->(Sl (Sl Tab))->(Sl step)}{zbd:(Sl (Sl Tab))}{zxG:Nat->List PV}{zcJ:Int}{X2:St->Prop}{P2:Int->Bool}{S2:Int->(Sl step)}{za6:Int}{zc6:Int}{X3:St->Prop}{P3:Int->Int->Bool}{S3:Int->Int->(Sl step)}{zem:Int}{zaP:(Sl (Sl Tab))}{zxH:Nat->List PV}{zbJ:Int}{zbK:Bool}{zcD:(Sl step)}{zcl:Int}{zdb:(Sl (Sl Tab))}{zeM:Nat->List PV}{zga:Nat->List PV}{X5:St->Prop}{P5:Int->Bool->(Sl step)->Int->(Sl (Sl Tab))->Bool}{S5:Int->Bool->(Sl step)->Int->(Sl (Sl Tab))->(Sl step)}{zbm:Int}{zbr:Bool}{zbW:(Sl step)}{zew:Int}{iv6:Int}{hv6:(Sl Tab)}{zex:Int}{zbj:Int}{kv6:Int}{zd5:(Sl (Sl Tab))}{zb3:(Sl step)}{zeN:Nat->List PV}{zps:Nat->List PV}{zgb:Nat->List PV}{zeO:Nat->List PV}{X6:St->Prop}{P6:Int->Bool->(Sl step)->Int->Int->(Sl Tab)->Int->Int->Int->(Sl (Sl Tab))->(Sl step)->Bool}{S6:Int->Bool->(Sl step)->Int->Int->(Sl Tab)->Int->Int->Int->(Sl (Sl Tab))->(Sl step)->(Sl step)}{zaO:Int}{za3:Bool}{zbL:(Sl step)}{zcP:Int}{iv7:Int}{hv7:(Sl Tab)}{zdc:Int}{zaZ:Int}{kv7:Int}{zcH:(Sl (Sl Tab))}{zbv:(Sl step)}{zdx:Nat->List PV}{zlG:Nat->List PV}{zeU:Nat->List PV}{zdy:Nat->List PV}{zh4:Int}{zfs:Bool}{zjF:(Sl step)}{znz:Int}{zld:Bool}{zlH:(Sl (Sl Tab))}{zjG:(Sl step)}{zt7:Nat->List PV}{zxI:Nat->List PV}{zt8:Nat->List PV}
def zle (S5:Int->Bool->(Sl step)->Int->(Sl (Sl Tab))->(Sl step)) (w:web) (zaP:(Sl (Sl Tab))) (zh4:Int) (zfs:Bool) (zjF:(Sl step)) (znz:Int) (zld:Bool) (zlH:(Sl (Sl Tab))) (zjG:(Sl step)):(Sl step) :=
  (cond zld
 (S5 zh4 false zjG (w64 (znz+(1:Int))) zlH)
 (S5 zh4 zfs zjF (w64 (znz+(1:Int))) zlH))
def zlf (P5:Int->Bool->(Sl step)->Int->(Sl (Sl Tab))->Bool) (w:web) (zaP:(Sl (Sl Tab))) (zh4:Int) (zfs:Bool) (zjF:(Sl step)) (znz:Int) (zld:Bool) (zlH:(Sl (Sl Tab))) (zjG:(Sl step)):Bool :=
  (cond zld
 (P5 zh4 false zjG (w64 (znz+(1:Int))) zlH)
 (P5 zh4 zfs zjF (w64 (znz+(1:Int))) zlH))
theorem zxJ (hX5:zxE K w zaP X5 P5 S5) (hs:zlf P5 w zaP zh4 zfs zjF znz zld zlH zjG=true) (hk:K (e89 (zle S5 w zaP zh4 zfs zjF znz zld zlH zjG))) (zCy:zt7=zg zaB zjF) (zGf:zxI=zg zcX zlH) (zCz:zt8=zg zaB zjG):z89 K [1,0,1,1,1,1,1,1,0,1,0,0,1,1,0,0,1,1,1,1,1,1] [X5] ⟨[(0,zP (.fp (zaE w) 0)),(5,zI zh4),(8,zP (.ns zfs zjF.len 5 zt7)),(11,zp 11 0),(64,zv 21),(65,zI (zaP.len:Int)),(66,zI znz),(144,zB zld)],[(11,.box 127 [.vec 129]),(21,.vec 159 1 24 zlH.len zxI),(129,.vec 130 5 40 zjG.len zt8)],[]⟩:=by subst zCy;subst zGf;subst zCz;exact zaW (by kernel_rfl) (zc hs hk (λ hs hk=>(hX5 hs hk rfl rfl)) (λ hs hk=>(hX5 hs hk rfl rfl)))
def zGg (S5:Int->Bool->(Sl step)->Int->(Sl (Sl Tab))->(Sl step)) (S6:Int->Bool->(Sl step)->Int->Int->(Sl Tab)->Int->Int->Int->(Sl (Sl Tab))->(Sl step)->(Sl step)) (w:web) (zaP:(Sl (Sl Tab))) (zaO:Int) (za3:Bool) (zbL:(Sl step)) (zcP:Int) (iv7:Int) (hv7:(Sl Tab)) (zdc:Int) (zaZ:Int) (kv7:Int) (zcH:(Sl (Sl Tab))) (zbv:(Sl step)):(Sl step) :=
  (S6 zaO za3 zbL zcP iv7 hv7 zdc zaZ (w64 (kv7 - (1:Int))) zcH zbv)
def zGh (P5:Int->Bool->(Sl step)->Int->(Sl (Sl Tab))->Bool) (P6:Int->Bool->(Sl step)->Int->Int->(Sl Tab)->Int->Int->Int->(Sl (Sl Tab))->(Sl step)->Bool) (w:web) (zaP:(Sl (Sl Tab))) (zaO:Int) (za3:Bool) (zbL:(Sl step)) (zcP:Int) (iv7:Int) (hv7:(Sl Tab)) (zdc:Int) (zaZ:Int) (kv7:Int) (zcH:(Sl (Sl Tab))) (zbv:(Sl step)):Bool :=
  (P6 zaO za3 zbL zcP iv7 hv7 zdc zaZ (w64 (kv7 - (1:Int))) zcH zbv)
def zq3 (S5:Int->Bool->(Sl step)->Int->(Sl (Sl Tab))->(Sl step)) (S6:Int->Bool->(Sl step)->Int->Int->(Sl Tab)->Int->Int->Int->(Sl (Sl Tab))->(Sl step)->(Sl step)) (w:web) (zaP:(Sl (Sl Tab))) (y7:step) (S7:Int->Bool->(Sl step)->Int->Int->(Sl Tab)->Int->Int->Int->(Sl (Sl Tab))->(Sl step)->(Sl step)) (zaO:Int) (za3:Bool) (zbL:(Sl step)) (zcP:Int) (iv7:Int) (hv7:(Sl Tab)) (zdc:Int) (zaZ:Int) (kv7:Int) (zcH:(Sl (Sl Tab))) (zbv:(Sl step)):(Sl step) :=
  (cond (y7.from_ == zdc)
 (cond (decide (y7.to >= iv7))
 (cond (!(nvr (tL (hv7.get kv7.toNat) y7.to) (tU (hv7.get kv7.toNat) y7.to)))
 (cond (decide ((w64 ((w64 (zaZ + y7.length)) + (tL (hv7.get kv7.toNat) y7.to))) < (0:Int)))
 (S6 zaO za3 zbL zcP iv7 hv7 y7.to (w64 (zaZ+y7.length)) (w64 (kv7 - (1:Int))) zcH (⟨(zbv.len+1),(zdm zbv.len zbv.get (λ _=>y7))⟩:Sl step))
 (S7 zaO za3 zbL zcP iv7 hv7 zdc zaZ kv7 zcH zbv))
 (S7 zaO za3 zbL zcP iv7 hv7 zdc zaZ kv7 zcH zbv))
 (S7 zaO za3 zbL zcP iv7 hv7 zdc zaZ kv7 zcH zbv))
 (S7 zaO za3 zbL zcP iv7 hv7 zdc zaZ kv7 zcH zbv))
def zq4 (P5:Int->Bool->(Sl step)->Int->(Sl (Sl Tab))->Bool) (P6:Int->Bool->(Sl step)->Int->Int->(Sl Tab)->Int->Int->Int->(Sl (Sl Tab))->(Sl step)->Bool) (w:web) (zaP:(Sl (Sl Tab))) (y7:step) (P7:Int->Bool->(Sl step)->Int->Int->(Sl Tab)->Int->Int->Int->(Sl (Sl Tab))->(Sl step)->Bool) (zaO:Int) (za3:Bool) (zbL:(Sl step)) (zcP:Int) (iv7:Int) (hv7:(Sl Tab)) (zdc:Int) (zaZ:Int) (kv7:Int) (zcH:(Sl (Sl Tab))) (zbv:(Sl step)):Bool :=
  (cond (y7.from_ == zdc)
 (cond (decide (y7.to >= iv7))
 (decide ((0<=kv7/\kv7 < (hv7.len:Int))) &&
 (decide ((0<=y7.to/\y7.to < (40:Int))) &&
 (cond (!(nvr (tL (hv7.get kv7.toNat) y7.to) (tU (hv7.get kv7.toNat) y7.to)))
 (decide ((0<=kv7/\kv7 < (hv7.len:Int))) &&
 (decide ((0<=y7.to/\y7.to < (40:Int))) &&
 (cond (decide ((w64 ((w64 (zaZ + y7.length)) + (tL (hv7.get kv7.toNat) y7.to))) < (0:Int)))
 (decide (((zbv.len+1) * 40<=140737488355328/\zbv.len+1<=9223372036854775807)) &&
 (P6 zaO za3 zbL zcP iv7 hv7 y7.to (w64 (zaZ+y7.length)) (w64 (kv7 - (1:Int))) zcH (⟨(zbv.len+1),(zdm zbv.len zbv.get (λ _=>y7))⟩:Sl step)))
 (P7 zaO za3 zbL zcP iv7 hv7 zdc zaZ kv7 zcH zbv))))
 (P7 zaO za3 zbL zcP iv7 hv7 zdc zaZ kv7 zcH zbv))))
 (P7 zaO za3 zbL zcP iv7 hv7 zdc zaZ kv7 zcH zbv))
 (P7 zaO za3 zbL zcP iv7 hv7 zdc zaZ kv7 zcH zbv))
def zdo (S5:Int->Bool->(Sl step)->Int->(Sl (Sl Tab))->(Sl step)) (S6:Int->Bool->(Sl step)->Int->Int->(Sl Tab)->Int->Int->Int->(Sl (Sl Tab))->(Sl step)->(Sl step)) (w:web) (zaP:(Sl (Sl Tab))):List step->Int->Bool->(Sl step)->Int->Int->(Sl Tab)->Int->Int->Int->(Sl (Sl Tab))->(Sl step)->(Sl step):=lpR (zGg S5 S6 w zaP) (zq3 S5 S6 w zaP)
def zdp (P5:Int->Bool->(Sl step)->Int->(Sl (Sl Tab))->Bool) (P6:Int->Bool->(Sl step)->Int->Int->(Sl Tab)->Int->Int->Int->(Sl (Sl Tab))->(Sl step)->Bool) (w:web) (zaP:(Sl (Sl Tab))):List step->Int->Bool->(Sl step)->Int->Int->(Sl Tab)->Int->Int->Int->(Sl (Sl Tab))->(Sl step)->Bool:=lpR (zGh P5 P6 w zaP) (zq4 P5 P6 w zaP)
def zq5 (S5:Int->Bool->(Sl step)->Int->(Sl (Sl Tab))->(Sl step)) (S6:Int->Bool->(Sl step)->Int->Int->(Sl Tab)->Int->Int->Int->(Sl (Sl Tab))->(Sl step)->(Sl step)) (w:web) (zaP:(Sl (Sl Tab))) (zaO:Int) (za3:Bool) (zbL:(Sl step)) (zcP:Int) (iv7:Int) (hv7:(Sl Tab)) (zdc:Int) (zaZ:Int) (kv7:Int) (zcH:(Sl (Sl Tab))) (zbv:(Sl step)):(Sl step):=zdo S5 S6 w zaP (zk7 w) zaO za3 zbL zcP iv7 hv7 zdc zaZ kv7 zcH zbv
def zq6 (P5:Int->Bool->(Sl step)->Int->(Sl (Sl Tab))->Bool) (P6:Int->Bool->(Sl step)->Int->Int->(Sl Tab)->Int->Int->Int->(Sl (Sl Tab))->(Sl step)->Bool) (w:web) (zaP:(Sl (Sl Tab))) (zaO:Int) (za3:Bool) (zbL:(Sl step)) (zcP:Int) (iv7:Int) (hv7:(Sl Tab)) (zdc:Int) (zaZ:Int) (kv7:Int) (zcH:(Sl (Sl Tab))) (zbv:(Sl step)):Bool:=decide ((zvf w=true)) && zdp P5 P6 w zaP (zk7 w) zaO za3 zbL zcP iv7 hv7 zdc zaZ kv7 zcH zbv
theorem zGi (hX5:zxE K w zaP X5 P5 S5) (hX6:zGe K w zaP X6 P6 S6) (hs:zq6 P5 P6 w zaP zaO za3 zbL zcP iv7 hv7 zdc zaZ kv7 zcH zbv=true) (hk:K (e89 (zq5 S5 S6 w zaP zaO za3 zbL zcP iv7 hv7 zdc zaZ kv7 zcH zbv))) (zh5:zdx=zg zaB zbL) (zxK:zlG=zg zar hv7) (zlg:zeU=zg zcX zcH) (zh6:zdy=zg zaB zbv):z89 K [1,0,1,1,1,1,1,1,0,1,0,0,1,1,0,0,1,1,1,1,0,1,0,0,1,0,0,1,0] [X5,X6] (zxF w zaP zaO za3 zbL zcP iv7 hv7 zdc zaZ kv7 zcH zbv zdx zlG zeU zdy) :=
  zaI hs λ hc hs=>zr (enc:=(λ y:step=>[.agg (zaB y)])) (ys:=zk7 w) (g:=(zxF w zaP zaO za3 zbL zcP iv7 hv7 zdc zaZ kv7 zcH zbv zdx zlG zeU zdy)) (x89 K [1,0,1,1,1,1,1,1,0,1,0,0,1,1,0,0,1,1,1,1,0,1,0,0,1,0,0,1,0] [X5,X6]) (y89 K [1,0,1,1,1,1,1,1,0,1,0,0,1,1,0,0,1,1,1,1,0,1,0,0,1,0,0,1,0] [X5,X6]) (by kernel_rfl) (And.intro (zE enc_40 4 w.Net.Ties.get) (And.intro (rfl:((false,1,false,[none]):MQ)=(false,1,false,[none])) hc)) λ X7 hE hR =>
  (show ∀ l : List step, zKv K w zaP (X7 (l.map (λ y : step => [.agg (zaB y)]))) (zdp P5 P6 w zaP l) (zdo S5 S6 w zaP l) from zri (X := X7) (enc := (λ y : step => [.agg (zaB y)])) _ _ (zq4 P5 P6 w zaP) (zq3 S5 S6 w zaP) (λ Z P S => zKv K w zaP Z P S)
 (by intro zaO za3 zbL zcP iv7 hv7 zdc zaZ kv7 zcH zbv zdx zlG zeU zdy hs hk zh5 zxK zlg zh6;subst zh5;subst zxK;subst zlg;subst zh6;exact hE _ (zaW (by kernel_rfl) (hX6 hs hk rfl rfl rfl rfl)))
 (by intro y7 rest P7 S7 hX7 zaO za3 zbL zcP iv7 hv7 zdc zaZ kv7 zcH zbv zdx zlG zeU zdy hs hk zh5 zxK zlg zh6;subst zh5;subst zxK;subst zlg;subst zh6;exact hR _ rest _ (zaW (by kernel_rfl) (zc hs hk (λ hs hk=>(zc hs hk (λ hs hk=>(zaI hs λ hc hs=>And.intro hc (zaI hs λ hc hs=>And.intro hc (zc hs hk (λ hs hk=>(zaI hs λ hc hs=>And.intro hc (zaI hs λ hc hs=>And.intro hc (zc hs hk (λ hs hk=>(zaI hs λ hc hs=>And.intro hc (hX6 hs hk rfl rfl rfl (zjx (enc:=zaB) (f:=zbv.get) (h:=(λ _=>y7)) rfl rfl)))) (λ hs hk=>(hX7 hs hk rfl rfl rfl rfl)))))) (λ hs hk=>(hX7 hs hk rfl rfl rfl rfl)))))) (λ hs hk=>(hX7 hs hk rfl rfl rfl rfl)))) (λ hs hk=>(hX7 hs hk rfl rfl rfl rfl)))))) _ hs hk zh5 zxK zlg zh6
def ziQ (S5:Int->Bool->(Sl step)->Int->(Sl (Sl Tab))->(Sl step)) (w:web) (zaP:(Sl (Sl Tab))) (S6:Int->Bool->(Sl step)->Int->Int->(Sl Tab)->Int->Int->Int->(Sl (Sl Tab))->(Sl step)->(Sl step)) (zbm:Int) (zbr:Bool) (zbW:(Sl step)) (zew:Int) (iv6:Int) (hv6:(Sl Tab)) (zex:Int) (zbj:Int) (kv6:Int) (zd5:(Sl (Sl Tab))) (zb3:(Sl step)):(Sl step) :=
  (cond (decide (kv6 >= (0:Int)))
 (zq5 S5 S6 w zaP zbm zbr zbW zew iv6 hv6 zex zbj kv6 zd5 zb3)
 (cond zbr
 (zle S5 w zaP zbm zbr zbW zew true zd5 zb3)
 (zle S5 w zaP zbm zbr zbW zew (decide ((zI7 zb3 zbW) < (0:Int))) zd5 zb3)))
def ziR (P5:Int->Bool->(Sl step)->Int->(Sl (Sl Tab))->Bool) (w:web) (zaP:(Sl (Sl Tab))) (P6:Int->Bool->(Sl step)->Int->Int->(Sl Tab)->Int->Int->Int->(Sl (Sl Tab))->(Sl step)->Bool) (zbm:Int) (zbr:Bool) (zbW:(Sl step)) (zew:Int) (iv6:Int) (hv6:(Sl Tab)) (zex:Int) (zbj:Int) (kv6:Int) (zd5:(Sl (Sl Tab))) (zb3:(Sl step)):Bool :=
  (cond (decide (kv6 >= (0:Int)))
 (zq6 P5 P6 w zaP zbm zbr zbW zew iv6 hv6 zex zbj kv6 zd5 zb3)
 (decide ((zbr=true\/zbW.len ≠ 0)) &&
 (cond zbr
 (zlf P5 w zaP zbm zbr zbW zew true zd5 zb3)
 (decide ((zMo zb3 zbW=true)) &&
 (zlf P5 w zaP zbm zbr zbW zew (decide ((zI7 zb3 zbW) < (0:Int))) zd5 zb3)))))
def ziS (S5:Int->Bool->(Sl step)->Int->(Sl (Sl Tab))->(Sl step)) (w:web) (zaP:(Sl (Sl Tab))):Nat->Int->Bool->(Sl step)->Int->Int->(Sl Tab)->Int->Int->Int->(Sl (Sl Tab))->(Sl step)->(Sl step):=lpO (λ _ _ _ _ _ _ _ _ _ _ _=>default) (ziQ S5 w zaP)
def ziT (P5:Int->Bool->(Sl step)->Int->(Sl (Sl Tab))->Bool) (w:web) (zaP:(Sl (Sl Tab))):Nat->Int->Bool->(Sl step)->Int->Int->(Sl Tab)->Int->Int->Int->(Sl (Sl Tab))->(Sl step)->Bool:=lpO (λ _ _ _ _ _ _ _ _ _ _ _=>false) (ziR P5 w zaP)
def zxL (S5:Int->Bool->(Sl step)->Int->(Sl (Sl Tab))->(Sl step)) (w:web) (zaP:(Sl (Sl Tab))) (zbm:Int) (zbr:Bool) (zbW:(Sl step)) (zew:Int) (iv6:Int) (hv6:(Sl Tab)) (zex:Int) (zbj:Int) (kv6:Int) (zd5:(Sl (Sl Tab))) (zb3:(Sl step)):(Sl step):=ziS S5 w zaP Fuel zbm zbr zbW zew iv6 hv6 zex zbj kv6 zd5 zb3
def zxM (P5:Int->Bool->(Sl step)->Int->(Sl (Sl Tab))->Bool) (w:web) (zaP:(Sl (Sl Tab))) (zbm:Int) (zbr:Bool) (zbW:(Sl step)) (zew:Int) (iv6:Int) (hv6:(Sl Tab)) (zex:Int) (zbj:Int) (kv6:Int) (zd5:(Sl (Sl Tab))) (zb3:(Sl step)):Bool:=ziT P5 w zaP Fuel zbm zbr zbW zew iv6 hv6 zex zbj kv6 zd5 zb3
theorem zGj (hX5:zxE K w zaP X5 P5 S5) (hs:zxM P5 w zaP zbm zbr zbW zew iv6 hv6 zex zbj kv6 zd5 zb3=true) (hk:K (e89 (zxL S5 w zaP zbm zbr zbW zew iv6 hv6 zex zbj kv6 zd5 zb3))) (znA:zeN=zg zaB zbW) (zGk:zps=zg zar hv6) (zq7:zgb=zg zcX zd5) (znB:zeO=zg zaB zb3):z89 K [1,0,1,1,1,1,1,1,0,1,0,0,1,1,0,0,1,1,1,1,0,1,0] [X5] (zDY w zaP zbm zbr zbW zew iv6 hv6 zex zbj kv6 zd5 zb3 zeN zps zgb zeO) :=
  zl (λ X=>z89 K [1,0,1,1,1,1,1,1,0,1,0,0,1,1,0,0,1,1,1,1,0,1,0,0] [X5,X]) (by kernel_rfl) λ X6 hX =>
  (show ∀ k, zGe K w zaP X6 (ziT P5 w zaP k) (ziS S5 w zaP k) from zeH _ _ (ziR P5 w zaP) (ziQ S5 w zaP) (zGe K w zaP X6)
 (by intro _ _ _ _ _ _ _ _ _ _ _ _ _ _ _ hs;exact absurd hs dqk)
 (by intro P6 S6 hX6 zbm zbr zbW zew iv6 hv6 zex zbj kv6 zd5 zb3 zeN zps zgb zeO hs hk znA zGk zq7 znB;subst znA;subst zGk;subst zq7;subst znB;exact hX _ (zaW (by kernel_rfl) (zc hs hk (λ hs hk=>(And.intro (And.intro (zE enc_40 4 w.Net.Ties.get) (rfl:((false,1,false,[none]):MQ)=(false,1,false,[none]))) (zGi hX5 hX6 hs hk rfl rfl rfl rfl))) (λ hs hk=>(zaI hs λ hc hs=>And.intro hc (zc hs hk (λ hs hk=>(zxJ hX5 hs hk rfl rfl rfl)) (λ hs hk=>(zaI hs λ hc hs=>And.intro (And.intro (zE zaB 5 zb3.get) (And.intro (zE zaB 5 zbW.get) hc)) (zxJ hX5 hs hk rfl rfl rfl)))))))))) _ hs hk znA zGk zq7 znB
def zxN (w:web) (zaP:(Sl (Sl Tab))) (S5:Int->Bool->(Sl step)->Int->(Sl (Sl Tab))->(Sl step)) (zbJ:Int) (zbK:Bool) (zcD:(Sl step)) (zcl:Int) (zdb:(Sl (Sl Tab))):(Sl step) :=
  (cond (decide (zcl < (zaP.len : Int)))
 (cond (decide ((tL ((zdb.get zcl.toNat).get zbJ.toNat) zcl) >= (0:Int)))
 (S5 zbJ zbK zcD (w64 (zcl+(1:Int))) zdb)
 (zxL S5 w zaP zbJ zbK zcD zcl zcl (zdb.get zcl.toNat) zcl (0:Int) (w64 (zbJ - (1:Int))) zdb (⟨0,(λ _=>default)⟩:Sl step)))
 zcD)
def zxO (w:web) (zaP:(Sl (Sl Tab))) (P5:Int->Bool->(Sl step)->Int->(Sl (Sl Tab))->Bool) (zbJ:Int) (zbK:Bool) (zcD:(Sl step)) (zcl:Int) (zdb:(Sl (Sl Tab))):Bool :=
  (cond (decide (zcl < (zaP.len : Int)))
 (decide ((0<=zcl/\zcl < (zdb.len:Int))) &&
 (decide ((zcl.toNat < zdb.len)) &&
 (decide ((0<=zbJ/\zbJ < ((zdb.get zcl.toNat).len:Int))) &&
 (decide ((0<=zcl/\zcl < (40:Int))) &&
 (cond (decide ((tL ((zdb.get zcl.toNat).get zbJ.toNat) zcl) >= (0:Int)))
 (P5 zbJ zbK zcD (w64 (zcl+(1:Int))) zdb)
 (zxM P5 w zaP zbJ zbK zcD zcl zcl (zdb.get zcl.toNat) zcl (0:Int) (w64 (zbJ - (1:Int))) zdb (⟨0,(λ _=>default)⟩:Sl step)))))))
 true)
def zxP (w:web) (zaP:(Sl (Sl Tab))):Nat->Int->Bool->(Sl step)->Int->(Sl (Sl Tab))->(Sl step):=lpO (λ _ _ _ _ _=>default) (zxN w zaP)
def zxQ (w:web) (zaP:(Sl (Sl Tab))):Nat->Int->Bool->(Sl step)->Int->(Sl (Sl Tab))->Bool:=lpO (λ _ _ _ _ _=>false) (zxO w zaP)
def zxR (w:web) (zaP:(Sl (Sl Tab))) (zbJ:Int) (zbK:Bool) (zcD:(Sl step)) (zcl:Int) (zdb:(Sl (Sl Tab))):(Sl step):=zxP w zaP Fuel zbJ zbK zcD zcl zdb
def zxS (w:web) (zaP:(Sl (Sl Tab))) (zbJ:Int) (zbK:Bool) (zcD:(Sl step)) (zcl:Int) (zdb:(Sl (Sl Tab))):Bool:=zxQ w zaP Fuel zbJ zbK zcD zcl zdb
theorem zGl (hs:zxS w zaP zbJ zbK zcD zcl zdb=true) (hk:K (e89 (zxR w zaP zbJ zbK zcD zcl zdb))) (znC:zeM=zg zaB zcD) (zq8:zga=zg zcX zdb):z89 K [1,0,1,1,1,1,1,1,0,1,0] [] (zDX w zaP zbJ zbK zcD zcl zdb zeM zga) :=
  zl (λ X=>z89 K [1,0,1,1,1,1,1,1,0,1,0,0] [X]) (by kernel_rfl) λ X5 hX =>
  (show ∀ k, zxE K w zaP X5 (zxQ w zaP k) (zxP w zaP k) from zeH _ _ (zxO w zaP) (zxN w zaP) (zxE K w zaP X5)
 (by intro _ _ _ _ _ _ _ hs;exact absurd hs dqk)
 (by intro P5 S5 hX5 zbJ zbK zcD zcl zdb zeM zga hs hk znC zq8;subst znC;subst zq8;exact hX _ (zaW (by kernel_rfl) (zc hs hk (λ hs hk=>(zaI hs λ hc hs=>And.intro hc (zaI hs λ hc hs=>And.intro hc (zaI hs λ hc hs=>And.intro hc (zaI hs λ hc hs=>And.intro hc (zc hs hk (λ hs hk=>(hX5 hs hk rfl rfl)) (λ hs hk=>(zGj hX5 hs hk rfl rfl rfl rfl)))))))) (λ hs hk=>hk))))) _ hs hk znC zq8
def zq9 (w:web) (zem:Int) (zaP:(Sl (Sl Tab))):(Sl step) :=
  (zxR w zaP zem true (⟨0,(λ _=>default)⟩:Sl step) (0:Int) zaP)
def zra (w:web) (zem:Int) (zaP:(Sl (Sl Tab))):Bool :=
  (zxS w zaP zem true (⟨0,(λ _=>default)⟩:Sl step) (0:Int) zaP)
theorem zxT (hs:zra w zem zaP=true) (hk:K (e89 (zq9 w zem zaP))) (zGm:zxH=zg zcX zaP):z89 K [1,0,1,1,1,1,1] [] ⟨[(0,zP (.fp (zaE w) 0)),(3,zv 21),(5,zI zem)],[(21,.vec 159 1 24 zaP.len zxH)],[]⟩:=by subst zGm;exact zaW (by kernel_rfl) (zGl hs hk rfl rfl)
def zxU (S2:Int->(Sl step)) (w:web) (zbd:(Sl (Sl Tab))) (S3:Int->Int->(Sl step)) (za6:Int) (zc6:Int):(Sl step) :=
  (cond (decide (zc6 < (zbd.len : Int)))
 (cond (decide ((tL ((zbd.get zc6.toNat).get za6.toNat) zc6) < (0:Int)))
 (zq9 w za6 zbd)
 (S3 za6 (w64 (zc6+(1:Int)))))
 (S2 (w64 (za6+(1:Int)))))
def zxV (P2:Int->Bool) (w:web) (zbd:(Sl (Sl Tab))) (P3:Int->Int->Bool) (za6:Int) (zc6:Int):Bool :=
  (cond (decide (zc6 < (zbd.len : Int)))
 (decide ((0<=zc6/\zc6 < (zbd.len:Int))) &&
 (decide ((zc6.toNat < zbd.len)) &&
 (decide ((0<=za6/\za6 < ((zbd.get zc6.toNat).len:Int))) &&
 (decide ((0<=zc6/\zc6 < (40:Int))) &&
 (cond (decide ((tL ((zbd.get zc6.toNat).get za6.toNat) zc6) < (0:Int)))
 (zra w za6 zbd)
 (P3 za6 (w64 (zc6+(1:Int)))))))))
 (P2 (w64 (za6+(1:Int)))))
def zxW (S2:Int->(Sl step)) (w:web) (zbd:(Sl (Sl Tab))):Nat->Int->Int->(Sl step):=lpO (λ _ _=>default) (zxU S2 w zbd)
def zxX (P2:Int->Bool) (w:web) (zbd:(Sl (Sl Tab))):Nat->Int->Int->Bool:=lpO (λ _ _=>false) (zxV P2 w zbd)
def zxY (S2:Int->(Sl step)) (w:web) (zbd:(Sl (Sl Tab))) (za6:Int) (zc6:Int):(Sl step):=zxW S2 w zbd Fuel za6 zc6
def zxZ (P2:Int->Bool) (w:web) (zbd:(Sl (Sl Tab))) (za6:Int) (zc6:Int):Bool:=zxX P2 w zbd Fuel za6 zc6
theorem zGn (hX2:zGd K w zbd X2 P2 S2) (hs:zxZ P2 w zbd za6 zc6=true) (hk:K (e89 (zxY S2 w zbd za6 zc6))):z89 K [1,0,1,1,1,1,0,1,0,0,1,0,0,1,0] [X2] (zDW w zbd za6 zc6) :=
  zl (λ X=>z89 K [1,0,1,1,1,1,0,1,0,0,1,0,0,1,0,0] [X2,X]) (by kernel_rfl) λ X3 hX =>
  (show ∀ k, zKu K w zbd X3 (zxX P2 w zbd k) (zxW S2 w zbd k) from zeH _ _ (zxV P2 w zbd) (zxU S2 w zbd) (zKu K w zbd X3)
 (by intro _ _ hs;exact absurd hs dqk)
 (by intro P3 S3 hX3 za6 zc6 hs hk;exact hX _ (zaW (by kernel_rfl) (zc hs hk (λ hs hk=>(zaI hs λ hc hs=>And.intro hc (zaI hs λ hc hs=>And.intro hc (zaI hs λ hc hs=>And.intro hc (zaI hs λ hc hs=>And.intro hc (zc hs hk (λ hs hk=>(zxT hs hk rfl)) (λ hs hk=>(hX3 hs hk)))))))) (λ hs hk=>(hX2 hs hk)))))) _ hs hk
def zx0 (w:web) (zbd:(Sl (Sl Tab))) (S2:Int->(Sl step)) (zcJ:Int):(Sl step) :=
  (cond (decide (zcJ < w.Net.Nodes))
 (zxY S2 w zbd zcJ (0:Int))
 (zq9 w zcJ zbd))
def zx1 (w:web) (zbd:(Sl (Sl Tab))) (P2:Int->Bool) (zcJ:Int):Bool :=
  (cond (decide (zcJ < w.Net.Nodes))
 (zxZ P2 w zbd zcJ (0:Int))
 (zra w zcJ zbd))
def zx2 (w:web) (zbd:(Sl (Sl Tab))):Nat->Int->(Sl step):=lpO (λ _=>default) (zx0 w zbd)
def zx3 (w:web) (zbd:(Sl (Sl Tab))):Nat->Int->Bool:=lpO (λ _=>false) (zx1 w zbd)
def zx4 (w:web) (zbd:(Sl (Sl Tab))) (zcJ:Int):(Sl step):=zx2 w zbd Fuel zcJ
def zx5 (w:web) (zbd:(Sl (Sl Tab))) (zcJ:Int):Bool:=zx3 w zbd Fuel zcJ
theorem zGo (hs:zx5 w zbd zcJ=true) (hk:K (e89 (zx4 w zbd zcJ))):z89 K [1,0,1,1,1,1,0,1,0] [] (zDV w zbd zcJ) :=
  zl (λ X=>z89 K [1,0,1,1,1,1,0,1,0,0] [X]) (by kernel_rfl) λ X2 hX =>
  (show ∀ k, zGd K w zbd X2 (zx3 w zbd k) (zx2 w zbd k) from zeH _ _ (zx1 w zbd) (zx0 w zbd) (zGd K w zbd X2)
 (by intro _ hs;exact absurd hs dqk)
 (by intro P2 S2 hX2 zcJ hs hk;exact hX _ (zaW (by kernel_rfl) (zc hs hk (λ hs hk=>(zGn hX2 hs hk)) (λ hs hk=>(zxT hs hk rfl)))))) _ hs hk
def zx6 (w:web) (zbd:(Sl (Sl Tab))):(Sl step) :=
  (zx4 w zbd (1:Int))
def zx7 (w:web) (zbd:(Sl (Sl Tab))):Bool :=
  (zx5 w zbd (1:Int))
theorem zGp (hs:zx7 w zbd=true) (hk:K (e89 (zx6 w zbd))) (zGq:zxG=zg zcX zbd):z89 K [1,0,1,1] [] ⟨[(0,zP (.fp (zaE w) 0)),(3,zv 21)],[(21,.vec 159 1 24 zbd.len zxG)],[]⟩:=by subst zGq;exact zaW (by kernel_rfl) (zGo hs hk)
def zx8 (w:web) (S0:Int->(Sl (Sl Tab))->(Sl step)) (zc1:Int) (zdn:(Sl (Sl Tab))):(Sl step) :=
  (cond (decide (zc1 < (w.Net.Nodes.toNat : Int)))
 (S0 (w64 (zc1+(1:Int))) (⟨zdn.len,(setT zc1.toNat (zF4 w zc1 w.Net.Nodes) zdn.get)⟩:Sl (Sl Tab)))
 (zx6 w zdn))
def zx9 (w:web) (P0:Int->(Sl (Sl Tab))->Bool) (zc1:Int) (zdn:(Sl (Sl Tab))):Bool :=
  (cond (decide (zc1 < (w.Net.Nodes.toNat : Int)))
 (decide ((zMY w zc1 w.Net.Nodes=true)) &&
 (decide ((0<=zc1/\zc1 < (zdn.len:Int))) &&
 (decide ((zc1.toNat < zdn.len)) &&
 (P0 (w64 (zc1+(1:Int))) (⟨zdn.len,(setT zc1.toNat (zF4 w zc1 w.Net.Nodes) zdn.get)⟩:Sl (Sl Tab))))))
 (zx7 w zdn))
def zya (w:web):Nat->Int->(Sl (Sl Tab))->(Sl step):=lpO (λ _ _=>default) (zx8 w)
def zyb (w:web):Nat->Int->(Sl (Sl Tab))->Bool:=lpO (λ _ _=>false) (zx9 w)
def zyc (w:web) (zc1:Int) (zdn:(Sl (Sl Tab))):(Sl step):=zya w Fuel zc1 zdn
def zyd (w:web) (zc1:Int) (zdn:(Sl (Sl Tab))):Bool:=zyb w Fuel zc1 zdn
theorem zGr (hs:zyd w zc1 zdn=true) (hk:K (e89 (zyc w zc1 zdn))) (zrb:zf9=zg zcX zdn):z89 K [1,0,1,0,1,0] [] (zDU w zc1 zdn zf9) :=
  zl (λ X=>z89 K [1,0,1,0,1,0,0] [X]) (by kernel_rfl) λ X0 hX =>
  (show ∀ k, zKt K w X0 (zyb w k) (zya w k) from zeH _ _ (zx9 w) (zx8 w) (zKt K w X0)
 (by intro _ _ _ hs;exact absurd hs dqk)
 (by intro P0 S0 hX0 zc1 zdn zf9 hs hk zrb;subst zrb;exact hX _ (zaW (by kernel_rfl) (zc hs hk (λ hs hk=>(zaI hs λ hc hs=>And.intro (And.intro (zE enc_40 4 w.Net.Ties.get) (And.intro (rfl:((false,1,false,[none]):MQ)=(false,1,false,[none])) hc)) (zaI hs λ hc hs=>And.intro hc (zaI hs λ hc hs=>And.intro hc (hX0 hs hk (zfU (enc:=zcX) (i:=zc1.toNat) (k:=0) (f:=zdn.get) (new:=(zcX (zF4 w zc1 w.Net.Nodes))) (v:=(zF4 w zc1 w.Net.Nodes)) rfl rfl)))))) (λ hs hk=>(zGp hs hk rfl)))))) _ hs hk zrb
def s89 (w:web):(Sl step) :=
  (zyc w (0:Int) (⟨w.Net.Nodes.toNat,(λ _=>(⟨0,λ _=>(λ _=>(0:Int))⟩:(Sl Tab)))⟩:Sl (Sl Tab)))
def p89 (w:web):Bool :=
  (decide ((0<=w.Net.Nodes/\w.Net.Nodes=w.Net.Nodes/\w.Net.Nodes<=1000000)) &&
 (zyd w (0:Int) (⟨w.Net.Nodes.toNat,(λ _=>(⟨0,λ _=>(λ _=>(0:Int))⟩:(Sl Tab)))⟩:Sl (Sl Tab))))
end
theorem q89 (w:web) (K:List PA->Prop) (hs:p89 w=true) (hk:K (e89 (s89 w))):vcFun Tryd.prog G89 zxD 89 [.one (.fp (zaE w) 0)] K :=
  zaW (by kernel_rfl) (zaI hs λ hc hs=>And.intro hc (zGr hs hk rfl))
def zCA : List PA → COut
  | [.one (.fp [.int .i64 zat,.sl zan zaK zao,.fm zbz zaL zaM] 0)]=>.det (IsE enc_40 4 zaK zao/\zbz=(false,1,false,[none])/\p89 (⟨(⟨zat,(⟨zan,zai zao⟩:(Sl Tie))⟩:Net),(⟨zaL,zaM⟩:Mp)⟩:web)=true) [.one (.sl ((s89 (⟨(⟨zat,(⟨zan,zai zao⟩:(Sl Tie))⟩:Net),(⟨zaL,zaM⟩:Mp)⟩:web)).len) 5 (λ i=>zaB ((s89 (⟨(⟨zat,(⟨zan,zai zao⟩:(Sl Tie))⟩:Net),(⟨zaL,zaM⟩:Mp)⟩:web)).get i)))]
  | _=>.no
theorem zKw:zav Tryd.prog 89:=⟨_,rfl,rfl,by kernel_rfl⟩
theorem zOh:Ok Tryd.prog 89 zCA:=zbx zM9 zKw λ args K h=>by
  unfold zCA at h
  split at h
  · rename_i zat zan zaK zao zbz zaL zaM
    obtain⟨⟨⟨rfl,zaA,rfl⟩,rfl,hs⟩,hk⟩:=h
    try rw[zaj zaA] at hs
    try rw[zaj zaA] at hk
    exact⟨(λ _ _=>[]),(λ _=>false),zxD,q89 (⟨(⟨zat,(⟨zan,zaA⟩:(Sl Tie))⟩:Net),(⟨zaL,zaM⟩:Mp)⟩:web) K hs hk⟩
  · exact h.elim
end Go.Proofs
/-
  DERIVED: THE SHELF's CONTRACTS AT THIS DUMP,IN PLAIN WORDS (tools/lay-plain.mjs out of 'YtedhjaaikeakoaaDoorPmLk.lean',which tools/lay-shelf.mjs wrote): THE SAME DECLARATIONS UNDER THE SAME NAMES: 'import','namespace','open','def','theorem' AND NOTHING ELSE: no command of the shelf's: FOR A HAND-IN. Each laying: the table of numbers ('.._ren') and one theorem,a field a fact of the dump's own or the kernel's comparison;each contract: ONE APPLICATION.
-/
namespace Go.Proofs
open Go.Shelf
def Tryd.keysA_ren:Go.Shelf.Ren:=⟨fun | 7=>103 | 10=>117 | n=>n,fun | 23=>103 | 26=>3 | 3=>4 | 28=>152 | 0=>0 | 27=>151 | 33=>169 | 4=>4 | n=>n,fun | n=>n⟩
theorem Tryd.keysA : Go.Proofs.SlLaysZI.n7 Tryd.prog Tryd.keysA_ren := {
  mixed:=by kernel_rfl
  f7:=⟨Tryd.f103.name,by decide,Tryd.func103.trans (congrArg some (by kernel_rfl))⟩
  f10:=⟨Tryd.f117.name,by decide,Tryd.func117.trans (congrArg some (by kernel_rfl))⟩
  t0:=Tryd.underlying0
  a0:=Tryd.isAgg0
  z0:=Tryd.sizeOf0
  v0:=Tryd.zeroValue0
  t4:=Tryd.underlying4
  a4:=Tryd.isAgg4
  z4:=Tryd.sizeOf4
  v4:=Tryd.zeroValue4
  t23:=Tryd.underlying103
  a23:=Tryd.isAgg103
  z23:=Tryd.sizeOf103
  v23:=Tryd.zeroValue103
  t26:=Tryd.underlying3
  a26:=Tryd.isAgg3
  z26:=Tryd.sizeOf3
  v26:=Tryd.zeroValue3
  t27:=Tryd.underlying151
  a27:=Tryd.isAgg151
  z27:=Tryd.sizeOf151
  v27:=Tryd.zeroValue151
  t28:=Tryd.underlying152
  a28:=Tryd.isAgg152
  z28:=Tryd.sizeOf152
  v28:=Tryd.zeroValue152
  t33:=Tryd.underlying169
  a33:=Tryd.isAgg169
  z33:=Tryd.sizeOf169
  v33:=Tryd.zeroValue169 }
def Tryd.sortedA_ren:Go.Shelf.Ren:=⟨fun | 6=>102 | 8=>115 | 9=>116 | 11=>129 | 13=>113 | 12=>130 | 23=>127 | 24=>128 | 14=>136 | 15=>137 | 16=>138 | 17=>139 | 18=>140 | 19=>141 | 20=>142 | 21=>143 | 22=>144 | 25=>146 | 26=>132 | 27=>133 | 28=>147 | 29=>148 | 30=>114 | 31=>149 | n=>n,fun | 26=>3 | 28=>152 | 24=>27 | 0=>0 | 3=>3 | 37=>168 | 48=>182 | 50=>184 | 4=>4 | 40=>175 | 39=>174 | 45=>179 | 5=>5 | 9=>9 | 51=>187 | 55=>191 | 57=>199 | 58=>200 | 33=>169 | n=>n,fun | n=>n⟩
theorem Tryd.sortedA : Go.Proofs.SlLaysZI.n6 Tryd.prog Tryd.sortedA_ren := {
  mixed:=by kernel_rfl
  f6:=⟨Tryd.f102.name,by decide,Tryd.func102.trans (congrArg some (by kernel_rfl))⟩
  f8:=⟨Tryd.f115.name,by decide,Tryd.func115.trans (congrArg some (by kernel_rfl))⟩
  f11:=⟨Tryd.f129.name,by decide,Tryd.func129.trans (congrArg some (by kernel_rfl))⟩
  t0:=Tryd.underlying0
  a0:=Tryd.isAgg0
  z0:=Tryd.sizeOf0
  v0:=Tryd.zeroValue0
  t24:=Tryd.underlying27
  a24:=Tryd.isAgg27
  z24:=Tryd.sizeOf27
  v24:=Tryd.zeroValue27
  t26:=Tryd.underlying3
  a26:=Tryd.isAgg3
  z26:=Tryd.sizeOf3
  v26:=Tryd.zeroValue3
  t28:=Tryd.underlying152
  a28:=Tryd.isAgg152
  z28:=Tryd.sizeOf152
  v28:=Tryd.zeroValue152
  i26:=by kernel_rfl }
def Tryd.sortA_ren:Go.Shelf.Ren:=⟨fun | 5=>116 | 8=>113 | 7=>130 | 19=>127 | 20=>128 | 10=>136 | 11=>137 | 12=>138 | 13=>139 | 14=>140 | 15=>141 | 16=>142 | 17=>143 | 18=>144 | 30=>146 | 31=>132 | 32=>133 | 33=>147 | 34=>148 | 35=>114 | 40=>149 | n=>n,fun | 23=>27 | 25=>3 | 3=>3 | 32=>168 | 22=>27 | 0=>0 | 44=>182 | 46=>184 | 4=>4 | 36=>175 | 35=>174 | 41=>179 | 5=>5 | 9=>9 | 53=>187 | 57=>191 | 63=>199 | 64=>200 | n=>n,fun | n=>n⟩
theorem Tryd.sortA : Go.Proofs.SlLaysM.n5 Tryd.prog Tryd.sortA_ren := {
  mixed:=by kernel_rfl
  f5:=⟨Tryd.f116.name,by decide,Tryd.func116.trans (congrArg some (by kernel_rfl))⟩
  f7:=⟨Tryd.f130.name,by decide,Tryd.func130.trans (congrArg some (by kernel_rfl))⟩
  f8:=Tryd.func113.trans (congrArg some (by kernel_rfl))
  f10:=⟨Tryd.f136.name,by decide,Tryd.func136.trans (congrArg some (by kernel_rfl))⟩
  f11:=⟨Tryd.f137.name,by decide,Tryd.func137.trans (congrArg some (by kernel_rfl))⟩
  f12:=⟨Tryd.f138.name,by decide,Tryd.func138.trans (congrArg some (by kernel_rfl))⟩
  f13:=⟨Tryd.f139.name,by decide,Tryd.func139.trans (congrArg some (by kernel_rfl))⟩
  f14:=⟨Tryd.f140.name,by decide,Tryd.func140.trans (congrArg some (by kernel_rfl))⟩
  f15:=⟨Tryd.f141.name,by decide,Tryd.func141.trans (congrArg some (by kernel_rfl))⟩
  f16:=⟨Tryd.f142.name,by decide,Tryd.func142.trans (congrArg some (by kernel_rfl))⟩
  f17:=⟨Tryd.f143.name,by decide,Tryd.func143.trans (congrArg some (by kernel_rfl))⟩
  f18:=⟨Tryd.f144.name,by decide,Tryd.func144.trans (congrArg some (by kernel_rfl))⟩
  f19:=Tryd.func127.trans (congrArg some (by kernel_rfl))
  f20:=Tryd.func128.trans (congrArg some (by kernel_rfl))
  f30:=⟨Tryd.f146.name,by decide,Tryd.func146.trans (congrArg some (by kernel_rfl))⟩
  f31:=Tryd.func132.trans (congrArg some (by kernel_rfl))
  f32:=Tryd.func133.trans (congrArg some (by kernel_rfl))
  f33:=⟨Tryd.f147.name,by decide,Tryd.func147.trans (congrArg some (by kernel_rfl))⟩
  f34:=⟨Tryd.f148.name,by decide,Tryd.func148.trans (congrArg some (by kernel_rfl))⟩
  f35:=⟨Tryd.f114.name,by decide,Tryd.func114.trans (congrArg some (by kernel_rfl))⟩
  f40:=⟨Tryd.f149.name,by decide,Tryd.func149.trans (congrArg some (by kernel_rfl))⟩
  t0:=Tryd.underlying0
  a0:=Tryd.isAgg0
  z0:=Tryd.sizeOf0
  v0:=Tryd.zeroValue0
  t3:=Tryd.underlying3
  a3:=Tryd.isAgg3
  z3:=Tryd.sizeOf3
  v3:=Tryd.zeroValue3
  t4:=Tryd.underlying4
  a4:=Tryd.isAgg4
  z4:=Tryd.sizeOf4
  v4:=Tryd.zeroValue4
  t5:=Tryd.underlying5
  a5:=Tryd.isAgg5
  z5:=Tryd.sizeOf5
  v5:=Tryd.zeroValue5
  t9:=Tryd.underlying9
  a9:=Tryd.isAgg9
  z9:=Tryd.sizeOf9
  v9:=Tryd.zeroValue9
  t22:=Tryd.underlying27
  a22:=Tryd.isAgg27
  z22:=Tryd.sizeOf27
  v22:=Tryd.zeroValue27
  t23:=Tryd.underlying27
  a23:=Tryd.isAgg27
  z23:=Tryd.sizeOf27
  v23:=Tryd.zeroValue27
  t25:=Tryd.underlying3
  a25:=Tryd.isAgg3
  z25:=Tryd.sizeOf3
  v25:=Tryd.zeroValue3
  t32:=Tryd.underlying168
  a32:=Tryd.isAgg168
  z32:=Tryd.sizeOf168
  v32:=Tryd.zeroValue168
  t35:=Tryd.underlying174
  a35:=Tryd.isAgg174
  z35:=Tryd.sizeOf174
  v35:=Tryd.zeroValue174
  t36:=Tryd.underlying175
  a36:=Tryd.isAgg175
  z36:=Tryd.sizeOf175
  v36:=Tryd.zeroValue175
  t41:=Tryd.underlying179
  a41:=Tryd.isAgg179
  z41:=Tryd.sizeOf179
  v41:=Tryd.zeroValue179
  t44:=Tryd.underlying182
  a44:=Tryd.isAgg182
  z44:=Tryd.sizeOf182
  v44:=Tryd.zeroValue182
  t46:=Tryd.underlying184
  a46:=Tryd.isAgg184
  z46:=Tryd.sizeOf184
  v46:=Tryd.zeroValue184
  t53:=Tryd.underlying187
  a53:=Tryd.isAgg187
  z53:=Tryd.sizeOf187
  v53:=Tryd.zeroValue187
  t57:=Tryd.underlying191
  a57:=Tryd.isAgg191
  z57:=Tryd.sizeOf191
  v57:=Tryd.zeroValue191
  t63:=Tryd.underlying199
  a63:=Tryd.isAgg199
  z63:=Tryd.sizeOf199
  v63:=Tryd.zeroValue199
  t64:=Tryd.underlying200
  a64:=Tryd.isAgg200
  z64:=Tryd.sizeOf200
  v64:=Tryd.zeroValue200 }
end Go.Proofs
namespace Go.Pm
open Go.RowKit Go.Maps Go.Sort Go.Shelf Go.Proofs
set_option maxRecDepth 100000

theorem zlh {F : List Int → Option (List Int)} : ∀ (f : Nat) (i : Int) (n : Nat) (l : List Int), zvd F f i n = some l → l.length = n ∧ (∀ x ∈ l, F [x] ≠ none ∧ i ≤ x ∧ x < i + f) ∧ l.Pairwise (· < ·)
  | _,_,0,l,h=>by simp[zvd] at h;subst h;exact⟨rfl,λ x hx=>by simp at hx,List.Pairwise.nil⟩
  | 0,_,n+1,l,h=>by simp[zvd] at h
  | f+1,i,n+1,l,h=>by
    simp only[zvd] at h
    split at h
    · rename_i v hv
      split at h
      · rename_i r hr
        simp only[dqa] at h;subst h
        obtain⟨h1,h2,h3⟩:=zlh f (i+1) n r hr
        refine⟨by simp[h1],λ x hx=>?_,List.pairwise_cons.2 ⟨λ x hx=>by have:=h2 x hx;omega,h3⟩⟩
        rcases dqq.1 hx with rfl | hx
        · exact⟨by rw[hv];simp,by omega,by omega⟩
        · have:=h2 x hx;exact⟨this.1,by omega,by omega⟩
      · cases h
    · obtain ⟨h1, h2, h3⟩ := zlh f (i + 1) (n + 1) l h
      exact⟨h1,λ x hx=>by have:=h2 x hx;exact⟨this.1,by omega,by omega⟩,h3⟩
theorem zli {α : Type} [DecidableEq α] : ∀ {l m : List α}, l.Nodup → (∀ x ∈ l, x ∈ m) → m.length ≤ l.length → l.Perm m
  | [],m,_,_,h=>by
    have:m=[]:=List.eq_nil_of_length_eq_zero (by simpa using h)
    subst this;exact .refl _
  | a :: l,m,hn,hs,h=>by
    obtain⟨h1,h2⟩:=List.nodup_cons.1 hn
    have ha:=hs a dqj
    have hp:=List.perm_cons_erase ha
    refine (List.Perm.cons a (zli h2 (λ x hx=>?_) ?_)).trans hp.symm
    · exact (List.mem_erase_of_ne (λ e=>h1 (by rw[<- e];exact hx))).2 (hs x (dqf _ hx))
    · have := hp.length_eq
      simp at this h
      omega

theorem zCB:zou Tryd.prog 103 (.keys 117):=λ w mb=>by
 refine⟨⟨_,rfl,rfl,by kernel_rfl⟩,?_⟩
 have c:CallsIn Fence.wide 5 Tryd.prog 103 #[.map (some mb)] w λ e w'=>e=.returned (.func (.func 117) #[] #[.pointer (some ⟨w.heap.size,0,none⟩)])/\w'=w.alloc (.cells #[.map (some mb)] 103):=AnyZI.keys_in Tryd.keysA Fence.wide 5 trivial rfl (some mb) w
 refine ((callsIn_wide (n:=5)).1 c).mono ?_
 rintro e w' ⟨rfl,rfl⟩
 exact⟨rfl,_,rfl⟩
theorem sortsA (m:Nat):AnyZI.SortsIn Tryd.prog Tryd.sortedA_ren Fence.wide m :=
  ⟨λ blk off cap ss W hH hblk hsz=>callsIn_wide.2 (AnyM.slices_Sort_int Tryd.sortA blk off cap ss W hH hblk hsz),
   λ p cap W=>callsIn_wide.2 (AnyM.slices_Sort_int_none Tryd.sortA p cap W)⟩

def rdN:Value->Option (DataW Unit×List MemPlace):=λ _=>some (.nil,[])
theorem zu1:zou Tryd.prog 102 (.sorted 117):=λ w h k mb C ty fr es clock vt q n F hw hk hC hb hE hm hn hky=>by
 refine⟨⟨_,rfl,rfl,by kernel_rfl⟩,?_⟩
 obtain⟨en,M⟩:=hm
 have E:=zg4 hE
 have hq1:q.1=false:=by
  have e:=E.kag
  rw[show zeY Tryd.prog 3=some false by kernel_rfl] at e
  exact (Option.some.inj e).symm
 have hq2:q.2.1=1:=by
  have e:=E.key
  rw[show zdZ Tryd.prog 8 3=some 1 by kernel_rfl] at e
  exact (Option.some.inj e).symm
 obtain⟨l,hl⟩:=Option.isSome_iff_exists.1 hky
 have hll:zve F n=l:=by unfold zve;rw[hl];rfl
 obtain⟨l1,l2,l3⟩:=zlh _ _ _ _ hl
 rw[hll]
 have one:∀ x∈en,x.1=[x.1.headD 0]:=λ x hx=>by
  have:=(M.len x hx).1
  rw[hq2] at this
  match x.1,this with
  | [a],_=>rfl
 have hkeys:es.toList.map (·.key)=(en.map λ x=>x.1.headD 0).map encZ:=by
  have:=congrArg (List.map Prod.fst) M.ents
  simp only[List.map_map] at this ⊢
  refine (show es.toList.map (·.key)=_ from this).trans (List.map_congr_left λ x hx=>?_)
  show zbC q.1 x.1=encZ (x.1.headD 0)
  rw[hq1];rfl
 have hkn:(en.map λ x=>x.1.headD 0).Nodup:=by
  have:(en.map (·.1))=(en.map λ x=>x.1.headD 0).map λ a=>[a]:=by
   rw[List.map_map];exact List.map_congr_left λ x hx=>one x hx
  have hd:=M.nodup
  rw[this] at hd
  exact (List.pairwise_map.1 hd).imp λ h e=>h (by rw[e])
 have hperm:l.Perm (en.map λ x=>x.1.headD 0):=by
  refine zli (l3.imp λ h=>Int.ne_of_lt h) (λ x hx=>?_) (by rw[List.length_map,<- M.size,l1];exact dqt _)
  have h1:=(l2 x hx).1
  rw[M.find [x] (by rw[hq2];rfl)] at h1
  by_cases hex:∃ y∈en,y.1=[x]
  ·obtain ⟨y, hy, e⟩ := hex
   exact dqz.2 ⟨y,hy,by rw[e];rfl⟩
  ·exact absurd (zgP λ y hy e=>hex ⟨y,hy,e⟩) h1
 have hread:∀ x∈es.toList,∃ a:Int,x.key=encZ a/\keyOf Tryd.prog 3 x.key=some (.int .i64 a):=λ x hx=>by
  have hm:x.key∈es.toList.map (·.key):=dqz.2 ⟨x,hx,rfl⟩
  rw[hkeys] at hm
  obtain⟨a,ha,e⟩:=dqz.1 hm
  have hb:=(l2 a (hperm.mem_iff.2 ha)).2
  refine⟨a,e.symm,?_⟩
  rw[<- e]
  have hu:Tryd.prog.underlying 3=some (.int .i64):=Tryd.underlying3
  have hwf:(Lit.int .i64 a).wf=true:=by
   simp only[Lit.wf,dqm,decide_eq_true_eq]
   have e1:IntKind.i64.min = -9223372036854775808:=by decide
   have e2:IntKind.i64.max=9223372036854775807:=by decide
   rw[e1,e2]
   have:=hb.2
   omega
  simp[keyOf,mapKey,hu,hwf]
 have hsize:es.size=n:=by
  have:=congrArg List.length M.ents
  simp at this
  rw[this,M.size]
 have hst:MapKept.Stamped es clock:=⟨M.born,M.bornN,by rw[hkeys];exact List.pairwise_map.2 (hkn.imp λ h e=>h (encZ_inj e))⟩
 have hown:w.ownsMap Tryd.prog 3 rdN mb n (.map ((es.toList.map (WideElems.rg Tryd.prog 3 rdN)).foldr DataW.insert [])) :=
  ⟨es,clock,hb,⟨by rw[hsize];exact dqE hn (by decide),hst,λ x hx=>by
   obtain⟨a,e1,e2⟩:=hread x hx
   exact⟨(.int .i64 a,.nil),by simp only[WideElems.rd,e2,rdN,Option.bind_some,Option.map_some]⟩⟩,by omega,rfl⟩
 have hik:(intKeys (.map ((es.toList.map (WideElems.rg Tryd.prog 3 rdN)).foldr DataW.insert []))).Perm l:=by
  show (((es.toList.map (WideElems.rg Tryd.prog 3 rdN)).foldr DataW.insert []).map λ p=>intOf p.1).Perm l
  refine ((WideShapes.sorted_perm _).map _).trans (List.Perm.trans (List.Perm.of_eq ?_) hperm.symm)
  rw[List.map_map]
  have e:(en.map λ x=>x.1.headD 0)=es.toList.map λ x=>intOf ((keyOf Tryd.prog 3 x.key).getD (.bool false)):=by
   have h1:(en.map λ x=>x.1.headD 0)=((en.map λ x=>x.1.headD 0).map encZ).map λ v=>match v with | .int _ a=>a | _=>0:=by
    rw[List.map_map];exact (List.map_id _).symm
   rw[h1,<- hkeys,List.map_map]
   refine List.map_congr_left λ x hx=>?_
   obtain⟨a,e1,e2⟩:=hread x hx
   simp only[Function.comp,e2]
   rw[e1];rfl
  rw[e]
  refine List.map_congr_left λ x hx=>?_
  obtain⟨a,e1,e2⟩:=hread x hx
  simp only[Function.comp,WideElems.rg,WideElems.rd,e2,rdN,Option.bind_some,Option.map_some,Option.getD_some]
 have hsz:Maps.size (DataW.map ((es.toList.map (WideElems.rg Tryd.prog 3 rdN)).foldr DataW.insert []):DataW Unit)=n:=by
  show List.length _=n
  rw[(WideShapes.sorted_perm _).length_eq];simp[hsize]
 have hlt:k < w.heap.size:=hw.lt hk
 have hcell:w.cell? ⟨k,0,none⟩=some (.map (some mb)):=by
  have:=hw.fz hk
  simp[World.cell?,this,hC]
 have hseq:SeqGives Fence.wide 2 Tryd.prog 117 #[.pointer (some ⟨k,0,none⟩)] encZ (λ ss=>ss.Perm (intKeys _)) (Maps.size _) w :=
  AnyZI.keys_gives (ρ:=Tryd.keysA_ren) { Tryd.keysA with } Fence.wide _ trivial rfl (by omega) k mb n _ w hlt hcell hown
 have cS:=AnyZI.sorted_in Tryd.sortedA Fence.wide 5 trivial trivial trivial trivial rfl (by omega) (sortsA _) (enters_of Tryd.func116 (by kernel_rfl) rfl) 117 #[.pointer (some ⟨k,0,none⟩)] trivial (enters_of Tryd.func117 (by kernel_rfl) rfl) _ _ (by rw[hsz];exact dqE hn (by decide)) (by rw[hsz];omega) _ hseq
 change CallsIn _ _ Tryd.prog 102 _ _ _ at cS
 refine ((callsIn_wide (n:=5)).1 cS).mono ?_
 rintro e w' ⟨v,ss,rfl,hS,hrow,_,hbel⟩
 refine⟨v,rfl,?_,⟨hbel,Nat.zero_le _⟩⟩
 have hsl:ss.mergeSort (λ x y=>decide (x<=y))=l:=by
  rw[show ss.mergeSort (λ x y=>decide (x<=y))=l.mergeSort leI from mergeSort_of_perm_i (hS.trans hik)]
  exact List.mergeSort_of_pairwise (l3.imp λ h=>by simp only[leI,decide_eq_true_eq];exact Int.le_of_lt h)
 have hlen:ss.length=n:=by rw[(hS.trans hik).length_eq,l1]
 rw[hsl,hlen] at hrow
 exact hrow
end Go.Pm
namespace Go.Proofs
open Go Go.Pm
set_option maxRecDepth 100000
set_option linter.unusedVariables false
attribute [local irreducible] Go.Pm.vcFun Go.Pm.vc Go.Pm.vcIter
abbrev zDZ:OwnK:=.sorted 117
theorem zNa:zou Tryd.prog 102 zDZ:=zu1
abbrev zD0:OwnK:=.keys 117
theorem zNb:zou Tryd.prog 103 zD0:=zCB
structure Rec69 where
  S:web->Int->((Sl (Sl Int))×web)
  P:web->Int->Bool
class Slf69 where
  r:Rec69
section
variable [Slf69]
def zye : MK
  | [.box 105 [.p (.int .i64 zay),.p (.sl zau zbF zas),.mo 3 4 zdw zaT zaU],.d (.one (.int .i64 b1))]=>some (IsE enc_40 4 zbF zas/\zdw=(false,1,false,[none])/\Slf69.r.P (⟨(⟨zay,(⟨zau,zai zas⟩:(Sl Tie))⟩:Net),(⟨zaT,zaU⟩:Mp)⟩:web) b1=true,[.one (.sl (((Slf69.r.S (⟨(⟨zay,(⟨zau,zai zas⟩:(Sl Tie))⟩:Net),(⟨zaT,zaU⟩:Mp)⟩:web) b1).1).len) 1 (λ i=>zbH (((Slf69.r.S (⟨(⟨zay,(⟨zau,zai zas⟩:(Sl Tie))⟩:Net),(⟨zaT,zaU⟩:Mp)⟩:web) b1).1).get i)))],[.box 105 [.p (.int .i64 (((Slf69.r.S (⟨(⟨zay,(⟨zau,zai zas⟩:(Sl Tie))⟩:Net),(⟨zaT,zaU⟩:Mp)⟩:web) b1).2).Net.Nodes)),.p (.sl (((Slf69.r.S (⟨(⟨zay,(⟨zau,zai zas⟩:(Sl Tie))⟩:Net),(⟨zaT,zaU⟩:Mp)⟩:web) b1).2).Net.Ties.len) 4 (λ i=>enc_40 (((Slf69.r.S (⟨(⟨zay,(⟨zau,zai zas⟩:(Sl Tie))⟩:Net),(⟨zaT,zaU⟩:Mp)⟩:web) b1).2).Net.Ties.get i))),.mo 3 4 (false,1,false,[none]) ((((Slf69.r.S (⟨(⟨zay,(⟨zau,zai zas⟩:(Sl Tie))⟩:Net),(⟨zaT,zaU⟩:Mp)⟩:web) b1).2).out).n) ((((Slf69.r.S (⟨(⟨zay,(⟨zau,zai zas⟩:(Sl Tie))⟩:Net),(⟨zaT,zaU⟩:Mp)⟩:web) b1).2).out).F)],.d (.one (.int .i64 b1))])
  | _=>none
abbrev T69:Tabs:=(((((Tabs.nil.addF 88 zw9).addF 89 zCA).addO 102 zDZ).addO 103 zD0).addM 69 zye)
theorem zNc (hself:zjL Tryd.prog 69 zye):TabsOk Tryd.prog T69:=(((((TabsOk.nil.addF zMR).addF zOh).addO zNa).addO zNb).addM hself)
abbrev zCC:Ctrs:=csm T69 (λ _ _=>[]) (λ _=>false)
def zfC:Ann:=⟨57,[(0,zK [0,1] [0,12288]),(1,zK [0,1,10] [0,12288]),(2,zK [0,4] [0,17,12288]),(3,zK [0,1,19] [0,12288]),(4,zK [0,4] [0,12288]),(5,zK [0,1,5] [0,12288]),(6,zK [0,1,5,21,22,23] [0,12288]),(7,zK [0,1,5,21,22,23,24] [0,47,12288]),(8,zK [0,1,5,7,21,22,23] [0,7,47,12288]),(9,zK [0,1,5,7,21,22,23,34] [0,7,47,12288]),(10,zK [0,1,5,7,21,22,23] [0,7,47,12288]),(11,zK [0,1,5,7,21,22,23] [0,7,47,12288]),(12,zK [0,1,5,21,22,23] [0,47,12288]),(13,zK [0,1,5,21,22,23] [0,47,12288]),(14,zK [0,4] [0,47,12288])],
 [(7,⟨[0,1,5,21,22,23],[0,47,12288],[(5,47,27,λ _=>zbH default)],[],[],[],[]⟩)],
 [],
 [],[]⟩
def zgc (w:web) (left:Int) (zaD:Int) (za2:Int) (zgd:Nat) (zcp:Nat->List PV) (zge:Nat) (zcq:Nat->List PV) (zah:Nat) (zab:(List Int->Option (List Int))):St:=⟨[(0,.one (.c (.ptr 0 0))),(1,.one (.c (.p (.int .i64 left)))),(5,.one (.c (.vec 47))),(21,.one (.c (.p (.sl ((s89 w).len) 5 (λ i=>zaB ((s89 w).get i)))))),(22,.one (.c (.p (.int .i64 ((s89 w).len:Int))))),(23,.one (.c (.p (.int .i64 zaD))))],[(0,.box 105 [.p (.int .i64 za2),.p (.sl zgd 4 zcp),.mo 12288]),(47,.vec 27 1 24 zge zcq),(12288,.mo 3 4 (false,1,false,[none]) zah zab)],[]⟩
def zh7 (K:List PA×List XA->Prop) (w:web) (left:Int) (zaD:Int) (za2:Int) (zgd:Nat) (zcp:Nat->List PV) (zge:Nat) (zcq:Nat->List PV) (zah:Nat) (zab:(List Int->Option (List Int))):Prop:=vc Tryd.prog zCC zfC (cdF Tryd.f69 [1,1,1,1,0,1,0]) (zfy 0 (sqK Tryd.prog zCC zfC (cdF Tryd.f69 [1,1,1,1,1]) (zlE Tryd.prog Tryd.f69 [.box 105 [.p (.int .i64 w.Net.Nodes),.p (.sl w.Net.Ties.len 4 (λ i=>enc_40 (w.Net.Ties.get i))),.mo 3 4 (false,1,false,[none]) w.out.n w.out.F],.d (.one (.int .i64 left))] (λ a b=>K (a,b))))) (zgc w left zaD za2 zgd zcp zge zcq zah zab)
theorem zCD (w : web) (left : Int) (K : List PA × List XA → Prop) :
  zkY Tryd.prog zCC zfC 69 [.box 105 [.p (.int .i64 w.Net.Nodes),.p (.sl w.Net.Ties.len 4 (λ i=>enc_40 (w.Net.Ties.get i))),.mo 3 4 (false,1,false,[none]) w.out.n w.out.F],.d (.one (.int .i64 left))] (λ a b=>K (a,b)) =
  ((IsE enc_40 4 4 (λ i=>enc_40 (w.Net.Ties.get i))/\((false,1,false,[none]):MQ)=(false,1,false,[none])/\(p88 w=true)) /\
 (zdN (!(s88 w))
 (((w.out.n<=1000000/\(zvd w.out.F 9223372036854775808 0 w.out.n).isSome=true)) /\
 (K ([.one (.sl 1 1 (λ _=>(zbH (⟨w.out.n,(λ i=>(zve w.out.F w.out.n).getD i 0)⟩:(Sl Int)))))],[.box 105 [.p (.int .i64 w.Net.Nodes),.p (.sl w.Net.Ties.len 4 (λ i=>enc_40 (w.Net.Ties.get i))),.mo 3 4 (false,1,false,[none]) w.out.n w.out.F],.d (.one (.int .i64 left))])))
 (zdN (left == (0:Int))
 (K ([.one (.nils)],[.box 105 [.p (.int .i64 w.Net.Nodes),.p (.sl w.Net.Ties.len 4 (λ i=>enc_40 (w.Net.Ties.get i))),.mo 3 4 (false,1,false,[none]) w.out.n w.out.F],.d (.one (.int .i64 left))]))
 (((∀ i,sc2 ((λ i=>zaB ((s89 w).get i)) i)=true)/\IsE enc_40 4 4 (λ i=>enc_40 (w.Net.Ties.get i))/\((false,1,false,[none]):MQ)=(false,1,false,[none])/\(p89 w=true)) /\
 (zh7 K w left (0:Int) w.Net.Nodes w.Net.Ties.len (λ i=>enc_40 (w.Net.Ties.get i)) 0 (λ i=>zbH ((λ _=>default) i)) w.out.n w.out.F))))):=by kernel_rfl
def zmj (K:List PA×List XA->Prop) (X0:St->Prop) (w:web) (left:Int) (zaD:Int) (za2:Int) (za5:(Sl Tie)) (zbw:(Sl (Sl Int))) (zah:Nat) (zab:(List Int->Option (List Int))):Prop :=
  (zdN (decide (zaD < ((s89 w).len : Int)))
 (((0<=zaD/\zaD < ((s89 w).len:Int))) /\
 (zdN ((zup (zab [((s89 w).get zaD.toNat).Use.Tie]) 0) != 0)
 (X0 (zgc w left (w64 (zaD+(1:Int))) za2 za5.len (λ i=>enc_40 (za5.get i)) zbw.len (λ i=>zbH (zbw.get i)) zah zab))
 ((IsE enc_40 4 4 (λ i=>enc_40 (za5.get i))/\((false,1,false,[none]):MQ)=(false,1,false,[none])/\(Slf69.r.P (⟨(⟨za2,za5⟩:Net),(⟨(addN (zab [((s89 w).get zaD.toNat).Use.Tie]) zah),(zd7 [((s89 w).get zaD.toNat).Use.Tie] [1] zab)⟩:Mp)⟩:web) (w64 (left - (1:Int)))=true)) /\
 ((((zbw.len+((Slf69.r.S (⟨(⟨za2,za5⟩:Net),(⟨(addN (zab [((s89 w).get zaD.toNat).Use.Tie]) zah),(zd7 [((s89 w).get zaD.toNat).Use.Tie] [1] zab)⟩:Mp)⟩:web) (w64 (left - (1:Int)))).1).len) * 24<=140737488355328/\zbw.len+((Slf69.r.S (⟨(⟨za2,za5⟩:Net),(⟨(addN (zab [((s89 w).get zaD.toNat).Use.Tie]) zah),(zd7 [((s89 w).get zaD.toNat).Use.Tie] [1] zab)⟩:Mp)⟩:web) (w64 (left - (1:Int)))).1).len<=9223372036854775807)) /\
 (X0 (zgc w left (w64 (zaD+(1:Int))) (((Slf69.r.S (⟨(⟨za2,za5⟩:Net),(⟨(addN (zab [((s89 w).get zaD.toNat).Use.Tie]) zah),(zd7 [((s89 w).get zaD.toNat).Use.Tie] [1] zab)⟩:Mp)⟩:web) (w64 (left - (1:Int)))).2).Net.Nodes) (((Slf69.r.S (⟨(⟨za2,za5⟩:Net),(⟨(addN (zab [((s89 w).get zaD.toNat).Use.Tie]) zah),(zd7 [((s89 w).get zaD.toNat).Use.Tie] [1] zab)⟩:Mp)⟩:web) (w64 (left - (1:Int)))).2).Net.Ties.len) (λ i=>enc_40 (((Slf69.r.S (⟨(⟨za2,za5⟩:Net),(⟨(addN (zab [((s89 w).get zaD.toNat).Use.Tie]) zah),(zd7 [((s89 w).get zaD.toNat).Use.Tie] [1] zab)⟩:Mp)⟩:web) (w64 (left - (1:Int)))).2).Net.Ties.get i)) (zbw.len+((Slf69.r.S (⟨(⟨za2,za5⟩:Net),(⟨(addN (zab [((s89 w).get zaD.toNat).Use.Tie]) zah),(zd7 [((s89 w).get zaD.toNat).Use.Tie] [1] zab)⟩:Mp)⟩:web) (w64 (left - (1:Int)))).1).len) (appG zbw.len (λ i=>zbH (zbw.get i)) (λ i=>zbH (((Slf69.r.S (⟨(⟨za2,za5⟩:Net),(⟨(addN (zab [((s89 w).get zaD.toNat).Use.Tie]) zah),(zd7 [((s89 w).get zaD.toNat).Use.Tie] [1] zab)⟩:Mp)⟩:web) (w64 (left - (1:Int)))).1).get i))) (zDj (((((Slf69.r.S (⟨(⟨za2,za5⟩:Net),(⟨(addN (zab [((s89 w).get zaD.toNat).Use.Tie]) zah),(zd7 [((s89 w).get zaD.toNat).Use.Tie] [1] zab)⟩:Mp)⟩:web) (w64 (left - (1:Int)))).2).out).F) [((s89 w).get zaD.toNat).Use.Tie]) ((((Slf69.r.S (⟨(⟨za2,za5⟩:Net),(⟨(addN (zab [((s89 w).get zaD.toNat).Use.Tie]) zah),(zd7 [((s89 w).get zaD.toNat).Use.Tie] [1] zab)⟩:Mp)⟩:web) (w64 (left - (1:Int)))).2).out).n)) (zBe [((s89 w).get zaD.toNat).Use.Tie] ((((Slf69.r.S (⟨(⟨za2,za5⟩:Net),(⟨(addN (zab [((s89 w).get zaD.toNat).Use.Tie]) zah),(zd7 [((s89 w).get zaD.toNat).Use.Tie] [1] zab)⟩:Mp)⟩:web) (w64 (left - (1:Int)))).2).out).F))))))))
 (K ([.one (.sl zbw.len 1 (λ i=>zbH (zbw.get i)))],[.box 105 [.p (.int .i64 za2),.p (.sl za5.len 4 (λ i=>enc_40 (za5.get i))),.mo 3 4 (false,1,false,[none]) zah zab],.d (.one (.int .i64 left))])))
theorem zpt (K : List PA × List XA → Prop) (X0 : St → Prop) (w : web) (left : Int) (zaD : Int) (za2 : Int) (za5 : (Sl Tie)) (zbw : (Sl (Sl Int))) (zah : Nat) (zab : (List Int → Option (List Int))) :
  vc Tryd.prog zCC zfC (cd (cdF Tryd.f69 [1,1,1,1,0,1,0]) [0]) (zuu Tryd.prog zfC 7 X0 (zfy 0 (sqK Tryd.prog zCC zfC (cdF Tryd.f69 [1,1,1,1,1]) (zlE Tryd.prog Tryd.f69 [.box 105 [.p (.int .i64 w.Net.Nodes),.p (.sl w.Net.Ties.len 4 (λ i=>enc_40 (w.Net.Ties.get i))),.mo 3 4 (false,1,false,[none]) w.out.n w.out.F],.d (.one (.int .i64 left))] (λ a b=>K (a,b)))))) (zgc w left zaD za2 za5.len (λ i=>enc_40 (za5.get i)) zbw.len (λ i=>zbH (zbw.get i)) zah zab) =
  zmj K X0 w left zaD za2 za5 zbw zah zab:=by kernel_rfl
theorem zu3 (K : List PA × List XA → Prop) (w : web) (left : Int) (zaD : Int) (za2 : Int) (zgd : Nat) (zcp : Nat → List PV) (zge : Nat) (zcq : Nat → List PV) (zah : Nat) (zab : (List Int → Option (List Int)))
  (h:∀ X0:St->Prop,(∀ (zaD:Int) (za2:Int) (za5:(Sl Tie)) (zbw:(Sl (Sl Int))) (zah:Nat) (zab:(List Int->Option (List Int))),zmj K X0 w left zaD za2 za5 zbw zah zab->X0 (zgc w left zaD za2 za5.len (λ i=>enc_40 (za5.get i)) zbw.len (λ i=>zbH (zbw.get i)) zah zab))->X0 (zgc w left zaD za2 zgd zcp zge zcq zah zab)) :
  zh7 K w left zaD za2 zgd zcp zge zcq zah zab:=by
  have e:zh7 K w left zaD za2 zgd zcp zge zcq zah zab=(∀ X:St->Prop,(∀ s,vc Tryd.prog zCC zfC (cd (cdF Tryd.f69 [1,1,1,1,0,1,0]) [0]) (zuu Tryd.prog zfC 7 X (zfy 0 (sqK Tryd.prog zCC zfC (cdF Tryd.f69 [1,1,1,1,1]) (zlE Tryd.prog Tryd.f69 [.box 105 [.p (.int .i64 w.Net.Nodes),.p (.sl w.Net.Ties.len 4 (λ i=>enc_40 (w.Net.Ties.get i))),.mo 3 4 (false,1,false,[none]) w.out.n w.out.F],.d (.one (.int .i64 left))] (λ a b=>K (a,b)))))) s->X s)->X (zgc w left zaD za2 zgd zcp zge zcq zah zab)):=by kernel_rfl
  refine zaW e ?_
  intro X hX
  refine h X ?_
  intro zaD za2 za5 zbw zah zab hs
  refine hX _ ?_
  have e2:=zpt K X w left zaD za2 za5 zbw zah zab
  rw[e2]
  exact hs
abbrev zD1 (left:Int) (r:((Sl (Sl Int))×web)):List PA×List XA:=([.one (.sl r.1.len 1 (λ i=>zbH (r.1.get i)))],[.box 105 [.p (.int .i64 r.2.Net.Nodes),.p (.sl r.2.Net.Ties.len 4 (λ i=>enc_40 (r.2.Net.Ties.get i))),.mo 3 4 (false,1,false,[none]) r.2.out.n r.2.out.F],.d (.one (.int .i64 left))])
attribute [irreducible] zh7
def znD (w:web) (left:Int) (S0:Int->Int->(Sl Tie)->(Sl (Sl Int))->Nat->(List Int->Option (List Int))->((Sl (Sl Int))×web)) (zaD:Int) (za2:Int) (za5:(Sl Tie)) (zbw:(Sl (Sl Int))) (zah:Nat) (zab:(List Int->Option (List Int))):((Sl (Sl Int))×web) :=
  (cond (decide (zaD < ((s89 w).len : Int)))
 (cond ((zup (zab [((s89 w).get zaD.toNat).Use.Tie]) 0) != 0)
 (S0 (w64 (zaD+(1:Int))) za2 za5 zbw zah zab)
 (S0 (w64 (zaD+(1:Int))) (((Slf69.r.S (⟨(⟨za2,za5⟩:Net),(⟨(addN (zab [((s89 w).get zaD.toNat).Use.Tie]) zah),(zd7 [((s89 w).get zaD.toNat).Use.Tie] [1] zab)⟩:Mp)⟩:web) (w64 (left - (1:Int)))).2).Net.Nodes) (((Slf69.r.S (⟨(⟨za2,za5⟩:Net),(⟨(addN (zab [((s89 w).get zaD.toNat).Use.Tie]) zah),(zd7 [((s89 w).get zaD.toNat).Use.Tie] [1] zab)⟩:Mp)⟩:web) (w64 (left - (1:Int)))).2).Net.Ties) (⟨(zbw.len+((Slf69.r.S (⟨(⟨za2,za5⟩:Net),(⟨(addN (zab [((s89 w).get zaD.toNat).Use.Tie]) zah),(zd7 [((s89 w).get zaD.toNat).Use.Tie] [1] zab)⟩:Mp)⟩:web) (w64 (left - (1:Int)))).1).len),(zdm zbw.len zbw.get ((Slf69.r.S (⟨(⟨za2,za5⟩:Net),(⟨(addN (zab [((s89 w).get zaD.toNat).Use.Tie]) zah),(zd7 [((s89 w).get zaD.toNat).Use.Tie] [1] zab)⟩:Mp)⟩:web) (w64 (left - (1:Int)))).1).get)⟩:Sl (Sl Int)) (zDj (((((Slf69.r.S (⟨(⟨za2,za5⟩:Net),(⟨(addN (zab [((s89 w).get zaD.toNat).Use.Tie]) zah),(zd7 [((s89 w).get zaD.toNat).Use.Tie] [1] zab)⟩:Mp)⟩:web) (w64 (left - (1:Int)))).2).out).F) [((s89 w).get zaD.toNat).Use.Tie]) ((((Slf69.r.S (⟨(⟨za2,za5⟩:Net),(⟨(addN (zab [((s89 w).get zaD.toNat).Use.Tie]) zah),(zd7 [((s89 w).get zaD.toNat).Use.Tie] [1] zab)⟩:Mp)⟩:web) (w64 (left - (1:Int)))).2).out).n)) (zBe [((s89 w).get zaD.toNat).Use.Tie] ((((Slf69.r.S (⟨(⟨za2,za5⟩:Net),(⟨(addN (zab [((s89 w).get zaD.toNat).Use.Tie]) zah),(zd7 [((s89 w).get zaD.toNat).Use.Tie] [1] zab)⟩:Mp)⟩:web) (w64 (left - (1:Int)))).2).out).F))))
 (zbw,(⟨(⟨za2,za5⟩:Net),(⟨zah,zab⟩:Mp)⟩:web)))
def znE (w:web) (left:Int) (P0:Int->Int->(Sl Tie)->(Sl (Sl Int))->Nat->(List Int->Option (List Int))->Bool) (zaD:Int) (za2:Int) (za5:(Sl Tie)) (zbw:(Sl (Sl Int))) (zah:Nat) (zab:(List Int->Option (List Int))):Bool :=
  (cond (decide (zaD < ((s89 w).len : Int)))
 (decide ((0<=zaD/\zaD < ((s89 w).len:Int))) &&
 (cond ((zup (zab [((s89 w).get zaD.toNat).Use.Tie]) 0) != 0)
 (P0 (w64 (zaD+(1:Int))) za2 za5 zbw zah zab)
 (decide ((Slf69.r.P (⟨(⟨za2,za5⟩:Net),(⟨(addN (zab [((s89 w).get zaD.toNat).Use.Tie]) zah),(zd7 [((s89 w).get zaD.toNat).Use.Tie] [1] zab)⟩:Mp)⟩:web) (w64 (left - (1:Int)))=true)) &&
 (decide (((zbw.len+((Slf69.r.S (⟨(⟨za2,za5⟩:Net),(⟨(addN (zab [((s89 w).get zaD.toNat).Use.Tie]) zah),(zd7 [((s89 w).get zaD.toNat).Use.Tie] [1] zab)⟩:Mp)⟩:web) (w64 (left - (1:Int)))).1).len) * 24<=140737488355328/\zbw.len+((Slf69.r.S (⟨(⟨za2,za5⟩:Net),(⟨(addN (zab [((s89 w).get zaD.toNat).Use.Tie]) zah),(zd7 [((s89 w).get zaD.toNat).Use.Tie] [1] zab)⟩:Mp)⟩:web) (w64 (left - (1:Int)))).1).len<=9223372036854775807)) &&
 (P0 (w64 (zaD+(1:Int))) (((Slf69.r.S (⟨(⟨za2,za5⟩:Net),(⟨(addN (zab [((s89 w).get zaD.toNat).Use.Tie]) zah),(zd7 [((s89 w).get zaD.toNat).Use.Tie] [1] zab)⟩:Mp)⟩:web) (w64 (left - (1:Int)))).2).Net.Nodes) (((Slf69.r.S (⟨(⟨za2,za5⟩:Net),(⟨(addN (zab [((s89 w).get zaD.toNat).Use.Tie]) zah),(zd7 [((s89 w).get zaD.toNat).Use.Tie] [1] zab)⟩:Mp)⟩:web) (w64 (left - (1:Int)))).2).Net.Ties) (⟨(zbw.len+((Slf69.r.S (⟨(⟨za2,za5⟩:Net),(⟨(addN (zab [((s89 w).get zaD.toNat).Use.Tie]) zah),(zd7 [((s89 w).get zaD.toNat).Use.Tie] [1] zab)⟩:Mp)⟩:web) (w64 (left - (1:Int)))).1).len),(zdm zbw.len zbw.get ((Slf69.r.S (⟨(⟨za2,za5⟩:Net),(⟨(addN (zab [((s89 w).get zaD.toNat).Use.Tie]) zah),(zd7 [((s89 w).get zaD.toNat).Use.Tie] [1] zab)⟩:Mp)⟩:web) (w64 (left - (1:Int)))).1).get)⟩:Sl (Sl Int)) (zDj (((((Slf69.r.S (⟨(⟨za2,za5⟩:Net),(⟨(addN (zab [((s89 w).get zaD.toNat).Use.Tie]) zah),(zd7 [((s89 w).get zaD.toNat).Use.Tie] [1] zab)⟩:Mp)⟩:web) (w64 (left - (1:Int)))).2).out).F) [((s89 w).get zaD.toNat).Use.Tie]) ((((Slf69.r.S (⟨(⟨za2,za5⟩:Net),(⟨(addN (zab [((s89 w).get zaD.toNat).Use.Tie]) zah),(zd7 [((s89 w).get zaD.toNat).Use.Tie] [1] zab)⟩:Mp)⟩:web) (w64 (left - (1:Int)))).2).out).n)) (zBe [((s89 w).get zaD.toNat).Use.Tie] ((((Slf69.r.S (⟨(⟨za2,za5⟩:Net),(⟨(addN (zab [((s89 w).get zaD.toNat).Use.Tie]) zah),(zd7 [((s89 w).get zaD.toNat).Use.Tie] [1] zab)⟩:Mp)⟩:web) (w64 (left - (1:Int)))).2).out).F)))))))
 true)
def zh8 (w : web) (left : Int) : Nat → Int → Int → (Sl Tie) → (Sl (Sl Int)) → Nat → (List Int → Option (List Int)) → ((Sl (Sl Int)) × web)
  | 0=>λ _ _ _ _ _ _=>default
  | k+1=>znD w left (zh8 w left k)
def zh9 (w : web) (left : Int) : Nat → Int → Int → (Sl Tie) → (Sl (Sl Int)) → Nat → (List Int → Option (List Int)) → Bool
  | 0=>λ _ _ _ _ _ _=>false
  | k+1=>znE w left (zh9 w left k)
def zt9 (w:web) (left:Int) (zaD:Int) (za2:Int) (za5:(Sl Tie)) (zbw:(Sl (Sl Int))) (zah:Nat) (zab:(List Int->Option (List Int))):((Sl (Sl Int))×web):=zh8 w left Fuel zaD za2 za5 zbw zah zab
def zua (w:web) (left:Int) (zaD:Int) (za2:Int) (za5:(Sl Tie)) (zbw:(Sl (Sl Int))) (zah:Nat) (zab:(List Int->Option (List Int))):Bool:=zh9 w left Fuel zaD za2 za5 zbw zah zab
theorem zCE (K:List PA×List XA->Prop) (w:web) (left:Int) (zaD:Int) (za2:Int) (za5:(Sl Tie)) (zbw:(Sl (Sl Int))) (zah:Nat) (zab:(List Int->Option (List Int))) (zcp:Nat->List PV) (zlj:zcp=λ i=>enc_40 (za5.get i)) (zcq:Nat->List PV) (zlk:zcq=λ i=>zbH (zbw.get i)) (hs:zua w left zaD za2 za5 zbw zah zab=true) (hk:K (zD1 left (zt9 w left zaD za2 za5 zbw zah zab))):zh7 (WkM K) w left zaD za2 za5.len zcp zbw.len zcq zah zab:=by
  refine zu3 (WkM K) w left zaD za2 za5.len zcp zbw.len zcq zah zab ?_
  intro X0 hstep
  have key:∀ (k:Nat) (zaD:Int) (za2:Int) (za5:(Sl Tie)) (zbw:(Sl (Sl Int))) (zah:Nat) (zab:(List Int->Option (List Int))) (zcp:Nat->List PV) (zlj:zcp=λ i=>enc_40 (za5.get i)) (zcq:Nat->List PV) (zlk:zcq=λ i=>zbH (zbw.get i)),zh9 w left k zaD za2 za5 zbw zah zab=true->K (zD1 left (zh8 w left k zaD za2 za5 zbw zah zab))->X0 (zgc w left zaD za2 za5.len zcp zbw.len zcq zah zab):=by
    intro k
    induction k with
    | zero=>intro zaD za2 za5 zbw zah zab zcp zlj zcq zlk hs;exact absurd hs dqk
    | succ k ih =>
      intro zaD za2 za5 zbw zah zab zcp zlj zcq zlk hs hk
      subst zlj
      subst zlk
      refine hstep zaD za2 za5 zbw zah zab ?_
      have hs:znE w left (zh9 w left k) zaD za2 za5 zbw zah zab=true:=hs
      have hk:K (zD1 left (znD w left (zh8 w left k) zaD za2 za5 zbw zah zab)):=hk
      unfold znE at hs
      unfold znD at hk
      generalize zh8 w left k=S0 at hk ih
      generalize zh9 w left k=P0 at hs ih
      have hX0:=ih
      exact (zfl (K := λ r => K (zD1 left r))
 (λ hs hk => (zaI hs λ hc hs => ⟨hc, (zfl (K := λ r => K (zD1 left r))
 (λ hs hk=>(hX0 (w64 (zaD+(1:Int))) za2 za5 zbw zah zab (λ i=>enc_40 (za5.get i)) rfl (λ i=>zbH (zbw.get i)) rfl hs hk))
 (λ hs hk=>(zaI hs λ hc hs=>⟨⟨isE,rfl,hc⟩,(zaI hs λ hc hs=>⟨hc,(hX0 (w64 (zaD+(1:Int))) (((Slf69.r.S (⟨(⟨za2,za5⟩:Net),(⟨(addN (zab [((s89 w).get zaD.toNat).Use.Tie]) zah),(zd7 [((s89 w).get zaD.toNat).Use.Tie] [1] zab)⟩:Mp)⟩:web) (w64 (left - (1:Int)))).2).Net.Nodes) (((Slf69.r.S (⟨(⟨za2,za5⟩:Net),(⟨(addN (zab [((s89 w).get zaD.toNat).Use.Tie]) zah),(zd7 [((s89 w).get zaD.toNat).Use.Tie] [1] zab)⟩:Mp)⟩:web) (w64 (left - (1:Int)))).2).Net.Ties) (⟨(zbw.len+((Slf69.r.S (⟨(⟨za2,za5⟩:Net),(⟨(addN (zab [((s89 w).get zaD.toNat).Use.Tie]) zah),(zd7 [((s89 w).get zaD.toNat).Use.Tie] [1] zab)⟩:Mp)⟩:web) (w64 (left - (1:Int)))).1).len),(zdm zbw.len zbw.get ((Slf69.r.S (⟨(⟨za2,za5⟩:Net),(⟨(addN (zab [((s89 w).get zaD.toNat).Use.Tie]) zah),(zd7 [((s89 w).get zaD.toNat).Use.Tie] [1] zab)⟩:Mp)⟩:web) (w64 (left - (1:Int)))).1).get)⟩:Sl (Sl Int)) (zDj (((((Slf69.r.S (⟨(⟨za2,za5⟩:Net),(⟨(addN (zab [((s89 w).get zaD.toNat).Use.Tie]) zah),(zd7 [((s89 w).get zaD.toNat).Use.Tie] [1] zab)⟩:Mp)⟩:web) (w64 (left - (1:Int)))).2).out).F) [((s89 w).get zaD.toNat).Use.Tie]) ((((Slf69.r.S (⟨(⟨za2,za5⟩:Net),(⟨(addN (zab [((s89 w).get zaD.toNat).Use.Tie]) zah),(zd7 [((s89 w).get zaD.toNat).Use.Tie] [1] zab)⟩:Mp)⟩:web) (w64 (left - (1:Int)))).2).out).n)) (zBe [((s89 w).get zaD.toNat).Use.Tie] ((((Slf69.r.S (⟨(⟨za2,za5⟩:Net),(⟨(addN (zab [((s89 w).get zaD.toNat).Use.Tie]) zah),(zd7 [((s89 w).get zaD.toNat).Use.Tie] [1] zab)⟩:Mp)⟩:web) (w64 (left - (1:Int)))).2).out).F)) (λ i=>enc_40 (((Slf69.r.S (⟨(⟨za2,za5⟩:Net),(⟨(addN (zab [((s89 w).get zaD.toNat).Use.Tie]) zah),(zd7 [((s89 w).get zaD.toNat).Use.Tie] [1] zab)⟩:Mp)⟩:web) (w64 (left - (1:Int)))).2).Net.Ties.get i)) rfl (appG zbw.len (λ i=>zbH (zbw.get i)) (λ i=>zbH (((Slf69.r.S (⟨(⟨za2,za5⟩:Net),(⟨(addN (zab [((s89 w).get zaD.toNat).Use.Tie]) zah),(zd7 [((s89 w).get zaD.toNat).Use.Tie] [1] zab)⟩:Mp)⟩:web) (w64 (left - (1:Int)))).1).get i))) (zjx (enc:=zbH) (f:=zbw.get) (h:=((Slf69.r.S (⟨(⟨za2,za5⟩:Net),(⟨(addN (zab [((s89 w).get zaD.toNat).Use.Tie]) zah),(zd7 [((s89 w).get zaD.toNat).Use.Tie] [1] zab)⟩:Mp)⟩:web) (w64 (left - (1:Int)))).1).get) rfl rfl) hs hk)⟩)⟩)) hs hk)⟩))
 (fun hs hk=>(zwT hk)) hs hk)
  exact key _ zaD za2 za5 zbw zah zab zcp zlj zcq zlk hs hk
def zBa (w:web) (left:Int):((Sl (Sl Int))×web) :=
  (cond (!(s88 w))
 ((⟨1,λ _=>(⟨w.out.n,(λ i=>(zve w.out.F w.out.n).getD i 0)⟩:(Sl Int))⟩:(Sl (Sl Int))),w)
 (cond (left == (0:Int))
 ((⟨0,λ _=>default⟩:(Sl (Sl Int))),w)
 (zt9 w left (0:Int) w.Net.Nodes w.Net.Ties (⟨0,(λ _=>default)⟩:Sl (Sl Int)) w.out.n w.out.F)))
def zMp (w:web) (left:Int):Bool :=
  (decide ((p88 w=true)) &&
 (cond (!(s88 w))
 (decide ((w.out.n<=1000000/\(zvd w.out.F 9223372036854775808 0 w.out.n).isSome=true)) &&
 true)
 (cond (left == (0:Int))
 true
 (decide ((p89 w=true)) &&
 (zua w left (0:Int) w.Net.Nodes w.Net.Ties (⟨0,(λ _=>default)⟩:Sl (Sl Int)) w.out.n w.out.F)))))
theorem zOV (w:web) (left:Int) (K:List PA×List XA->Prop) (hs:zMp w left=true) (hk:K (zD1 left (zBa w left))):zkY Tryd.prog zCC zfC 69 [.box 105 [.p (.int .i64 w.Net.Nodes),.p (.sl w.Net.Ties.len 4 (λ i=>enc_40 (w.Net.Ties.get i))),.mo 3 4 (false,1,false,[none]) w.out.n w.out.F],.d (.one (.int .i64 left))] (λ a b=>(WkM K) (a,b)):=by
  refine zaW (zCD w left (WkM K)) ?_
  unfold zMp at hs
  unfold zBa at hk
  exact (zaI hs λ hc hs => ⟨⟨isE, rfl, hc⟩, (zfl (K := λ r => K (zD1 left r))
 (λ hs hk=>(zaI hs λ hc hs=>⟨hc,(zwT hk)⟩))
 (λ hs hk => (zfl (K := λ r => K (zD1 left r))
 (λ hs hk=>(wkM hk (zhB (.one (.nil _ _)) zol)))
 (λ hs hk=>(zaI hs λ hc hs=>⟨⟨(λ _=>rfl),isE,rfl,hc⟩,(zCE K w left (0:Int) w.Net.Nodes w.Net.Ties (⟨0,(λ _=>default)⟩:Sl (Sl Int)) w.out.n w.out.F (λ i=>enc_40 (w.Net.Ties.get i)) rfl (λ i=>zbH ((λ _=>default) i)) rfl hs hk)⟩)) hs hk)) hs hk)⟩)
def zKx : MK
  | [.box 105 [.p (.int .i64 zay),.p (.sl zau zbF zas),.mo 3 4 zdw zaT zaU],.d (.one (.int .i64 b1))]=>some (IsE enc_40 4 zbF zas/\zdw=(false,1,false,[none])/\zMp (⟨(⟨zay,(⟨zau,zai zas⟩:(Sl Tie))⟩:Net),(⟨zaT,zaU⟩:Mp)⟩:web) b1=true,[.one (.sl (((zBa (⟨(⟨zay,(⟨zau,zai zas⟩:(Sl Tie))⟩:Net),(⟨zaT,zaU⟩:Mp)⟩:web) b1).1).len) 1 (λ i=>zbH (((zBa (⟨(⟨zay,(⟨zau,zai zas⟩:(Sl Tie))⟩:Net),(⟨zaT,zaU⟩:Mp)⟩:web) b1).1).get i)))],[.box 105 [.p (.int .i64 (((zBa (⟨(⟨zay,(⟨zau,zai zas⟩:(Sl Tie))⟩:Net),(⟨zaT,zaU⟩:Mp)⟩:web) b1).2).Net.Nodes)),.p (.sl (((zBa (⟨(⟨zay,(⟨zau,zai zas⟩:(Sl Tie))⟩:Net),(⟨zaT,zaU⟩:Mp)⟩:web) b1).2).Net.Ties.len) 4 (λ i=>enc_40 (((zBa (⟨(⟨zay,(⟨zau,zai zas⟩:(Sl Tie))⟩:Net),(⟨zaT,zaU⟩:Mp)⟩:web) b1).2).Net.Ties.get i))),.mo 3 4 (false,1,false,[none]) ((((zBa (⟨(⟨zay,(⟨zau,zai zas⟩:(Sl Tie))⟩:Net),(⟨zaT,zaU⟩:Mp)⟩:web) b1).2).out).n) ((((zBa (⟨(⟨zay,(⟨zau,zai zas⟩:(Sl Tie))⟩:Net),(⟨zaT,zaU⟩:Mp)⟩:web) b1).2).out).F)],.d (.one (.int .i64 b1))])
  | _=>none
theorem zKz:zav Tryd.prog 69:=⟨_,rfl,rfl,by kernel_rfl⟩
theorem zNd (hself:zjL Tryd.prog 69 zye):zjL Tryd.prog 69 zKx:=zB6 (zNc hself) zKz λ xs safe rs ys h hs K hk=>by
  unfold zKx at h
  split at h
  · rename_i zay zau zbF zas zdw zaT zaU b1
    simp only[dqa,dqh] at h
    obtain⟨rfl,rfl,rfl⟩:=h
    obtain⟨⟨rfl,zch,rfl⟩,rfl,hs⟩:=hs
    try rw[zaj zch] at hs
    try rw[zaj zch] at hk
    refine⟨λ _ _=>[],λ _=>false,zfC,?_⟩
    show zkY Tryd.prog zCC zfC 69 _ _
    exact zOV (⟨(⟨zay,(⟨zau,zch⟩:(Sl Tie))⟩:Net),(⟨zaT,zaU⟩:Mp)⟩:web) b1 (λ x=>K x.1 x.2) hs hk
  · cases h
end
def zu4 : Nat → Rec69
  | 0=>⟨λ _ _=>default,λ _ _=>false⟩
  | k+1=>⟨@zBa ⟨zu4 k⟩,@zMp ⟨zu4 k⟩⟩
theorem zKA : ∀ k, zjL Tryd.prog 69 (@zye ⟨zu4 k⟩)
  | 0=>λ xs ys safe rs h hs=>by
    unfold zye at h
    split at h
    · simp only [dqa, dqh] at h
      obtain⟨rfl,rfl,rfl⟩:=h
      exact absurd hs.2.2 dqk
    · cases h
  | k+1=>@zNd ⟨zu4 k⟩ (zKA k)
def s69 (w:web) (left:Int):((Sl (Sl Int))×web):=(zu4 64).S w left
def p69 (w:web) (left:Int):Bool:=(zu4 64).P w left
def zKB : MK
  | [.box 105 [.p (.int .i64 zay),.p (.sl zau zbF zas),.mo 3 4 zdw zaT zaU],.d (.one (.int .i64 b1))]=>some (IsE enc_40 4 zbF zas/\zdw=(false,1,false,[none])/\p69 (⟨(⟨zay,(⟨zau,zai zas⟩:(Sl Tie))⟩:Net),(⟨zaT,zaU⟩:Mp)⟩:web) b1=true,[.one (.sl (((s69 (⟨(⟨zay,(⟨zau,zai zas⟩:(Sl Tie))⟩:Net),(⟨zaT,zaU⟩:Mp)⟩:web) b1).1).len) 1 (λ i=>zbH (((s69 (⟨(⟨zay,(⟨zau,zai zas⟩:(Sl Tie))⟩:Net),(⟨zaT,zaU⟩:Mp)⟩:web) b1).1).get i)))],[.box 105 [.p (.int .i64 (((s69 (⟨(⟨zay,(⟨zau,zai zas⟩:(Sl Tie))⟩:Net),(⟨zaT,zaU⟩:Mp)⟩:web) b1).2).Net.Nodes)),.p (.sl (((s69 (⟨(⟨zay,(⟨zau,zai zas⟩:(Sl Tie))⟩:Net),(⟨zaT,zaU⟩:Mp)⟩:web) b1).2).Net.Ties.len) 4 (λ i=>enc_40 (((s69 (⟨(⟨zay,(⟨zau,zai zas⟩:(Sl Tie))⟩:Net),(⟨zaT,zaU⟩:Mp)⟩:web) b1).2).Net.Ties.get i))),.mo 3 4 (false,1,false,[none]) ((((s69 (⟨(⟨zay,(⟨zau,zai zas⟩:(Sl Tie))⟩:Net),(⟨zaT,zaU⟩:Mp)⟩:web) b1).2).out).n) ((((s69 (⟨(⟨zay,(⟨zau,zai zas⟩:(Sl Tie))⟩:Net),(⟨zaT,zaU⟩:Mp)⟩:web) b1).2).out).F)],.d (.one (.int .i64 b1))])
  | _=>none
theorem zOW:zjL Tryd.prog 69 zKB:=zKA 64
abbrev T71:Tabs:=(Tabs.nil.addF 101 ztV)
theorem zNe:TabsOk Tryd.prog T71:=(TabsOk.nil.addF zKo)
abbrev G71:Ctrs:=csm T71 (λ _ _=>[]) (λ _=>false)
def zGs:Ann:=⟨36,[(0,zK [0,1] []),(1,zK [0,1,9,10,11] []),(2,zK [0,1,9,10,11,12] []),(3,zK [0,1,5,6,9,10,11] []),(4,zK [0,1,5,6,9,10,11,19] []),(5,zK [4] []),(6,zK [0,1,6,7,9,10,11] []),(7,zK [0,1,8,9,10,11] []),(8,zK [0,1,8,9,10,11,28] []),(9,zK [4] []),(10,zK [0,1,9,10,11] []),(11,zK [35] []),(12,zK [4] []),(13,zK [4] [])],
 [(2,zK [0,1,9,10,11] [])],
 [(6,zK [0,1,5,6,9,10,11] []),(8,zK [0,1,8,9,10,11] [])],
 [],[]⟩
abbrev R71:=Int
abbrev e71 (r:R71):List PA:=[.one (.int .i64 r)]
@[irreducible] def z71:=ptF Tryd.prog G71 zGs Tryd.f71
def zD2 (zeT:(Sl Int)) (zel:(Sl Int)) (zll:(Sl Int)) (za7:Int) (zaV:Int) (zdG:Nat->List PV) (zdH:Nat->List PV) (zjH:Nat->List PV):St:=⟨[(0,zP (.sl zeT.len 1 zdG)),(1,zP (.sl zel.len 1 zdH)),(9,zP (.sl zll.len 1 zjH)),(10,zI za7),(11,zI zaV)],[],[]⟩
abbrev zCF (K:List PA->Prop) (X:St->Prop) (P:(Sl Int)->(Sl Int)->(Sl Int)->Int->Int->Bool) (S:(Sl Int)->(Sl Int)->(Sl Int)->Int->Int->Int):Prop:=∀ ⦃zeT:(Sl Int)⦄ ⦃zel:(Sl Int)⦄ ⦃zll:(Sl Int)⦄ ⦃za7:Int⦄ ⦃zaV:Int⦄ ⦃zdG:Nat->List PV⦄ ⦃zdH:Nat->List PV⦄ ⦃zjH:Nat->List PV⦄,P zeT zel zll za7 zaV=true->K (e71 (S zeT zel zll za7 zaV))->zdG=zg zad zeT->zdH=zg zad zel->zjH=zg zad zll->X (zD2 zeT zel zll za7 zaV zdG zdH zjH)
section
variable {K:List PA->Prop}{s1_a0:(Sl Int)}{s2_a1:(Sl Int)}{zeT:(Sl Int)}{zel:(Sl Int)}{zll:(Sl Int)}{za7:Int}{zaV:Int}{zdG:Nat->List PV}{zdH:Nat->List PV}{zjH:Nat->List PV}{X0:St->Prop}{P0:(Sl Int)->(Sl Int)->(Sl Int)->Int->Int->Bool}{S0:(Sl Int)->(Sl Int)->(Sl Int)->Int->Int->Int}{zpl:(Sl Int)}{zj1:(Sl Int)}{iv1:Int}{zGt:Int}{zrd:(Sl Int)}{zia:Int}{zcM:Int}{zpm:Nat->List PV}{zpn:Nat->List PV}{zD3:Nat->List PV}{zpo:(Sl Int)}{zpp:(Sl Int)}{cv2:Int}{zre:Int}{zpq:Nat->List PV}{zpr:Nat->List PV}
def zyf (S0:(Sl Int)->(Sl Int)->(Sl Int)->Int->Int->Int) (zrd:(Sl Int)) (zia:Int) (zpo:(Sl Int)) (zpp:(Sl Int)) (cv2:Int) (zre:Int):Int :=
  (cond (cv2 != (0:Int))
 cv2
 (S0 zpo zpp zrd zia (w64 (zre+(1:Int)))))
def zyg (P0:(Sl Int)->(Sl Int)->(Sl Int)->Int->Int->Bool) (zrd:(Sl Int)) (zia:Int) (zpo:(Sl Int)) (zpp:(Sl Int)) (cv2:Int) (zre:Int):Bool :=
  (cond (cv2 != (0:Int))
 true
 (P0 zpo zpp zrd zia (w64 (zre+(1:Int)))))
theorem zGu (hX0:zCF K X0 P0 S0) (hs:zyg P0 zrd zia zpo zpp cv2 zre=true) (hk:K (e71 (zyf S0 zrd zia zpo zpp cv2 zre))) (zxy:zpq=zg zad zpo) (zxz:zpr=zg zad zpp):z71 K [1,0,1,0,0,1,1,0,0,1,1,1,1] [X0] ⟨[(0,zP (.sl zpo.len 1 zpq)),(1,zP (.sl zpp.len 1 zpr)),(8,zI cv2),(9,zS zad 1 zrd),(10,zI zia),(11,zI zre)],[],[]⟩:=by subst zxy;subst zxz;exact zaW (by kernel_rfl) (zc hs hk (λ hs hk=>hk) (λ hs hk=>(hX0 hs hk rfl rfl rfl)))
def zyh (S0:(Sl Int)->(Sl Int)->(Sl Int)->Int->Int->Int) (zpl:(Sl Int)) (zj1:(Sl Int)) (iv1:Int) (zGt:Int) (zrd:(Sl Int)) (zia:Int) (zcM:Int):Int :=
  (zyf S0 zrd zia zpl zj1 (zA9 zGt (zj1.get iv1.toNat)) zcM)
def zyi (P0:(Sl Int)->(Sl Int)->(Sl Int)->Int->Int->Bool) (zpl:(Sl Int)) (zj1:(Sl Int)) (iv1:Int) (zGt:Int) (zrd:(Sl Int)) (zia:Int) (zcM:Int):Bool :=
  (decide ((0<=iv1/\iv1 < (zj1.len:Int))) &&
 (zyg P0 zrd zia zpl zj1 (zA9 zGt (zj1.get iv1.toNat)) zcM))
theorem zGv (hX0:zCF K X0 P0 S0) (hs:zyi P0 zpl zj1 iv1 zGt zrd zia zcM=true) (hk:K (e71 (zyh S0 zpl zj1 iv1 zGt zrd zia zcM))) (zxA:zpm=zg zad zpl) (zxB:zpn=zg zad zj1) (zKC:zD3=zg zad zrd):z71 K [1,0,1,0,0,1,1,0,0,1,1] [X0] ⟨[(0,zP (.sl zpl.len 1 zpm)),(1,zP (.sl zj1.len 1 zpn)),(5,zI iv1),(6,zI zGt),(9,zP (.sl zrd.len 1 zD3)),(10,zI zia),(11,zI zcM)],[],[]⟩:=by subst zxA;subst zxB;subst zKC;exact zaW (by kernel_rfl) (zaI hs λ hc hs=>And.intro hc (zGu hX0 hs hk rfl rfl))
def zyj (S0:(Sl Int)->(Sl Int)->(Sl Int)->Int->Int->Int) (zeT:(Sl Int)) (zel:(Sl Int)) (zll:(Sl Int)) (za7:Int) (zaV:Int):Int :=
  (cond (decide (zaV < za7))
 (cond (decide (zaV >= (zel.len : Int)))
 (1:Int)
 (zyh S0 zeT zel zaV (zll.get zaV.toNat) zll za7 zaV))
 (cond (decide ((zeT.len : Int) < (zel.len : Int)))
 (-1:Int)
 (0:Int)))
def zyk (P0:(Sl Int)->(Sl Int)->(Sl Int)->Int->Int->Bool) (zeT:(Sl Int)) (zel:(Sl Int)) (zll:(Sl Int)) (za7:Int) (zaV:Int):Bool :=
  (cond (decide (zaV < za7))
 (decide ((0<=zaV/\zaV < (zll.len:Int))) &&
 (cond (decide (zaV >= (zel.len : Int)))
 true
 (zyi P0 zeT zel zaV (zll.get zaV.toNat) zll za7 zaV)))
 true)
def zyl:Nat->(Sl Int)->(Sl Int)->(Sl Int)->Int->Int->Int:=lpO (λ _ _ _ _ _=>default) (zyj)
def zym:Nat->(Sl Int)->(Sl Int)->(Sl Int)->Int->Int->Bool:=lpO (λ _ _ _ _ _=>false) (zyk)
def zyn (zeT:(Sl Int)) (zel:(Sl Int)) (zll:(Sl Int)) (za7:Int) (zaV:Int):Int:=zyl Fuel zeT zel zll za7 zaV
def zyo (zeT:(Sl Int)) (zel:(Sl Int)) (zll:(Sl Int)) (za7:Int) (zaV:Int):Bool:=zym Fuel zeT zel zll za7 zaV
theorem zGw (hs:zyo zeT zel zll za7 zaV=true) (hk:K (e71 (zyn zeT zel zll za7 zaV))) (zlb:zdG=zg zad zeT) (zlc:zdH=zg zad zel) (zyp:zjH=zg zad zll):z71 K [1,0,1,0] [] (zD2 zeT zel zll za7 zaV zdG zdH zjH) :=
  zl (λ X=>z71 K [1,0,1,0,0] [X]) (by kernel_rfl) λ X0 hX =>
  (show ∀ k, zCF K X0 (zym k) (zyl k) from zeH _ _ (zyk) (zyj) (zCF K X0)
 (by intro _ _ _ _ _ _ _ _ hs;exact absurd hs dqk)
 (by intro P0 S0 hX0 zeT zel zll za7 zaV zdG zdH zjH hs hk zlb zlc zyp;subst zlb;subst zlc;subst zyp;exact hX _ (zaW (by kernel_rfl) (zc hs hk (λ hs hk=>(zaI hs λ hc hs=>And.intro hc (zc hs hk (λ hs hk=>hk) (λ hs hk=>(zGv hX0 hs hk rfl rfl rfl))))) (λ hs hk=>(zt hk (λ hk=>hk) (λ hk=>hk))))))) _ hs hk zlb zlc zyp
def s71 (s1_a0:(Sl Int)) (s2_a1:(Sl Int)):Int :=
  (zyn s1_a0 s2_a1 s1_a0 (s1_a0.len:Int) (0:Int))
def p71 (s1_a0:(Sl Int)) (s2_a1:(Sl Int)):Bool :=
  (zyo s1_a0 s2_a1 s1_a0 (s1_a0.len:Int) (0:Int))
end
theorem q71 (s1_a0:(Sl Int)) (s2_a1:(Sl Int)) (K:List PA->Prop) (hs:p71 s1_a0 s2_a1=true) (hk:K (e71 (s71 s1_a0 s2_a1))):vcFun Tryd.prog G71 zGs 71 [.one (.sl s1_a0.len 1 (λ i=>zad (s1_a0.get i))),.one (.sl s2_a1.len 1 (λ i=>zad (s2_a1.get i)))] K :=
  zaW (by kernel_rfl) (zGw hs hk rfl rfl rfl)
def zGx : List PA → COut
  | [.one (.sl zf0 zmh zf1),.one (.sl zg0 zom zgR)]=>.det (IsE zad 1 zmh zf1/\IsE zad 1 zom zgR/\p71 (⟨zf0,zaq zf1⟩:(Sl Int)) (⟨zg0,zaq zgR⟩:(Sl Int))=true) [.one (.int .i64 (s71 (⟨zf0,zaq zf1⟩:(Sl Int)) (⟨zg0,zaq zgR⟩:(Sl Int))))]
  | _=>.no
theorem zKD:zav Tryd.prog 71:=⟨_,rfl,rfl,by kernel_rfl⟩
theorem zOX:Ok Tryd.prog 71 zGx:=zbx zNe zKD λ args K h=>by
  unfold zGx at h
  split at h
  · rename_i zf0 zmh zf1 zg0 zom zgR
    obtain⟨⟨⟨rfl,zix,rfl⟩,⟨rfl,zk4,rfl⟩,hs⟩,hk⟩:=h
    try rw[zbR zix] at hs
    try rw[zbR zix] at hk
    try rw[zbR zk4] at hs
    try rw[zbR zk4] at hk
    exact⟨(λ _ _=>[]),(λ _=>false),zGs,q71 (⟨zf0,zix⟩:(Sl Int)) (⟨zg0,zk4⟩:(Sl Int)) K hs hk⟩
  · exact h.elim
abbrev T70:Tabs:=(Tabs.nil.addF 71 zGx)
theorem zNf:TabsOk Tryd.prog T70:=(TabsOk.nil.addF zOX)
abbrev G70:Ctrs:=csm T70 (λ _ _=>[]) (λ _=>false)
def zGy:Ann:=⟨33,[(0,zK [0,1] []),(1,zK [0,1,9] []),(3,zK [0,1,5] []),(4,zK [0,1,5,6] []),(5,zK [0,1,5,6,17] []),(6,zK [0,1,5,6] []),(7,zK [0,1,5,6,27] []),(8,zK [0,1,5,6] []),(9,zK [4] [])],
 [(5,zK [0,1,5,6] [])],
 [(3,zK [0,1] []),(8,zK [0,1,5,6,27] [])],
 [],[]⟩
abbrev R70:=(Sl Int)
abbrev e70 (r:R70):List PA:=[.one (.sl r.len 1 (λ i=>zad (r.get i)))]
@[irreducible] def z70:=ptF Tryd.prog G70 zGy Tryd.f70
def zD4 (x:(Sl (Sl Int))) (mv1:(Sl Int)) (iv1:Int) (zpu:Nat->List PV):St:=⟨[(0,zS zbH 1 x),(1,zP (.fn 71 [] [])),(5,zP (.sl mv1.len 1 zpu)),(6,zI iv1)],[],[]⟩
abbrev zGz (K:List PA->Prop) (x:(Sl (Sl Int))) (X:St->Prop) (P:(Sl Int)->Int->Bool) (S:(Sl Int)->Int->(Sl Int)):Prop:=∀ ⦃mv1:(Sl Int)⦄ ⦃iv1:Int⦄ ⦃zpu:Nat->List PV⦄,P mv1 iv1=true->K (e70 (S mv1 iv1))->zpu=zg zad mv1->X (zD4 x mv1 iv1 zpu)
section
variable {K:List PA->Prop}{x:(Sl (Sl Int))}{mv1:(Sl Int)}{iv1:Int}{zpu:Nat->List PV}{X1:St->Prop}{P1:(Sl Int)->Int->Bool}{S1:(Sl Int)->Int->(Sl Int)}{mv2:(Sl Int)}{iv2:Int}{zrf:Bool}{zKE:Nat->List PV}
def zyq (S1:(Sl Int)->Int->(Sl Int)) (x:(Sl (Sl Int))) (mv2:(Sl Int)) (iv2:Int) (zrf:Bool):(Sl Int) :=
  (cond zrf
 (S1 (x.get iv2.toNat) (w64 (iv2+(1:Int))))
 (S1 mv2 (w64 (iv2+(1:Int)))))
def zyr (P1:(Sl Int)->Int->Bool) (x:(Sl (Sl Int))) (mv2:(Sl Int)) (iv2:Int) (zrf:Bool):Bool :=
  (cond zrf
 (decide ((0<=iv2/\iv2 < (x.len:Int))) &&
 (P1 (x.get iv2.toNat) (w64 (iv2+(1:Int)))))
 (P1 mv2 (w64 (iv2+(1:Int)))))
theorem zGA (hX1:zGz K x X1 P1 S1) (hs:zyr P1 x mv2 iv2 zrf=true) (hk:K (e70 (zyq S1 x mv2 iv2 zrf))) (zNg:zKE=zg zad mv2):z70 K [1,1,1,0,1,0,0,1,0,0,1] [X1] ⟨[(0,zS zbH 1 x),(1,zP (.fn 71 [] [])),(5,zP (.sl mv2.len 1 zKE)),(6,zI iv2),(27,zB zrf)],[],[]⟩:=by subst zNg;exact zaW (by kernel_rfl) (zc hs hk (λ hs hk=>(zaI hs λ hc hs=>And.intro hc (hX1 hs hk rfl))) (λ hs hk=>(hX1 hs hk rfl)))
def zys (x:(Sl (Sl Int))) (S1:(Sl Int)->Int->(Sl Int)) (mv1:(Sl Int)) (iv1:Int):(Sl Int) :=
  (cond (decide (iv1 < (x.len : Int)))
 (zyq S1 x mv1 iv1 (decide ((s71 (x.get iv1.toNat) mv1) < (0:Int))))
 mv1)
def zyt (x:(Sl (Sl Int))) (P1:(Sl Int)->Int->Bool) (mv1:(Sl Int)) (iv1:Int):Bool :=
  (cond (decide (iv1 < (x.len : Int)))
 (decide ((0<=iv1/\iv1 < (x.len:Int))) &&
 (decide ((p71 (x.get iv1.toNat) mv1=true)) &&
 (zyr P1 x mv1 iv1 (decide ((s71 (x.get iv1.toNat) mv1) < (0:Int))))))
 true)
def zyu (x:(Sl (Sl Int))):Nat->(Sl Int)->Int->(Sl Int):=lpO (λ _ _=>default) (zys x)
def zyv (x:(Sl (Sl Int))):Nat->(Sl Int)->Int->Bool:=lpO (λ _ _=>false) (zyt x)
def zyw (x:(Sl (Sl Int))) (mv1:(Sl Int)) (iv1:Int):(Sl Int):=zyu x Fuel mv1 iv1
def zyx (x:(Sl (Sl Int))) (mv1:(Sl Int)) (iv1:Int):Bool:=zyv x Fuel mv1 iv1
theorem zGB (hs:zyx x mv1 iv1=true) (hk:K (e70 (zyw x mv1 iv1))) (zGC:zpu=zg zad mv1):z70 K [1,1,1,0,1,0] [] (zD4 x mv1 iv1 zpu) :=
  zl (λ X=>z70 K [1,1,1,0,1,0,0] [X]) (by kernel_rfl) λ X1 hX =>
  (show ∀ k, zGz K x X1 (zyv x k) (zyu x k) from zeH _ _ (zyt x) (zys x) (zGz K x X1)
 (by intro _ _ _ hs;exact absurd hs dqk)
 (by intro P1 S1 hX1 mv1 iv1 zpu hs hk zGC;subst zGC;exact hX _ (zaW (by kernel_rfl) (zc hs hk (λ hs hk=>(zaI hs λ hc hs=>And.intro hc (zaI hs λ hc hs=>And.intro (And.intro (zE zad 1 ((x.get iv1.toNat).get)) (And.intro (zE zad 1 mv1.get) hc)) (zGA hX1 hs hk rfl)))) (λ hs hk=>hk))))) _ hs hk zGC
def zyy (x:(Sl (Sl Int))):(Sl Int) :=
  (zyw x (x.get 0) (1:Int))
def zyz (x:(Sl (Sl Int))):Bool :=
  (decide ((0<=(0:Int)/\(0:Int) < (x.len:Int))) &&
 (zyx x (x.get 0) (1:Int)))
theorem zGD (hs:zyz x=true) (hk:K (e70 (zyy x))):z70 K [1,1] [] ⟨[(0,zS zbH 1 x),(1,zP (.fn 71 [] []))],[],[]⟩:=zaW (by kernel_rfl) (zaI hs λ hc hs=>And.intro hc (zGB hs hk rfl))
def s70 (x:(Sl (Sl Int))):(Sl Int) :=
  (cond (decide ((x.len : Int) < (1:Int)))
 default
 (zyy x))
def p70 (x:(Sl (Sl Int))):Bool :=
  (cond (decide ((x.len : Int) < (1:Int)))
 false
 (zyz x))
end
theorem q70 (x:(Sl (Sl Int))) (K:List PA->Prop) (hs:p70 x=true) (hk:K (e70 (s70 x))):vcFun Tryd.prog G70 zGy 70 [.one (.sl x.len 1 (λ i=>zbH (x.get i))),.one (.fn 71 [] [])] K :=
  zaW (by kernel_rfl) (zc hs hk (λ hs hk=>(absurd hs dqk:False)) (λ hs hk=>(zGD hs hk)))
def zGE : List PA → COut
  | [.one (.sl zf0 zmh zf1),.one (.fn 71 [] [])]=>.det (IsE zbH 1 zmh zf1/\p70 (⟨zf0,zne zf1⟩:(Sl (Sl Int)))=true) [.one (.sl ((s70 (⟨zf0,zne zf1⟩:(Sl (Sl Int)))).len) 1 (λ i=>zad ((s70 (⟨zf0,zne zf1⟩:(Sl (Sl Int)))).get i)))]
  | _=>.no
theorem zKF:zav Tryd.prog 70:=⟨_,rfl,rfl,by kernel_rfl⟩
theorem zOY:Ok Tryd.prog 70 zGE:=zbx zNf zKF λ args K h=>by
  unfold zGE at h
  split at h
  · rename_i zf0 zmh zf1
    obtain⟨⟨⟨rfl,zix,rfl⟩,hs⟩,hk⟩:=h
    try rw[zk3 zix] at hs
    try rw[zk3 zix] at hk
    exact⟨(λ _ _=>[]),(λ _=>false),zGy,q70 (⟨zf0,zix⟩:(Sl (Sl Int))) K hs hk⟩
  · exact h.elim
end Go.Proofs
namespace Go.Pm
open Go.RowKit (Below)
section
variable (P:Program) (Γ:Ctrs)
def zue (fi : FuncId) : Code → Option (Nat × Nat)
  | .region id ops false=>match ops.toList with
    | [o1,o2]=>match o1.op,o1.dst,o1.guard,o2.op,o2.dst,o2.guard with
      | .makeFunc (.func f) first caps,some t,none,.defer { callee:=.value (.tmp t'),args,argTypes:=_ },none,none=>match Nat.beq f fi && Nat.beq t t' && first.isEmpty && args.isEmpty && Nat.beq caps.size 2 with
        | true=>some (id,t)
        | false=>none
      | _,_,_,_,_,_=>none
    | _=>none
  | _=>none
def zCG (fi : FuncId) (ann : Ann) : Code → (Exit → St → Prop) → St → Prop
  | .seq a b,K,σ=>match zue fi a with
    | some (id,t)=>match Nat.blt t ann.nt with
      | true=>zEM P ann id (vc P Γ ann b K) ⟨(t,.junk) :: σ.env,σ.objs,[]⟩
      | false=>False
    | none=>vc P Γ ann a (zDl (zCG fi ann b K) K) σ
  | c,K,σ=>vc P Γ ann c K σ
def zuf (fi:FuncId) (ann:Ann) (f:FuncId) (args:List PA) (K:List PA->Prop):Prop :=
 match P.funcs[f]? with
 | some fn=>match fn.body with
  | some c=>match Nat.beq ann.nt fn.ntmps && Nat.ble args.length ann.nt with
   | true=>zCG P Γ fi ann c (zpO P fn K) ⟨zhP 0 args,[],[]⟩
   | false=>False
  | none=>False
 | none=>False
end
section
variable {P:Program}{Γ:Ctrs}{B:Nat}{w0:World}
theorem zmk {fi:FuncId}{c:Code}{id t:Nat}(h:zue fi c=some (id,t)):∃ (o1 o2:Oper) (caps:Array Operand) (ats:Array TypeId),c=.region id #[o1,o2] false/\caps.size=2/\o1.op=.makeFunc (.func fi) #[] caps/\o1.dst=some t/\o1.guard=none /\
  o2.op=.defer { callee:=.value (.tmp t),args:=#[],argTypes:=ats }/\o2.dst=none/\o2.guard=none:=by
 unfold zue at h
 split at h
 ·rename_i id' ops
  split at h
  ·rename_i o1 o2 hops
   split at h
   ·rename_i f first caps t' t2 args ats e1 e2 e3 e4 e5 e6
    split at h
    ·rename_i hc
     simp only[dqm] at hc
     simp only[dqa,dqh] at h
     obtain⟨rfl,rfl⟩:=h
     obtain⟨⟨⟨⟨h1,h2⟩,h3⟩,h4⟩,h5⟩:=hc
     have h5:=dqc h5
     have h1:=dqc h1
     have h2:=dqc h2
     have h3:first = #[]:=by simpa using h3
     have h4:args = #[]:=by simpa using h4
     subst h1 h2 h3 h4
     refine⟨o1,o2,caps,ats,?_,h5,e1,e2,e3,e4,e5,e6⟩
     rw[<- Array.toArray_toList (xs:=ops),hops]
    ·cases h
   ·cases h
  ·cases h
 ·cases h
theorem zu5 {fi : FuncId} (hidle : ∀ caps : Array Value, caps.size = 2 → zmB P { target := .fn (.func fi) caps, args := #[] }) {c : Code} {id t nt n : Nat} {h0 : Fz} {D : List Nat} {a0 a : Act} {σ : St} {g : Gh} {w : World} {Q : Exit → Act → World → Prop}
    (h:zue fi c=some (id,t)) (ht:t < nt) (htD:t∈D) (S:Sim P nt B w0 h0 g σ a w) (hkp:Kp D a0 a)
    (hQ:∀ a',Sim P nt B w0 h0 g ⟨(t,.junk) :: σ.env,σ.objs,[]⟩ a' w->Kp D a0 a'->Q .normal a' w):c.wpIn (FR none) n P Q a w:=by
  obtain⟨o1,o2,caps,ats,rfl,e0,e1,e2,e3,e4,e5,e6⟩:=zmk h
  refine wpIn_region ?_
  show wpOpsIn (FR none) n P #[o1,o2] Q [0,1] a w
  have w1:∀ tm,Region.wanted o1 (yielded #[o1,o2] tm)=true:=λ tm=>by simp[Region.wanted,e3]
  have w2:∀ tm,Region.wanted o2 (yielded #[o1,o2] tm)=true:=λ tm=>by simp[Region.wanted,e6]
  have r1:(execOp a.eval o1).run P w=.ok (.value (.func (.func fi) #[] (caps.map a.eval))) w:=by
    simp only[execOp,e1,Instr.makeFunc,dqd,dqe,dqb];simp
  have ets:t < a.tmps.size:=dqS ht S.size
  have ev:(a.put (some t) (.func (.func fi) #[] (caps.map a.eval))).eval (.tmp t)=.func (.func fi) #[] (caps.map a.eval):=by
    simp[Act.put,Act.eval,dql,ets]
  have r2:(execOp (a.put (some t) (.func (.func fi) #[] (caps.map a.eval))).eval o2).run P w=.ok (.defer { target:=.fn (.func fi) (caps.map a.eval),args:=#[] }) w:=by
    simp only[execOp,e4,resolve,dqd,ev,Deferred.ofValue,dqe,dqb];simp
  show (if Region.wanted o1 (yielded #[o1,o2] a.tmps) then o1.wpIn (FR none) n P a w (wpOpsIn (FR none) n P #[o1,o2] Q [1]) Q else _)
  rw[if_pos (w1 _)]
  refine⟨λ _ _=>trivial,?_⟩
  rw[show o1.semAt (FR none).round a.eval=execOp a.eval o1 from rfl,r1]
  show wpOpsIn (FR none) n P #[o1,o2] Q [1] (a.put o1.dst _) w
  rw[e2]
  show (if Region.wanted o2 (yielded #[o1,o2] (a.put (some t) _).tmps) then o2.wpIn (FR none) n P (a.put (some t) _) w (wpOpsIn (FR none) n P #[o1,o2] Q []) Q else _)
  rw[if_pos (w2 _)]
  refine⟨λ _ _=>trivial,?_⟩
  have r3:Sem.run P (o2.semAt (FR none).round (a.put (some t) (.func (.func fi) #[] (caps.map a.eval))).eval) w=.ok (.defer { target:=.fn (.func fi) (caps.map a.eval),args:=#[] }) w:=r2
  rw[r3]
  have S1:=S.put (dst:=some t) (d:=.junk) (v:=.func (.func fi) #[] (caps.map a.eval)) (by simpa [zbE,Nat.blt_eq] using ht) trivial (λ L hL=>by simp[zaX,zbg,zaF] at hL) []
  refine hQ _ (S1.act ?_ ?_ ?_) ?_
  · obtain ⟨es, m1, m2, m3, m4⟩ := S1.dfr
    refine⟨.inr { target:=.fn (.func fi) (caps.map a.eval),args:=#[] } :: es,m1,?_,λ E hE=>?_,λ d hd=>?_⟩
    · rw[e5,dqK,<- m2];rfl
    · rcases dqq.1 hE with e | hE
      · cases e
      · exact m3 E hE
    · rcases dqq.1 hd with e | hd
      · cases e;exact hidle _ (by simpa using e0)
      · exact m4 d hd
  · rw[e5];exact S1.size
  · rw[e5];exact S1.env
  · rw [e5]
    exact hkp.put (dst:=some t) (λ z hz=>by cases hz;exact htD) _ a.defers
theorem zyA (hok:OkAll P Γ){fi:FuncId}(hidle:∀ caps:Array Value,caps.size=2->zmB P { target:=.fn (.func fi) caps,args:=#[] }) (ann:Ann):∀ (c:Code) (n:Nat) (h0:Fz) (D:List Nat) (a0:Act) (K:Exit->St->Prop) (σ:St) (g:Gh) (a:Act) (w:World),
  (∀ t∈zhN c,t∈D)->zCG P Γ fi ann c K σ->Sim P ann.nt B w0 h0 g σ a w->Kp D a0 a->c.wpIn (FR none) n P (PostR P ann.nt B w0 h0 D a0 K) a w
 | .seq x y,n,h0,D,a0,K,σ,g,a,w,hD,h,S,hkp=>by
  have hDx:∀ t∈zhN x,t∈D:=λ t ht=>hD t (dqg.2 (.inl ht))
  have hDy:∀ t∈zhN y,t∈D:=λ t ht=>hD t (dqg.2 (.inr ht))
  simp only[zCG] at h
  split at h
  ·rename_i id t hdf
   split at h
   ·rename_i hlt
    have ht:t < ann.nt:=by simpa [Nat.blt_eq] using hlt
    have htD:t∈D:=by
     obtain⟨o1,o2,caps,ats,rfl,_,_,e2,_,_,e5,_⟩:=zmk hdf
     exact hDx t (by simp[zhN,zvq,e2])
    refine wpIn_seq (zu5 hidle hdf ht htD S hkp λ a' S' hk'=>?_)
    have hk:∀ s g2,vc P Γ ann y K s->Sim P ann.nt B w0 h0 g2 s a' w->y.wpIn (FR none) n P (PostR P ann.nt B w0 h0 D a0 K) a' w:=λ s g2 hv S2=>zdW hok ann y none n h0 D a0 K s g2 a' w hDy (Rnd.none h0) hv S2 hk'
    unfold zEM at h
    split at h
    ·split at h
     ·rename_i s hs
      obtain⟨g2,S2⟩:=zbs hs S'
      exact hk s g2 h S2
     ·exact h.elim
    ·exact hk _ g h S'
   ·exact h.elim
  ·refine wpIn_seq (wpIn_mono (zdW hok ann x none n h0 D a0 _ σ g a w hDx (Rnd.none h0) h S hkp) ?_)
   rintro e a' w' ⟨g',σ',hK,S',hk'⟩
   cases e with
   | normal=>exact zyA hok hidle ann y n h0 D a0 K σ' g' a' w' hDy hK S' hk'
   | exit id=>exact⟨g',σ',hK,S',hk'⟩
   | goto l=>exact⟨g',σ',hK,S',hk'⟩
   | ret=>exact⟨g',σ',hK,S',hk'⟩
   | panic ch=>exact⟨g',σ',hK,S',hk'⟩
   | outgrown=>exact⟨g',σ',hK,S',hk'⟩
 | .skip,n,h0,D,a0,K,σ,g,a,w,hD,h,S,hkp=>zdW hok ann .skip none n h0 D a0 K σ g a w hD (Rnd.none h0) h S hkp
 | .region i o d,n,h0,D,a0,K,σ,g,a,w,hD,h,S,hkp=>zdW hok ann (.region i o d) none n h0 D a0 K σ g a w hD (Rnd.none h0) h S hkp
 | .cond c x y,n,h0,D,a0,K,σ,g,a,w,hD,h,S,hkp=>zdW hok ann (.cond c x y) none n h0 D a0 K σ g a w hD (Rnd.none h0) h S hkp
 | .block i x,n,h0,D,a0,K,σ,g,a,w,hD,h,S,hkp=>zdW hok ann (.block i x) none n h0 D a0 K σ g a w hD (Rnd.none h0) h S hkp
 | .loop x,n,h0,D,a0,K,σ,g,a,w,hD,h,S,hkp=>zdW hok ann (.loop x) none n h0 D a0 K σ g a w hD (Rnd.none h0) h S hkp
 | .scope x,n,h0,D,a0,K,σ,g,a,w,hD,h,S,hkp=>zdW hok ann (.scope x) none n h0 D a0 K σ g a w hD (Rnd.none h0) h S hkp
 | .exit i,n,h0,D,a0,K,σ,g,a,w,hD,h,S,hkp=>zdW hok ann (.exit i) none n h0 D a0 K σ g a w hD (Rnd.none h0) h S hkp
 | .goto i,n,h0,D,a0,K,σ,g,a,w,hD,h,S,hkp=>zdW hok ann (.goto i) none n h0 D a0 K σ g a w hD (Rnd.none h0) h S hkp
 | .label i,n,h0,D,a0,K,σ,g,a,w,hD,h,S,hkp=>zdW hok ann (.label i) none n h0 D a0 K σ g a w hD (Rnd.none h0) h S hkp
 | .ret,n,h0,D,a0,K,σ,g,a,w,hD,h,S,hkp=>zdW hok ann .ret none n h0 D a0 K σ g a w hD (Rnd.none h0) h S hkp
 | .rangeFunc f p x y,n,h0,D,a0,K,σ,g,a,w,hD,h,S,hkp=>zdW hok ann (.rangeFunc f p x y) none n h0 D a0 K σ g a w hD (Rnd.none h0) h S hkp
 | .refuse x,n,h0,D,a0,K,σ,g,a,w,hD,h,S,hkp=>zdW hok ann (.refuse x) none n h0 D a0 K σ g a w hD (Rnd.none h0) h S hkp
theorem zCH {G : Ctrs} (hok : OkAll P G) {f fi : FuncId} (hidle : ∀ caps : Array Value, caps.size = 2 → zmB P { target := .fn (.func fi) caps, args := #[] }) {args : List PA} {K : List PA → Prop} {ann : Ann} (hv : zuf P G fi ann f args K) {w : World} {h0 : Fz} {vs : List Value} (hvs : RL (paR h0) args vs) (hfz : Hw h0 w) (hgl : zeu h0) :
  Calls P f vs.toArray w λ e w'=>∃ (h':Fz) (rs:List PA) (v:Value),K rs/\e=.returned v/\zok h' rs v/\Bel h0 w.heap.size w w' /\
   Fle h0 h'/\Hw h' w'/\∀ b o,h' b=some o->h0 b=some o\/w.heap.size<=b:=by
 unfold zuf at hv
 split at hv
 ·rename_i fn hfn
  split at hv
  ·rename_i c hbody
   split at hv
   ·rename_i hnt
    simp only[dqm,Nat.ble_eq] at hnt
    have S:=zkX (P:=P) (dqc hnt.1) hnt.2 hvs hfz hgl
    have hwp:=zyA (B:=w.heap.size) (w0:=w) hok hidle ann c 0 h0 (zhN c) _ _ _ _ _ _ (λ _ h=>h) hv S (Kp.refl _ _)
    refine (callsIn_wide (n:=0)).1 ?_
    refine callsIn_of_wp_marks (F:=FR none) hfn hbody trivial (wpIn_mono hwp ?_)
    have h0b:∀ b,h0 b=some (.fz (.deferred (some [])))->b < w.heap.size:=λ b h=>hfz.lt h
    rintro e a' w' ⟨g',σ',hK',S',_⟩
    have fin:zI4 P fn K σ'->LeavesInM (FR none) 0 P fn a'.tmps (λ e w'=>∃ (h':Fz) (rs:List PA) (v:Value),K rs/\e=.returned v/\zok h' rs v/\Bel h0 w.heap.size w w' /\
      Fle h0 h'/\Hw h' w'/\∀ b o,h' b=some o->h0 b=some o\/w.heap.size<=b) a'.defers .returning w':=by
     intro hf
     obtain⟨Ds,h1,h2,h3,h4⟩:=S'.dfr
     refine zkW h0b Ds g' a' w' h1 h2 h3 h4 S' λ g2 a2 w2 _ S2=>?_
     unfold zI4 at hf
     split at hf
     ·rename_i l hl
      obtain⟨u,v,hu,hrun,hres⟩:=zkV S2 hl
      obtain⟨h',S3,F⟩:=S2.freeze hu
      exact⟨v,hrun,h',l,v,hf,rfl,hres h' F,S3.below,S3.le0,S3.hw,S3.hn⟩
     ·exact hf.elim
    cases e with
    | normal=>exact fin hK'
    | ret=>exact fin hK'
    | exit id=>exact hK'.elim
    | goto l=>exact hK'.elim
    | panic ch=>exact hK'.elim
    | outgrown=>exact hK'.elim
   ·exact hv.elim
  ·exact hv.elim
 ·exact hv.elim
theorem zCI {T : Tabs} (hT : TabsOk P T) {f fi : FuncId} {C : List PA → COut} (hc : zav P f) (hidle : ∀ caps : Array Value, caps.size = 2 → zmB P { target := .fn (.func fi) caps, args := #[] })
    (h:∀ args K,(C args).wp K->∃ args',RL PAle args args'/\∃ memo vv ann,zuf P (csm T memo vv) fi ann f args' (Wk K)):Ok P f C:=by
  intro args K hK w h0 vs hvs hfz hgl
  obtain⟨args',hle,memo,vv,ann,hv⟩:=h args K hK
  refine⟨hc,(zCH (hT.all memo vv) hidle hv (zwR (R:=paR h0) (S:=PAle) (T:=paR h0) (λ _ _ _ e r=>zB5 e r) _ _ _ hle hvs) hfz hgl).mono ?_⟩
  rintro e w' ⟨h',rs,v,⟨rs',hr,hk⟩,he,hres,rest⟩
  exact⟨h',rs',v,hk,he,zwS hr hres,rest⟩
end
end Go.Pm
namespace Go.Pm
open Go Go.Proofs
set_option maxRecDepth 100000
theorem zKG:∀ caps:Array Value,caps.size=2->zmB Tryd.prog { target:=.fn (.func 68) caps,args:=#[] }:=λ caps hc=>by
 match caps,hc with
 | ⟨[x,y]⟩,_ =>
 refine⟨.func 68,#[x,y],68,#[x,y],rfl,λ w=>?_,λ n w=>?_⟩
 ·have h : zav Tryd.prog 68 := ⟨_, rfl, rfl, by kernel_rfl⟩
  show (callFunc 68 (#[] ++ #[x,y])).run Tryd.prog w=_
  exact zcc h
 have key:CallsDIn { fn:=λ _=>True,depth:=none,alive:=false,round:=none } n Tryd.prog 68 #[x,y] .returning w λ e u' w'=>e=.returned (.tuple #[])/\u'=.returning/\w'=w:=by
  refine callsDIn_of_wpSIn Tryd.func68 rfl trivial λ c₀ cs hu=>?_
  apply wpSIn_seq
  apply wpSIn_region
  simp[wpOpsSIn,go_sem,recoverD,hu,Tryd.ntmps68,Exit.thenS]
  apply wpSIn_seq
  apply wpSIn_region
  simp[wpOpsSIn,go_sem,recoverD,hu,Tryd.ntmps68,Exit.thenS]
  refine wpSIn_cond (t:=false) (by simp[Act.eval,Array.replicate]) ?_
  simp only[Bool.false_eq_true,if_false]
  refine wpSIn_of_wpIn rfl (wpIn_skip ?_)
  cases c₀
  simp_all [bodyPostS,results,Tryd.results68]
 exact key.mono λ e u' w' h=>⟨⟨_,h.1⟩,h.2⟩
end Go.Pm
