/- Part 5 of what the proof rests on: a machine that runs functions of the program on pure values, proved sound; the functions that the law reaches, and what they compute. -/
import Derived.Test.YtedhjaaikeakoaaDoorQ4
import Derived.Sort.OwnSortedInts
import Derived.Lib.SlicesCompact
import Derived.Test.YtedhjaaikeakoaaDoorProg
import Derived.ProofKit
import Derived.Deep.Slices
import Derived.OpenShut
import Derived.Shelf.SlIterI.Nil
import Derived.Shelf.SortM.Plain
import Derived.Shelf.SortM.SortNone
import Derived.Ground.GgzProg
import Derived.Ground.SlgmProg
set_option linter.all false
namespace Go.Pm

structure Tabs where
  fn:List (Nat×(List PA→COut))
  own:List (Nat×OwnK)
  it:List (Nat×(List PA→Option (Prop×List (List PA))))
  mt:List (Nat×MK)
def zxr : List (Nat × (List PA → COut)) → Nat → List PA → COut
  | [],_=>fun _=>.no
  | (k,c) :: r,n=>match Nat.beq k n with | true=>c | false=>zxr r n
def zxs (l:List (Nat×OwnK)) (f:Nat):OwnK:=match lk l f with | some c=>c | none=>.none
def zEk (l:List (Nat×(List PA→Option (Prop×List (List PA))))) (f:Nat):List PA→Option (Prop×List (List PA)):=match lk l f with | some c=>c | none=>fun _=>none
def csm (T:Tabs) (memo:Nat→Int→List Int) (vv:Nat→Bool):Ctrs:=⟨zxr T.fn,zxs T.own,zEk T.it,memo,vv,lk T.mt⟩
abbrev cs (T:Tabs):Ctrs:=csm T (fun _ _=>[]) (fun _=>false)
def Tabs.nil:Tabs:=⟨[],[],[],[]⟩
def Tabs.addF (T:Tabs) (f:Nat) (c:List PA→COut):Tabs:=⟨(f,c) :: T.fn,T.own,T.it,T.mt⟩
def Tabs.addO (T:Tabs) (f:Nat) (c:OwnK):Tabs:=⟨T.fn,(f,c) :: T.own,T.it,T.mt⟩
def Tabs.addI (T:Tabs) (f:Nat) (c:List PA→Option (Prop×List (List PA))):Tabs:=⟨T.fn,T.own,(f,c) :: T.it,T.mt⟩
def Tabs.addM (T:Tabs) (f:Nat) (c:MK):Tabs:=⟨T.fn,T.own,T.it,(f,c) :: T.mt⟩

theorem zKW {P:Program} {f:Nat} : Ok P f (fun _=>.no):=fun _ _ h=>h.elim
theorem zKX {P:Program} {f:Nat} : zCN P f (fun _=>none):=fun _ _ _ h=>by cases h

structure TabsOk (P : Program) (T : Tabs) : Prop where
  fn:∀ x∈T.fn,Ok P x.1 x.2
  own:∀ x∈T.own,zoD P x.1 x.2
  it:∀ x∈T.it,zCN P x.1 x.2
  mt:∀ x∈T.mt,zju P x.1 x.2
theorem TabsOk.nil {P:Program} : TabsOk P .nil:=⟨fun _ h=>(by cases h),fun _ h=>(by cases h),fun _ h=>(by cases h),fun _ h=>(by cases h)⟩
theorem TabsOk.addF {P:Program} {T:Tabs} (h:TabsOk P T) {f:Nat} {c:List PA→COut} (hc:Ok P f c):TabsOk P (T.addF f c) :=
 ⟨fun x hx=>(List.mem_cons.1 hx).elim (fun e=>by rw [e];exact hc) (fun hx=>h.fn x hx),h.own,h.it,h.mt⟩
theorem TabsOk.addO {P:Program} {T:Tabs} (h:TabsOk P T) {f:Nat} {c:OwnK} (hc:zoD P f c):TabsOk P (T.addO f c) :=
 ⟨h.fn,fun x hx=>(List.mem_cons.1 hx).elim (fun e=>by rw [e];exact hc) (fun hx=>h.own x hx),h.it,h.mt⟩
theorem TabsOk.addI {P:Program} {T:Tabs} (h:TabsOk P T) {f:Nat} {c:List PA→Option (Prop×List (List PA))} (hc:zCN P f c):TabsOk P (T.addI f c) :=
 ⟨h.fn,h.own,fun x hx=>(List.mem_cons.1 hx).elim (fun e=>by rw [e];exact hc) (fun hx=>h.it x hx),h.mt⟩
theorem TabsOk.addM {P:Program} {T:Tabs} (h:TabsOk P T) {f:Nat} {c:MK} (hc:zju P f c):TabsOk P (T.addM f c) :=
 ⟨h.fn,h.own,h.it,fun x hx=>(List.mem_cons.1 hx).elim (fun e=>by rw [e];exact hc) (fun hx=>h.mt x hx)⟩
theorem TabsOk.all {P:Program} {T:Tabs} (h:TabsOk P T) (memo:Nat→Int→List Int) (vv:Nat→Bool):OkAll P (csm T memo vv):=by
 refine ⟨fun f C hC=>h.mt _ (zb5 hC),fun f=>?_,fun f=>?_,fun f=>?_⟩
 ·show Ok P f (zxr T.fn f)
  have key:∀ l:List (Nat×(List PA→COut)),(∀ x∈l,Ok P x.1 x.2)→Ok P f (zxr l f):=by
   intro l
   induction l with
   | nil=>intro _;exact zKW
   | cons x l ih =>
    intro hl
    obtain ⟨k,c⟩:=x
    simp only [zxr]
    split
    ·rename_i e
     have:=hl (k,c) List.mem_cons_self
     rw [← Nat.eq_of_beq_eq_true e];exact this
    ·exact ih fun x hx=>hl x (List.mem_cons_of_mem _ hx)
  exact key T.fn h.fn
 ·show zoD P f (zxs T.own f)
  unfold zxs
  split
  ·rename_i c hc;exact h.own _ (zb5 hc)
  ·trivial
 ·show zCN P f (zEk T.it f)
  unfold zEk
  split
  ·rename_i c hc;exact h.it _ (zb5 hc)
  ·exact zKX

theorem zbF {P : Program} {T : Tabs} (hT : TabsOk P T) {f : FuncId} {C : List PA → COut} (hc : zaw P f)
    (h:∀ args K,(C args).wp K→∃ memo vv ann,vcFun P (csm T memo vv) ann f args K):Ok P f C :=
  zBJ (hT.all (fun _ _=>[]) (fun _=>false)) hc h
theorem zEl {P : Program} {T : Tabs} (hT : TabsOk P T) {f : FuncId} {C : MK} (hc : zaw P f)
    (h:∀ xs safe rs ys,C xs=some (safe,rs,ys)→safe→∀ K:List PA→List XA→Prop,K rs ys→∃ memo vv ann,zkJ P (csm T memo vv) ann f xs K):zju P f C :=
  zxq (hT.all (fun _ _=>[]) (fun _=>false)) hc h
theorem zIk {P : Program} {T : Tabs} (hT : TabsOk P T) {f : FuncId} {C : List PA → Option (Prop × List (List PA))} (hc : zaw P f)
    (h:∀ l caps safe ys,C caps=some (safe,ys)→safe→∃ memo vv ann,vcIter P (csm T memo vv) ann f l caps ys):zCN P f C :=
  zBN (hT.all (fun _ _=>[]) (fun _=>false)) hc h
structure Sl (α : Type) where
  len:Nat
  get:Nat→α
instance {α:Type} [Inhabited α]:Inhabited (Sl α):=⟨⟨0,fun _=>default⟩⟩
abbrev w64 (x:Int):Int:=IntKind.i64.wrap x

def IsE {α:Type} (enc:α→List PV) (size s:Nat) (g:Nat→List PV):Prop:=s=size∧∃ f:Nat→α,g=fun i=>enc (f i)
theorem isE {α:Type} {enc:α→List PV} {size:Nat} {f:Nat→α} : IsE enc size size (fun i=>enc (f i)):=⟨rfl,f,rfl⟩
theorem zxt {α:Type} {enc:α→List PV} {size:Nat} {x:α} : IsE enc size size (fun _=>enc x):=⟨rfl,fun _=>x,rfl⟩
def zg8 {α:Type} (n:Nat) (get new:Nat→α):Nat→α:=fun j=>match Nat.ble n j with | true=>new (j - n) | false=>get j
theorem zBR {α:Type} {enc:α→List PV} {n:Nat} {f h:Nat→α} : appG n (fun i=>enc (f i)) (fun i=>enc (h i))=fun i=>enc (zg8 n f h i):=by
 funext j;simp only [appG,zg8];cases Nat.ble n j <;> rfl
def zqm {α : Type} (x : α) : List α → Nat → α
  | [],_=>x
  | y :: _,0=>y
  | _ :: r,i+1=>zqm x r i
theorem zui {α:Type} {enc:α→List PV} {x y:α} {r:List α} : zbw (enc x :: enc y :: r.map enc)=fun i=>enc (zqm x (x :: y :: r) i):=by
 have key:∀ (l:List α) (i:Nat),(match (l.map enc)[i]? with | some z=>z | none=>enc x)=enc (zqm x l i):=by
  intro l
  induction l with
  | nil=>intro i;rfl
  | cons a l ih =>
   intro i
   cases i with
   | zero=>rfl
   | succ i=>simpa [zqm] using ih i
 funext i
 exact key (x :: y :: r) i
theorem zdo {α:Type} {enc:α→List PV} {size:Nat} {x y:α} (r:List α):IsE enc size size (zbw (enc x :: enc y :: r.map enc)):=⟨rfl,_,zui⟩

theorem zaZ {b:Bool} {A B:Prop} {S S':Bool} {α:Type} {K:α→Prop} {x y:α} (h1:S=true→K x→A) (h2:S'=true→K y→B) (hs:cond b S S'=true) (hk:K (cond b x y)):zbR b A B:=by
 cases b
 ·exact h2 hs hk
 ·exact h1 hs hk
theorem zhP {b:Bool} {A B:Prop} {S S':Bool} {α β:Type} {f:α→β} {ys:List β} {x y:List α} (hs:cond b S S'=true) (hk:ys=(cond b x y).map f) (h1:S=true→ys=x.map f→A) (h2:S'=true→ys=y.map f→B):zbR b A B:=by
 cases b
 ·exact h2 hs hk
 ·exact h1 hs hk
theorem itY {α β:Type} {f:α→β} {ys:List β} {p:β} {x r:List α} {l:Nat} {A:List β→Prop} (hk:ys=x.map f) (e:x.map f=p :: r.map f) (h:∀ zs,zs=r.map f→A zs):l=l∧∃ z,ys=p :: z∧A z∧True :=
 ⟨rfl,_,hk.trans e,h _ rfl,trivial⟩
theorem za2 {C A:Prop} [d:Decidable C] {r:Bool} (hs:(decide C && r)=true) (k:C→r=true→A):A:=by
 rw [Bool.and_eq_true] at hs
 exact k (of_decide_eq_true hs.1) hs.2
abbrev Fuel:Nat:=9223372036854775808
def setT {α:Type} (i:Nat) (v:α) (get:Nat→α):Nat→α:=fun j=>match Nat.beq j i with | true=>v | false=>get j
theorem zkN {α:Type} {enc:α→List PV} {n:Nat} {g g':Nat→List PV} {f h:Nat→α} (h1:g=fun i=>enc (f i)) (h2:g'=fun i=>enc (h i)):appG n g g'=fun i=>enc (zg8 n f h i):=by
 subst h1;subst h2;exact zBR
theorem zmE {α:Type} {enc:α→List PV} {i k:Nat} {g:Nat→List PV} {f:Nat→α} {new:List PV} {v:α} (h1:g=fun i=>enc (f i)) (h2:spl (enc (f i)) k new=enc v):zjx i k g new=fun j=>enc (setT i v f j):=by
 subst h1
 funext j
 simp only [zjx,setT]
 cases e:Nat.beq j i
 ·rfl
 ·have := Nat.eq_of_beq_eq_true e
  subst this;exact h2
def zvV (P:Program) (G:Ctrs) (ann:Ann) (hd:Nat) (ps:List Nat) (assign body:Code) (X:List (List PA)→St→Prop) (K:Exit→St→Prop) (y:List PA) (rest:List (List PA)) (s:St):Prop :=
 match lk ann.head hd with
 | some k=>match zhC ps y s.env with
  | some env=>vc P G ann assign (zCM (vc P G ann body (zmd P k (X rest) K)) fun _ _=>False) ⟨env,s.objs,[]⟩
  | none=>False
 | none=>False
end Go.Pm
namespace Go.Pm
open Go Go.Sort

/-! Nil slices are slices of length 0. -/
inductive PVle : PV → PV → Prop
  | rfl (p:PV):PVle p p
  | nil (s:Nat) (g:Nat→List PV):PVle .nils (.sl 0 s g)
  | nilm (q:MQ):PVle .nilm (.fm q 0 (fun _=>none))
inductive PAle : PA → PA → Prop
  | one {p q:PV} : PVle p q→PAle (.one p) (.one q)
  | agg {l m:List PV} : RL PVle l m→PAle (.agg l) (.agg m)
theorem zow {α β:Type} {R:α→β→Prop} : RL R [] []:=trivial
theorem zib {α β:Type} {R:α→β→Prop} {a:α} {b:β} {l:List α} {m:List β} (h:R a b) (h':RL R l m):RL R (a :: l) (b :: m):=⟨h,h'⟩
theorem zfK {α : Type} {R : α → α → Prop} (h : ∀ a, R a a) : ∀ l : List α, RL R l l
  | []=>trivial
  | a :: l=>⟨h a,zfK h l⟩
theorem zgR (a:PA):PAle a a:=by
 cases a with
 | one p=>exact .one (.rfl p)
 | agg l=>exact .agg (zfK .rfl l)
def Wk (K:List PA→Prop) (l:List PA):Prop:=∃ l',RL PAle l l'∧K l'
theorem wk {K:List PA→Prop} {l l':List PA} (hk:K l') (h:RL PAle l l'):Wk K l:=⟨l',h,hk⟩
theorem zgS {K:List PA→Prop} {l:List PA} (hk:K l):Wk K l:=⟨l,zfK zgR l,hk⟩
theorem zIl {h:Fz} {p q:PV} {v:Value} (e:PVle p q) (r:Rep h p v):Rep h q v:=by
 cases e with
 | rfl=>exact r
 | nil s g=>cases r;exact .sl0 s g
 | nilm q=>cases r;exact .fmn q _ (fun _ _=>rfl)
theorem zxu {α β γ : Type} {R : α → β → Prop} {S : α → γ → Prop} {T : γ → β → Prop} (h : ∀ a b c, S a c → R a b → T c b) : ∀ (l : List α) (m : List β) (k : List γ), RL S l k → RL R l m → RL T k m
  | [],[],[],_,_=>trivial
  | a :: l,b :: m,c :: k,hs,hr=>⟨h a b c hs.1 hr.1,zxu h l m k hs.2 hr.2⟩
  | [],_ :: _,[],_,hr=>hr.elim
  | [],_,_ :: _,hs,_=>hs.elim
  | _ :: _,_,[],hs,_=>hs.elim
  | _ :: _,[],_ :: _,_,hr=>hr.elim
theorem zBS {h:Fz} {a b:PA} {v:Value} (e:PAle a b) (r:paR h a v):paR h b v:=by
 cases e with
 | one e=>exact zIl e r
 | agg e =>
  obtain ⟨vs,rfl,hv⟩:=r
  exact ⟨vs,rfl,zxu (R:=Rep h) (S:=PVle) (T:=Rep h) (fun _ _ _ e r=>zIl e r) _ _ _ e hv⟩
theorem zxv {h:Fz} {l m:List PA} {v:Value} (e:RL PAle l m) (r:zov h l v):zov h m v:=by
 match l,m,e,r with
 | [a],[b],e,r=>exact zBS e.1 r
 | [],[],_,r=>exact r
 | a :: b :: l,c :: d :: m,e,r =>
  obtain ⟨vs,hv,hr⟩:=r
  exact ⟨vs,hv,zxu (R:=paR h) (S:=PAle) (T:=paR h) (fun _ _ _ e r=>zBS e r) _ _ _ e hr⟩
 | [_],_ :: _ :: _,e,_=>exact e.2.elim
 | _ :: _ :: _,[_],e,_=>exact e.2.elim
 | [],_ :: _,e,_=>exact e.elim
 | _ :: _,[],e,_=>exact e.elim
theorem zir {P : Program} {T : Tabs} (hT : TabsOk P T) {f : FuncId} {C : List PA → COut} (hc : zaw P f)
    (h:∀ args K,(C args).wp K→∃ args',RL PAle args args'∧∃ memo vv ann,vcFun P (csm T memo vv) ann f args' (Wk K)):Ok P f C:=by
  intro args K hK w h0 vs hvs hfz hgl
  obtain ⟨args',hle,memo,vv,ann,hv⟩:=h args K hK
  refine ⟨hc,(zxj (hT.all memo vv) hv (zxu (R:=paR h0) (S:=PAle) (T:=paR h0) (fun _ _ _ e r=>zBS e r) _ _ _ hle hvs) hfz hgl).mono ?_⟩
  rintro e w' ⟨h',rs,v,⟨rs',hr,hk⟩,he,hres,rest⟩
  exact ⟨h',rs',v,hk,he,zxv hr hres,rest⟩
theorem zBT {P : Program} {T : Tabs} (hT : TabsOk P T) {f : FuncId} {C : MK} (hc : zaw P f)
    (h:∀ xs safe rs ys,C xs=some (safe,rs,ys)→safe→∀ K:List PA→List XA→Prop,K rs ys→∃ memo vv ann,zkJ P (csm T memo vv) ann f xs (fun a b=>Wk (fun a'=>K a' b) a)):zju P f C:=by
  intro xs ys safe rs hC hs w h0 base vs hvs hn hK hw hgl hB
  obtain ⟨memo,vv,ann,hv⟩:=h xs safe rs ys hC hs (fun l zs=>l=rs∧zs=ys) ⟨rfl,rfl⟩
  refine ⟨hc,(zxp (hT.all memo vv) hv hvs hn hK hw hgl hB).mono ?_⟩
  rintro e w' ⟨h',v,rs',ys',⟨rs2,hr,rfl,rfl⟩,he,hres,r⟩
  exact ⟨h',v,he,zxv hr hres,r⟩
def WkM (K:List PA×List XA→Prop) (p:List PA×List XA):Prop:=Wk (fun a=>K (a,p.2)) p.1
theorem wkM {K:List PA×List XA→Prop} {l l':List PA} {b:List XA} (hk:K (l',b)) (h:RL PAle l l'):WkM K (l,b):=⟨l',h,hk⟩
theorem zxw {K:List PA×List XA→Prop} {p:List PA×List XA} (hk:K p):WkM K p:=⟨p.1,zfK zgR p.1,hk⟩
/-! Maps, as typed values; the keys of a map. -/
structure Mp where
  n:Nat
  F:List Int→Option (List Int)
instance:Inhabited Mp:=⟨⟨0,fun _=>none⟩⟩

end Go.Pm
namespace Go.Pm

abbrev zI (x:Int):DV:=.one (.c (.p (.int .i64 x)))
abbrev zB (x:Bool):DV:=.one (.c (.p (.bool x)))
abbrev zP (x:PV):DV:=.one (.c (.p x))
abbrev zp (L k:Nat):DV:=.one (.c (.ptr L k))
abbrev zv (L:Nat):DV:=.one (.c (.vec L))
abbrev zs {α:Type} (enc:α→List PV) (s:Nat) (x:Sl α):PV:=.sl x.len s (fun i=>enc (x.get i))
abbrev zS {α:Type} (enc:α→List PV) (s:Nat) (x:Sl α):DV:=zP (zs enc s x)
abbrev zm (l:List PV):List Cl:=l.map Cl.p
abbrev zi (x:Int):Cl:=.p (.int .i64 x)
abbrev zg {α:Type} (enc:α→List PV) (x:Sl α):Nat→List PV:=fun i=>enc (x.get i)
abbrev zK (a b:List Nat):Keep:=⟨a,b,[],[],[],[],[]⟩
theorem zE {α:Type} (enc:α→List PV) (size:Nat) (f:Nat→α):IsE enc size size (fun i=>enc (f i)):=⟨rfl,f,rfl⟩

theorem zxx {α : Type} : ∀ (new l pre : List α), l.length = new.length → spl (pre ++ l) pre.length new = pre ++ new
  | [],l,pre,h=>by
    have:l=[]:=List.eq_nil_of_length_eq_zero h
    subst this;rfl
  | x :: r,[],pre,h=>by simp at h
  | x :: r,y :: l,pre,h=>by
    have e:=zxx r l (pre ++ [x]) (by simpa using h)
    simp only [spl,List.append_assoc,List.singleton_append,List.length_append,List.length_singleton] at e ⊢
    rw [List.set_append_right _ _ (Nat.le_refl _),Nat.sub_self,List.set_cons_zero]
    exact e
theorem znz {n:Nat} {F G:Nat→Int} : spl (zhv 0 n F) 0 (zhv 0 n G)=zhv 0 n G:=by
 have h:=zxx (zhv 0 n G) (zhv 0 n F) [] (by rw [ze0,ze0])
 simpa using h
theorem znA {n:Nat} {F:Nat→Int} : zhv 0 n F=zhv 0 n (zl8 (zm (zhv 0 n F))):=by
 refine List.ext_getElem? fun k=>?_
 by_cases hk:k < n
 ·rw [zgo n 0 F k hk, zgo n 0 _ k hk, Nat.zero_add]
  congr 2
  have h:(zm (zhv 0 n F))[k]? = some (.p (.int .i64 (F k))):=by
   rw [zm,List.getElem?_map,zgo n 0 F k hk,Nat.zero_add];rfl
  unfold zl8
  rw [h]
 ·rw [List.getElem?_eq_none (by rw [ze0];omega),List.getElem?_eq_none (by rw [ze0];omega)]

@[reducible] def lpO {A : Type} (d : A) (st : A → A) : Nat → A
  | 0=>d
  | k+1=>st (lpO d st k)
theorem zjH {A B : Type} (a : A) (b : B) (p : A → A) (s : B → B) (M : A → B → Prop) (h0 : M a b) (h1 : ∀ P S, M P S → M (p P) (s S)) : ∀ k, M (lpO a p k) (lpO b s k)
  | 0=>h0
  | k+1=>h1 _ _ (zjH a b p s M h0 h1 k)
def xcm (l:List PV):List XC:=l.map .p
def unX : List XC → List PV
  | []=>[]
  | .p v :: r=>v :: unX r
  | _ :: r=>.nilp :: unX r
theorem zxy : ∀ l : List PV, unX (xcm l) = l
  | []=>rfl
  | v :: r=>by show v :: unX (xcm r)=v :: r;rw [zxy r]
theorem zEm {n:Nat} {F:Nat→Int} : xcm (zhv 0 n F)=xcm (zhv 0 n (zl8 (zm (unX (xcm (zhv 0 n F)))))):=by
 rw [zxy,← znA]

section
variable (P:Program) (Γ:Ctrs) (ann:Ann)
def pt : Code → (Exit → St → Prop) → List Nat → List (St → Prop) → St → Prop
  | .seq a b,K,i :: r,X=>match i with | 0=>pt a (sqK P Γ ann b K) r X | _=>pt b K r X
  | .cond _ a b,K,i :: r,X=>match i with | 0=>pt a K r X | _=>pt b K r X
  | .block id b,K,_ :: r,X=>pt b (zak id K) r X
  | .loop b,K,_ :: r,x :: X=>pt b (zbn P ann (zmc b) x K) r X
  | .scope b,K,_ :: r,X=>pt b (zcA K) r X
  | c,K,_,_=>vc P Γ ann c K
def ptF (fn:Func) (K:List PA→Prop) (l:List Nat) (X:List (St→Prop)):St→Prop :=
 match fn.body with
 | some c=>pt P Γ ann c (zbl P fn K) l X
 | none=>fun _=>False
end

theorem zc {b:Bool} {A B:Prop} {S S':Bool} {α:Type} {e:α→List PA} {K:List PA→Prop} {x y:α} (hs:cond b S S'=true) (hk:K (e (cond b x y))) (h1:S=true→K (e x)→A) (h2:S'=true→K (e y)→B):zbR b A B:=by
 cases b
 ·exact h2 hs hk
 ·exact h1 hs hk
theorem zt {b:Bool} {A B:Prop} {α:Type} {e:α→List PA} {K:List PA→Prop} {x y:α} (hk:K (e (cond b x y))) (h1:K (e x)→A) (h2:K (e y)→B):zbR b A B:=by
 cases b
 ·exact h2 hk
 ·exact h1 hk
theorem zIm {b:Bool} {s:Prop} {r1 r2:List PA} {K:List PA→Prop} (h:(COut.alt b s r1 s r2).wp K):s∧K (cond b r1 r2):=by
 cases b
 ·exact h.2 rfl
 ·exact h.1 rfl
theorem zl {at_:Prop} {g:St} (B:(St→Prop)→St→Prop) (e:at_ = ∀ X:St→Prop,(∀ s,B X s→X s)→X g) (h:∀ X:St→Prop,(∀ s,B X s→X s)→X g):at_:=e ▸ h
end Go.Pm
namespace Go.Proofs
open Go Go.Pm
set_option maxRecDepth 100000
set_option linter.unusedVariables false
attribute [local irreducible] Go.Pm.vcFun Go.Pm.vc Go.Pm.vcIter
abbrev Tab:=Nat→Int
def tg (n:Nat) (F:Tab) (k:Nat):Int:=zl8 (zm (zhv 0 n F)) k
def ts (n:Nat) (F:Tab) (k:Nat) (vs:List Int):Tab:=zCH k vs (zl8 (zm (zhv 0 n F)))
abbrev enc_3 (x:Int):List PV:=[.int .i64 x]
def zKY : List PV → Int
  | [.int .i64 x]=>x
  | _=>default
def zar (g:Nat→List PV):Nat→Int:=fun i=>zKY (g i)
theorem zbm (f:Nat→Int):zar (fun i=>enc_3 (f i))=f:=rfl
abbrev zKZ (x:Bool):List PV:=[.bool x]
structure Tie where
  From:Int
  To:Int
  Low:Int
  High:Int
deriving Inhabited
abbrev enc_40 (x:Tie):List PV:=[.int .i64 x.From,.int .i64 x.To,.int .i64 x.Low,.int .i64 x.High]
def zIn : List PV → Tie
  | [.int .i64 x_From,.int .i64 x_To,.int .i64 x_Low,.int .i64 x_High]=>(⟨x_From,x_To,x_Low,x_High⟩:Tie)
  | _=>default
def zal (g:Nat→List PV):Nat→Tie:=fun i=>zIn (g i)
theorem zam (f:Nat→Tie):zal (fun i=>enc_40 (f i))=f:=rfl
abbrev zIo (x:(Sl Tie)):List PV:=[.sl x.len 4 (fun i=>enc_40 (x.get i))]
structure Net where
  Nodes:Int
  Ties:(Sl Tie)
deriving Inhabited
abbrev enc_24 (x:Net):List PV:=[.int .i64 x.Nodes,.sl x.Ties.len 4 (fun i=>enc_40 (x.Ties.get i))]
abbrev zcl (x:(Sl Int)):List PV:=[.sl x.len 1 (fun i=>enc_3 (x.get i))]
def zIp : List PV → (Sl Int)
  | [.sl x_n _ x_g]=>(⟨x_n,zar x_g⟩:(Sl Int))
  | _=>default
def znB (g:Nat→List PV):Nat→(Sl Int):=fun i=>zIp (g i)
theorem zkO (f:Nat→(Sl Int)):znB (fun i=>zcl (f i))=f:=rfl
structure Span where
  Low:Int
  High:Int
deriving Inhabited
abbrev zbM (x:Span):List PV:=[.int .i64 x.Low,.int .i64 x.High]
def zIq : List PV → Span
  | [.int .i64 x_Low,.int .i64 x_High]=>(⟨x_Low,x_High⟩:Span)
  | _=>default
def zfL (g:Nat→List PV):Nat→Span:=fun i=>zIq (g i)
theorem zfa (f:Nat→Span):zfL (fun i=>zbM (f i))=f:=rfl
structure Pulse where
  A:Int
  B:Int
  TimeA:Int
  TimeB:Int
  Flight:Span
  Jitter:Int
deriving Inhabited
structure Use where
  Tie:Int
  Back:Bool
deriving Inhabited
abbrev enc_75 (x:Use):List PV:=[.int .i64 x.Tie,.bool x.Back]
def zIr : List PV → Use
  | [.int .i64 x_Tie,.bool x_Back]=>(⟨x_Tie,x_Back⟩:Use)
  | _=>default
def zb6 (g:Nat→List PV):Nat→Use:=fun i=>zIr (g i)
theorem zb2 (f:Nat→Use):zb6 (fun i=>enc_75 (f i))=f:=rfl
abbrev zIs (x:(Sl Use)):List PV:=[.sl x.len 2 (fun i=>enc_75 (x.get i))]
structure Flash where
  A:Int
  B:Int
  Time:Int
  Flight:Int
  Wrong:Int
deriving Inhabited
structure web where
  Net:Net
  out:Mp
deriving Inhabited
abbrev zaD (x:web):List PV:=[.int .i64 x.Net.Nodes,.sl x.Net.Ties.len 4 (fun i=>enc_40 (x.Net.Ties.get i)),.fm (false,1,false,[none]) x.out.n x.out.F]
structure far where
  length:Int
  uses:Int
deriving Inhabited
abbrev zcy (x:far):List PV:=[.int .i64 x.length,.int .i64 x.uses]
def zEn : List PV → far
  | [.int .i64 x_length,.int .i64 x_uses]=>(⟨x_length,x_uses⟩:far)
  | _=>default
def zjI (g:Nat→List PV):Nat→far:=fun i=>zEn (g i)
theorem zje (f:Nat→far):zjI (fun i=>zcy (f i))=f:=rfl
abbrev zae (x:Tab):List PV:=zhv 0 80 x
def zbi (l:List PV):Tab:=zl8 (zm l)
structure Step where
  From:Int
  To:Int
  Length:Int
  Use:Use
deriving Inhabited
abbrev zdC (x:Step):List PV:=[.int .i64 x.From,.int .i64 x.To,.int .i64 x.Length,.int .i64 x.Use.Tie,.bool x.Use.Back]
structure step where
  Use:Use
  from_:Int
  to:Int
  length:Int
deriving Inhabited
abbrev zaf (x:step):List PV:=[.int .i64 x.Use.Tie,.bool x.Use.Back,.int .i64 x.from_,.int .i64 x.to,.int .i64 x.length]
def zEo : List PV → step
  | [.int .i64 x_Use_Tie,.bool x_Use_Back,.int .i64 x_from_,.int .i64 x_to,.int .i64 x_length]=>(⟨(⟨x_Use_Tie,x_Use_Back⟩:Use),x_from_,x_to,x_length⟩:step)
  | _=>default
def zhQ (g:Nat→List PV):Nat→step:=fun i=>zEo (g i)
theorem zew (f:Nat→step):zhQ (fun i=>zaf (f i))=f:=rfl
structure tie where
  Tie:Tie
  index:Int
deriving Inhabited
abbrev zqX (x:tie):List PV:=[.int .i64 x.Tie.From,.int .i64 x.Tie.To,.int .i64 x.Tie.Low,.int .i64 x.Tie.High,.int .i64 x.index]
abbrev zxz (x:Tab):List PV:=zhv 0 40 x
abbrev zaH (x:(Sl Tab)):List PV:=[.sl x.len 80 (fun i=>zae (x.get i))]
abbrev tL (T:Tab) (i:Int):Int:=tg 80 T (0+i.toNat * 2+0)
abbrev tU (T:Tab) (i:Int):Int:=tg 80 T (0+i.toNat * 2+0+1)
abbrev tV (T:Tab) (i:Int):Int:=tg 80 T (0+i.toNat * 2+1)
abbrev nvr (x y:Int):Bool:=match (x == (1000000000000:Int)) with | true=>(match (y == (0:Int)) with | true=>true | false=>false) | false=>false
end Go.Proofs
namespace Go.Pm
open Go Go.Deep

theorem zBU (b o i j:Nat):((⟨b,o,none⟩:Addr).add i).add j=⟨b,o+i+j,none⟩:=by
 simp only [Addr.add]
 by_cases h1:i=0
 ·subst h1
  by_cases h2:j=0
  ·subst h2;rfl
  ·rw [if_neg h2];rfl
 ·rw [if_neg h1]
  by_cases h2:j=0
  ·subst h2;rfl
  ·rw [if_neg h2]
def H0 (w:World):Fz:=fun b=>(w.heap[b]?).map .fz
theorem hw_H0 (w:World):Hw (H0 w) w:=by
 intro b x h
 unfold H0 at h
 cases e:w.heap[b]? with
 | none=>rw [e] at h;cases h
 | some o=>rw [e] at h;cases h;exact ⟨o,rfl,rfl⟩
def wfI (x:Int):Prop:=-9223372036854775808≤x∧x≤9223372036854775807
section
variable {H:Type} {en:TypeId×Value→H} {P:Program} {w:World} {sp:Nat→Bool} {held:Bool}
def Rd (H:Type) (en:TypeId×Value→H) (P:Program) (w:World) (sp:Nat→Bool) (held:Bool) (t:TypeId) {α:Type} (enc:α→List PV) (wf:α→Prop):Prop :=
 ∀ (fuel:Nat) (cs:List Value) (x:DataW H×List MemPlace),DataW.trod en P w 0 sp held fuel t cs=some x→∃ a:α,RL (Rep (H0 w)) (enc a) cs∧wf a
theorem zIt {t:TypeId} (ht:P.underlying t=some (.int .i64)):Rd H en P w sp held t (fun x=>[.int .i64 x]) wfI:=by
 intro fuel cs x h
 obtain ⟨n,rfl,_,hw⟩:=DataW.trod_int ht h
 refine ⟨n,⟨.int _ _,trivial⟩,?_⟩
 simp only [Lit.wf,Bool.and_eq_true,decide_eq_true_eq] at hw
 exact ⟨hw.1,hw.2⟩
theorem zEp {t:TypeId} (ht:P.underlying t=some .bool):Rd H en P w sp held t (fun x=>[.bool x]) (fun _=>True):=by
 intro fuel cs x h
 obtain ⟨b,rfl,_⟩:=DataW.trod_bool ht h
 exact ⟨b,⟨.bool _,trivial⟩,trivial⟩
theorem zkP {t : TypeId} {fs : Array Field} (ht : P.underlying t = some (.struct fs)) {fuel : Nat} {cs : List Value} {x : DataW H × List MemPlace} (h : DataW.trod en P w 0 sp held fuel t cs = some x) :
  cs.length=P.cellsOf t∧∀ (i:Nat) (f:Field),fs[i]? = some f→∃ n y,DataW.trod en P w 0 sp held n f.type ((cs.drop f.offset).take (P.cellsOf f.type))=some y:=by
 obtain ⟨xs,n,_,_,hl,hx,hf⟩:=DataW.trod_struct ht h
 refine ⟨hl,fun i f hi=>?_⟩
 have hlt:i < xs.length:=by rw [hx];exact (Array.getElem?_eq_some_iff.1 hi).1
 exact ⟨n,xs[i],by rw [hf i f hi,List.getElem?_eq_getElem hlt]⟩
theorem znC {t e : TypeId} {α : Type} [Inhabited α] {enc : α → List PV} {wf : α → Prop} {s : Nat} (ht : P.underlying t = some (.slice e)) (hc : P.cellsOf e = s) (hs : 0 < s) (hlen : ∀ a, (enc a).length = s)
    (hel:Rd H en P w sp held e enc wf):Rd H en P w sp held t (fun x:Sl α=>[.sl x.len s (fun i=>enc (x.get i))]) (fun x=>x.len≤9223372036854775807∧∀ i,i < x.len→wf (x.get i)):=by
  intro fuel cs x h
  rcases open_slice ht h with ⟨rfl,_⟩ | ⟨a,len,cap,m,n,D,Pl,rfl,_,hl,hm,hmm,_,hget⟩
  · exact ⟨⟨0,default⟩,⟨.sl0 _ _,trivial⟩,Nat.zero_le _,fun i hi=>absurd hi (Nat.not_lt_zero i)⟩
  · by_cases h0 : len = 0
    · subst h0
      exact ⟨⟨0,default⟩,⟨.sle _ _ _ _,trivial⟩,Nat.zero_le _,fun i hi=>absurd hi (Nat.not_lt_zero i)⟩
    · have hlm : len ≤ m := by rw [hmm]; split <;> omega
      rw [hc] at hget
      have hex:∀ i,i < len→∃ y:α,(∃ cs',w.cells? 0 (a.add (i * s)) s=some cs'∧RL (Rep (H0 w)) (enc y) cs')∧wf y:=by
        intro i hi
        obtain ⟨cs',h1,h2⟩:=hget i (by omega)
        obtain ⟨y,h3,h4⟩:=hel _ _ _ h2
        exact ⟨y,⟨cs',h1,h3⟩,h4⟩
      have hch:∃ f:Nat→α,∀ i,i < len→(∃ cs',w.cells? 0 (a.add (i * s)) s=some cs'∧RL (Rep (H0 w)) (enc (f i)) cs')∧wf (f i):=by
        refine ⟨fun i=>if hi:i < len then Classical.choose (hex i hi) else default,fun i hi=>?_⟩
        simp only [dif_pos hi]
        exact Classical.choose_spec (hex i hi)
      obtain ⟨f,hf⟩:=hch
      -- the block
      have hcell:∀ i,i < len→∀ j,j < s→∃ cs',w.cells? 0 (a.add (i * s)) s=some cs'∧RL (Rep (H0 w)) (enc (f i)) cs'∧w.cell? ((a.add (i * s)).add j)=cs'[j]?∧cs'.length=s:=by
        intro i hi j hj
        obtain ⟨⟨cs',h1,h2⟩,_⟩:=hf i hi
        obtain ⟨_,h3,h4⟩:=World.cells?_some h1
        exact ⟨cs',h1,h2,h4 j hj,h3⟩
      obtain ⟨cs0,_,_,hc0,hl0⟩:=hcell 0 (by omega) 0 hs
      have ha0:w.cell? a=cs0[0]?:=by simpa [Addr.add] using hc0
      rw [List.getElem?_eq_getElem (by omega)] at ha0
      obtain ⟨C,ty,fr,hblk,hspot⟩:∃ C ty fr,w.heap[a.block]? = some (.cells C ty fr)∧a.spot=none:=by
        unfold World.cell? at ha0
        split at ha0
        · rename_i C ty fr hb
          refine ⟨C,ty,fr,hb,?_⟩
          cases hsp:a.spot with
          | none=>rfl
          | some k=>rw [hsp] at ha0;simp at ha0
        · cases ha0
      have ea:a=⟨a.block,a.off,none⟩:=by rw [← hspot]
      have hat:∀ i j,i < len→j < s→∃ cs',RL (Rep (H0 w)) (enc (f i)) cs'∧C[a.off+i * s+j]? = cs'[j]?∧cs'.length=s:=by
        intro i j hi hj
        obtain ⟨cs',_,h2,h3,h4⟩:=hcell i hi j hj
        refine ⟨cs',h2,?_,h4⟩
        rw [← h3]
        have e2:(a.add (i * s)).add j=⟨a.block,a.off+i * s+j,none⟩:=(congrArg (fun z:Addr=>(z.add (i * s)).add j) ea).trans (zBU _ _ _ _)
        rw [e2]
        simp [World.cell?,hblk]
      refine ⟨⟨len,f⟩,⟨?_,trivial⟩,by simp only [maxLen] at hm;show len≤_;omega,fun i hi=>(hf i hi).2⟩
      rw [ea]
      refine .sl len s _ a.block a.off cap C ty fr (fun i j=>C.getD (a.off+i * s+j) undef) (by simp [H0,hblk]) hl (fun i _=>hlen _) ?_ ?_
      · intro i j x hi hx
        have hj:j < s:=by have:=(List.getElem?_eq_some_iff.1 hx).1;rw [hlen] at this;exact this
        obtain ⟨cs',h1,h2,h3⟩:=hat i j hi hj
        rw [Array.getD_eq_getD_getElem?,h2,List.getElem?_eq_getElem (by omega)]
        rfl
      · intro i j x hi hx
        have hj:j < s:=by have:=(List.getElem?_eq_some_iff.1 hx).1;rw [hlen] at this;exact this
        obtain ⟨cs',h1,h2,h3⟩:=hat i j hi hj
        obtain ⟨v,hv,hr⟩:=h1.get j x hx
        rw [Array.getD_eq_getD_getElem?,h2,hv]
        exact hr
theorem zc5 {α:Type} (l:List α) (o s:Nat):l.drop o=(l.drop o).take s ++ l.drop (o+s):=by
 rw [← List.drop_drop]
 exact (List.take_append_drop s (l.drop o)).symm
theorem okWide_agg {t:TypeId} {fs:Array Field} {r:Reach} {base:Nat} {v:Value} (ht:P.underlying t=some (.struct fs)) (h:Value.okWide P w r base t v):∃ cs,v=.agg cs:=by
 unfold Value.okWide at h
 rw [ht] at h
 obtain ⟨cs,hv,_⟩:=h
 exact ⟨cs,hv⟩
def zK1 : TypeDesc → Bool
  | .struct _=>false
  | .array _ _=>false
  | _=>true
theorem okWide_one {t:TypeId} {d:TypeDesc} {r:Reach} {base:Nat} {v:Value} (ht:P.underlying t=some d) (hd:zK1 d=true) (h:Value.okWide P w r base t v):v.cells.toList=[v]:=by
 unfold Value.okWide at h
 rw [ht] at h
 cases v with
 | agg cs =>
  exfalso
  cases d <;> first | (cases hd;done) | (simp only [Cell.okWide,Cell.ok,ht] at h)
 | _=>rfl
theorem pa_one {h:Fz} {p:PV} {v:Value} (hv:v.cells.toList=[v]) (r:RL (Rep h) [p] v.cells.toList):paR h (.one p) v:=by
 rw [hv] at r
 exact r.1
theorem pa_agg {h:Fz} {l:List PV} {v:Value} (hv:∃ cs,v=.agg cs) (r:RL (Rep h) l v.cells.toList):paR h (.agg l) v:=by
 obtain ⟨cs,rfl⟩:=hv
 exact ⟨cs.toList,by simp,r⟩
theorem below_H0 {w':World} (b:Bel (H0 w) w.heap.size w w'):Go.RowKit.Below w.heap.size w w' :=
 ⟨b.os,b.tape,b.output,b.size,fun k hk=>b.block k hk fun F e=>by
  unfold H0 at e
  cases hb:w.heap[k]? <;> rw [hb] at e <;> cases e⟩
end
end Go.Pm
namespace Go.Proofs
open Go Go.Pm
set_option maxRecDepth 100000
set_option linter.unusedVariables false
attribute [local irreducible] Go.Pm.vcFun Go.Pm.vc Go.Pm.vcIter
theorem C_3:Tryd.prog.cellsOf 3=1:=by kernel_rfl
theorem C_4:Tryd.prog.cellsOf 4=1:=by kernel_rfl
theorem zMJ:Tryd.prog.cellsOf 22=1:=by kernel_rfl
theorem zMK:Tryd.prog.cellsOf 24=2:=by kernel_rfl
theorem zMj:Tryd.prog.cellsOf 40=4:=by kernel_rfl
theorem zMk:Tryd.prog.cellsOf 75=2:=by kernel_rfl
abbrev wf_3 (x:Int):Prop:=wfI x
theorem rd_3 {H:Type} {en:TypeId×Value→H} {w:World} {sp:Nat→Bool} {held:Bool} : Rd H en Tryd.prog w sp held 3 enc_3 wf_3:=zIt Tryd.underlying3
def zIu (x:Tie):Prop:=wf_3 x.From∧wf_3 x.To∧wf_3 x.Low∧wf_3 x.High
theorem zK2 {H:Type} {en:TypeId×Value→H} {w:World} {sp:Nat→Bool} {held:Bool} : Rd H en Tryd.prog w sp held 40 enc_40 zIu:=by
  intro fuel cs x h
  obtain ⟨hl,hf⟩:=zkP Tryd.underlying40 h
  rw [zMj] at hl
  obtain ⟨n0,y0,g0⟩:=hf 0 _ rfl
  have g0:DataW.trod en Tryd.prog w 0 sp held n0 3 ((cs.drop 0).take (Tryd.prog.cellsOf 3))=some y0:=g0
  rw [C_3] at g0
  obtain ⟨a0,r0,w0⟩:=rd_3 _ _ _ g0
  obtain ⟨n1,y1,g1⟩:=hf 1 _ rfl
  have g1:DataW.trod en Tryd.prog w 0 sp held n1 3 ((cs.drop 1).take (Tryd.prog.cellsOf 3))=some y1:=g1
  rw [C_3] at g1
  obtain ⟨a1,r1,w1⟩:=rd_3 _ _ _ g1
  obtain ⟨n2,y2,g2⟩:=hf 2 _ rfl
  have g2:DataW.trod en Tryd.prog w 0 sp held n2 3 ((cs.drop 2).take (Tryd.prog.cellsOf 3))=some y2:=g2
  rw [C_3] at g2
  obtain ⟨a2,r2,w2⟩:=rd_3 _ _ _ g2
  obtain ⟨n3,y3,g3⟩:=hf 3 _ rfl
  have g3:DataW.trod en Tryd.prog w 0 sp held n3 3 ((cs.drop 3).take (Tryd.prog.cellsOf 3))=some y3:=g3
  rw [C_3] at g3
  obtain ⟨a3,r3,w3⟩:=rd_3 _ _ _ g3
  have z:cs.drop 4=[]:=List.drop_eq_nil_of_le (by omega)
  have R:=(r0.append (r1.append (r2.append (r3.append (show RL (Rep (H0 w)) [] (cs.drop 4) by rw [z];exact zow)))))
  rw [← (show cs.drop 3=(cs.drop 3).take 1 ++ cs.drop 4 from zc5 cs 3 1)] at R
  rw [← (show cs.drop 2=(cs.drop 2).take 1 ++ cs.drop 3 from zc5 cs 2 1)] at R
  rw [← (show cs.drop 1=(cs.drop 1).take 1 ++ cs.drop 2 from zc5 cs 1 1)] at R
  rw [← (show cs.drop 0=(cs.drop 0).take 1 ++ cs.drop 1 from zc5 cs 0 1)] at R
  exact ⟨⟨a0,a1,a2,a3⟩,R,⟨w0,w1,w2,w3⟩⟩
def zIv (x:(Sl Tie)):Prop:=x.len≤9223372036854775807∧∀ i,i < x.len→zIu (x.get i)
theorem zK3 {H:Type} {en:TypeId×Value→H} {w:World} {sp:Nat→Bool} {held:Bool} : Rd H en Tryd.prog w sp held 22 zIo zIv:=znC Tryd.underlying22 zMj (by decide) (fun _=>rfl) zK2
def wf_24 (x:Net):Prop:=wf_3 x.Nodes∧zIv x.Ties
theorem rd_24 {H:Type} {en:TypeId×Value→H} {w:World} {sp:Nat→Bool} {held:Bool} : Rd H en Tryd.prog w sp held 24 enc_24 wf_24:=by
  intro fuel cs x h
  obtain ⟨hl,hf⟩:=zkP Tryd.underlying24 h
  rw [zMK] at hl
  obtain ⟨n0,y0,g0⟩:=hf 0 _ rfl
  have g0:DataW.trod en Tryd.prog w 0 sp held n0 3 ((cs.drop 0).take (Tryd.prog.cellsOf 3))=some y0:=g0
  rw [C_3] at g0
  obtain ⟨a0,r0,w0⟩:=rd_3 _ _ _ g0
  obtain ⟨n1,y1,g1⟩:=hf 1 _ rfl
  have g1:DataW.trod en Tryd.prog w 0 sp held n1 22 ((cs.drop 1).take (Tryd.prog.cellsOf 22))=some y1:=g1
  rw [zMJ] at g1
  obtain ⟨a1,r1,w1⟩:=zK3 _ _ _ g1
  have z:cs.drop 2=[]:=List.drop_eq_nil_of_le (by omega)
  have R:=(r0.append (r1.append (show RL (Rep (H0 w)) [] (cs.drop 2) by rw [z];exact zow)))
  rw [← (show cs.drop 1=(cs.drop 1).take 1 ++ cs.drop 2 from zc5 cs 1 1)] at R
  rw [← (show cs.drop 0=(cs.drop 0).take 1 ++ cs.drop 1 from zc5 cs 0 1)] at R
  exact ⟨⟨a0,a1⟩,R,⟨w0,w1⟩⟩
def wf_27 (x:(Sl Int)):Prop:=x.len≤9223372036854775807∧∀ i,i < x.len→wf_3 (x.get i)
theorem rd_27 {H:Type} {en:TypeId×Value→H} {w:World} {sp:Nat→Bool} {held:Bool} : Rd H en Tryd.prog w sp held 27 zcl wf_27:=znC Tryd.underlying27 C_3 (by decide) (fun _=>rfl) rd_3
abbrev zMl (_:Bool):Prop:=True
theorem zML {H:Type} {en:TypeId×Value→H} {w:World} {sp:Nat→Bool} {held:Bool} : Rd H en Tryd.prog w sp held 4 zKZ zMl:=zEp Tryd.underlying4
def zIw (x:Use):Prop:=wf_3 x.Tie∧zMl x.Back
theorem zK4 {H:Type} {en:TypeId×Value→H} {w:World} {sp:Nat→Bool} {held:Bool} : Rd H en Tryd.prog w sp held 75 enc_75 zIw:=by
  intro fuel cs x h
  obtain ⟨hl,hf⟩:=zkP Tryd.underlying75 h
  rw [zMk] at hl
  obtain ⟨n0,y0,g0⟩:=hf 0 _ rfl
  have g0:DataW.trod en Tryd.prog w 0 sp held n0 3 ((cs.drop 0).take (Tryd.prog.cellsOf 3))=some y0:=g0
  rw [C_3] at g0
  obtain ⟨a0,r0,w0⟩:=rd_3 _ _ _ g0
  obtain ⟨n1,y1,g1⟩:=hf 1 _ rfl
  have g1:DataW.trod en Tryd.prog w 0 sp held n1 4 ((cs.drop 1).take (Tryd.prog.cellsOf 4))=some y1:=g1
  rw [C_4] at g1
  obtain ⟨a1,r1,w1⟩:=zML _ _ _ g1
  have z:cs.drop 2=[]:=List.drop_eq_nil_of_le (by omega)
  have R:=(r0.append (r1.append (show RL (Rep (H0 w)) [] (cs.drop 2) by rw [z];exact zow)))
  rw [← (show cs.drop 1=(cs.drop 1).take 1 ++ cs.drop 2 from zc5 cs 1 1)] at R
  rw [← (show cs.drop 0=(cs.drop 0).take 1 ++ cs.drop 1 from zc5 cs 0 1)] at R
  exact ⟨⟨a0,a1⟩,R,⟨w0,w1⟩⟩
def wf_67 (x:(Sl Use)):Prop:=x.len≤9223372036854775807∧∀ i,i < x.len→zIw (x.get i)
theorem rd_67 {H:Type} {en:TypeId×Value→H} {w:World} {sp:Nat→Bool} {held:Bool} : Rd H en Tryd.prog w sp held 67 zIs wf_67:=znC Tryd.underlying67 zMk (by decide) (fun _=>rfl) zK4
end Go.Proofs
namespace Go.Proofs
open Go Go.Pm
set_option maxRecDepth 100000
set_option linter.unusedVariables false
attribute [local irreducible] Go.Pm.vcFun Go.Pm.vc Go.Pm.vcIter
abbrev T81:Tabs:=Tabs.nil
theorem zK5:TabsOk Tryd.prog T81:=TabsOk.nil
abbrev G81:Ctrs:=csm T81 (fun _ _=>[]) (fun _=>false)
def zIx:Ann:=⟨15,[(0,zK [0,1,2] []),(1,zK [6] [])],
 [],
 [],
 [],[]⟩
abbrev R81:=Bool
abbrev e81 (r:R81):List PA:=[.one (.bool r)]
section
variable {K:List PA→Prop} {n:Int} {low:Int} {high:Int}
def s81 (n:Int) (low:Int) (high:Int):Bool :=
  (cond (decide (n ≥ low))
 (decide (n≤high))
 false)
end
theorem q81 (n:Int) (low:Int) (high:Int) (K:List PA→Prop) (hk:K (e81 (s81 n low high))):vcFun Tryd.prog G81 zIx 81 [.one (.int .i64 n),.one (.int .i64 low),.one (.int .i64 high)] K :=
  zbd (by kernel_rfl) (zt hk (fun hk=>hk) (fun hk=>hk))
def zvx : List PA → COut
  | [.one (.int .i64 a0),.one (.int .i64 a1),.one (.int .i64 a2)]=>.tot [.one (.bool (s81 a0 a1 a2))]
  | _=>.no
theorem zIy:zaw Tryd.prog 81:=⟨_,rfl,rfl,by kernel_rfl⟩
theorem zKB:Ok Tryd.prog 81 zvx:=zbF zK5 zIy fun args K h=>by
  unfold zvx at h
  split at h
  · rename_i a0 a1 a2
    have hk:=h
    exact ⟨(fun _ _=>[]),(fun _=>false),zIx,q81 a0 a1 a2 K hk⟩
  · exact h.elim
abbrev T78:Tabs:=(Tabs.nil.addF 81 zvx)
theorem zK6:TabsOk Tryd.prog T78:=(TabsOk.nil.addF zKB)
abbrev G78:Ctrs:=csm T78 (fun _ _=>[]) (fun _=>false)
def zEq:Ann:=⟨55,[(0,zK [1,2] [2]),(1,zK [1,2,5] [2]),(2,zK [1,2,5,6] [2]),(3,zK [4] [])],
 [],
 [(2,zK [1,2,5] [2]),(3,zK [1,2,5,6] [2])],
 [],[]⟩
abbrev R78:=Bool
abbrev e78 (r:R78):List PA:=[.one (.bool r)]
@[irreducible] def z78:=ptF Tryd.prog G78 zEq Tryd.f78
section
variable {K:List PA→Prop} {t:Tie} {nodes:Int} {znD:Bool} {zuj:Bool}
def zkQ (t:Tie) (nodes:Int) (znD:Bool) (zuj:Bool):Bool :=
  (cond (s81 t.From (0:Int) (w64 (nodes - (1:Int))))
 (cond (s81 t.To (0:Int) (w64 (nodes - (1:Int))))
 (cond (t.From != t.To)
 (cond znD
 (cond zuj
 (decide (t.Low≤t.High))
 false)
 false)
 false)
 false)
 false)
theorem zxA (hk:K (e78 (zkQ t nodes znD zuj))):z78 K [1,1,1] [] ⟨[(1,zI nodes),(2,zp 2 0),(5,zB znD),(6,zB zuj)],[(2,.box 40 (zm (enc_40 t)))],[]⟩:=zbd (by kernel_rfl) (zt hk (fun hk=>(zt hk (fun hk=>(zt hk (fun hk=>(zt hk (fun hk=>(zt hk (fun hk=>hk) (fun hk=>hk))) (fun hk=>hk))) (fun hk=>hk))) (fun hk=>hk))) (fun hk=>hk))
def zkR (t:Tie) (nodes:Int) (znD:Bool):Bool :=
  (cond (t.High == (1000000000000:Int))
 (zkQ t nodes znD true)
 (zkQ t nodes znD (s81 t.High (-1000000000:Int) (1000000000:Int))))
theorem zxB (hk:K (e78 (zkR t nodes znD))):z78 K [1,1] [] ⟨[(1,zI nodes),(2,zp 2 0),(5,zB znD)],[(2,.box 40 (zm (enc_40 t)))],[]⟩:=zbd (by kernel_rfl) (zt hk (fun hk=>(zxA hk)) (fun hk=>(zxA hk)))
def s78 (t:Tie) (nodes:Int):Bool :=
  (cond (t.Low == (-1000000000000:Int))
 (zkR t nodes true)
 (zkR t nodes (s81 t.Low (-1000000000:Int) (1000000000:Int))))
end
theorem q78 (t:Tie) (nodes:Int) (K:List PA→Prop) (hk:K (e78 (s78 t nodes))):vcFun Tryd.prog G78 zEq 78 [.agg (enc_40 t),.one (.int .i64 nodes)] K :=
  zbd (by kernel_rfl) (zt hk (fun hk=>(zxB hk)) (fun hk=>(zxB hk)))
def zEr : List PA → COut
  | [.agg [.int .i64 zfM,.int .i64 zpm,.int .i64 zjf,.int .i64 zfN],.one (.int .i64 a1)]=>.tot [.one (.bool (s78 (⟨zfM,zpm,zjf,zfN⟩:Tie) a1))]
  | _=>.no
theorem zIz:zaw Tryd.prog 78:=⟨_,rfl,rfl,by kernel_rfl⟩
theorem zMM:Ok Tryd.prog 78 zEr:=zbF zK6 zIz fun args K h=>by
  unfold zEr at h
  split at h
  · rename_i zfM zpm zjf zfN a1
    have hk:=h
    exact ⟨(fun _ _=>[]),(fun _=>false),zEq,q78 (⟨zfM,zpm,zjf,zfN⟩:Tie) a1 K hk⟩
  · exact h.elim
abbrev T67:Tabs:=((Tabs.nil.addF 78 zEr).addF 81 zvx)
theorem zK7:TabsOk Tryd.prog T67:=((TabsOk.nil.addF zMM).addF zKB)
abbrev G67:Ctrs:=csm T67 (fun _ _=>[]) (fun _=>false)
def zBV:Ann:=⟨27,[(0,zK [1] [1]),(1,zK [1,6,7,8] [1]),(2,zK [1,6,7,8,9] [1]),(3,zK [1,4,6,7,8] [1,4]),(4,zK [1,6,7,8,16] [1]),(5,zK [2] []),(6,zK [1,6,7,8] [1]),(7,zK [2] [])],
 [(2,zK [1,6,7,8] [1])],
 [(5,zK [1,6,7,8,16] [1])],
 [],[]⟩
abbrev R67:=Bool
abbrev e67 (r:R67):List PA:=[.one (.bool r)]
@[irreducible] def z67:=ptF Tryd.prog G67 zBV Tryd.f67
def zC4 (n:Net) (zdJ:Int):St:=⟨[(1,zp 1 0),(6,zS enc_40 4 n.Ties),(7,zI (n.Ties.len:Int)),(8,zI zdJ)],[(1,.box 24 (zm (enc_24 n)))],[]⟩
abbrev zEs (K:List PA→Prop) (n:Net) (X:St→Prop) (P:Int→Bool) (S:Int→Bool):Prop:=∀ ⦃zdJ:Int⦄,P zdJ=true→K (e67 (S zdJ))→X (zC4 n zdJ)
section
variable {K:List PA→Prop} {n:Net} {zdJ:Int} {X0:St→Prop} {P0:Int→Bool} {S0:Int→Bool} {zEt:Int} {zqY:Bool}
def zqZ (S0:Int→Bool) (n:Net) (zEt:Int) (zqY:Bool):Bool :=
  (cond zqY
 false
 (S0 (w64 (zEt+(1:Int)))))
def zq0 (P0:Int→Bool) (n:Net) (zEt:Int) (zqY:Bool):Bool :=
  (cond zqY
 true
 (P0 (w64 (zEt+(1:Int)))))
theorem zEu (hX0:zEs K n X0 P0 S0) (hs:zq0 P0 n zEt zqY=true) (hk:K (e67 (zqZ S0 n zEt zqY))):z67 K [1,0,1,0,0,1,1,0,0,1,1] [X0] ⟨[(1,zp 1 0),(6,zS enc_40 4 n.Ties),(7,zI (n.Ties.len:Int)),(8,zI zEt),(16,zB zqY)],[(1,.box 24 (zm (enc_24 n)))],[]⟩:=zbd (by kernel_rfl) (zc hs hk (fun hs hk=>hk) (fun hs hk=>(hX0 hs hk)))
def zis (n:Net) (S0:Int→Bool) (zdJ:Int):Bool :=
  (cond (decide (zdJ < (n.Ties.len : Int)))
 (zqZ S0 n zdJ (!(s78 (n.Ties.get zdJ.toNat) n.Nodes)))
 (cond (s81 n.Nodes (1:Int) (40:Int))
 (decide ((n.Ties.len:Int)≤(200:Int)))
 false))
def zit (n:Net) (P0:Int→Bool) (zdJ:Int):Bool :=
  (cond (decide (zdJ < (n.Ties.len : Int)))
 (decide ((0≤zdJ∧zdJ < (n.Ties.len:Int))) &&
 (zq0 P0 n zdJ (!(s78 (n.Ties.get zdJ.toNat) n.Nodes))))
 true)
def ziu (n:Net):Nat→Int→Bool:=lpO (fun _=>default) (zis n)
def ziv (n:Net):Nat→Int→Bool:=lpO (fun _=>false) (zit n)
def zxC (n:Net) (zdJ:Int):Bool:=ziu n Fuel zdJ
def zxD (n:Net) (zdJ:Int):Bool:=ziv n Fuel zdJ
theorem zEv (hs:zxD n zdJ=true) (hk:K (e67 (zxC n zdJ))):z67 K [1,0,1,0] [] (zC4 n zdJ) :=
  zl (fun X=>z67 K [1,0,1,0,0] [X]) (by kernel_rfl) fun X0 hX =>
  (show ∀ k, zEs K n X0 (ziv n k) (ziu n k) from zjH _ _ (zit n) (zis n) (zEs K n X0)
 (by intro _ hs;exact absurd hs Bool.false_ne_true)
 (by intro P0 S0 hX0 zdJ hs hk;exact hX _ (zbd (by kernel_rfl) (zc hs hk (fun hs hk=>(za2 hs fun hc hs=>And.intro hc (zEu hX0 hs hk))) (fun hs hk=>(zt hk (fun hk=>hk) (fun hk=>hk))))))) _ hs hk
def s67 (n:Net):Bool :=
  (zxC n (0:Int))
def p67 (n:Net):Bool :=
  (zxD n (0:Int))
end
theorem q67 (n:Net) (K:List PA→Prop) (hs:p67 n=true) (hk:K (e67 (s67 n))):vcFun Tryd.prog G67 zBV 67 [.agg (enc_24 n)] K :=
  zbd (by kernel_rfl) (zEv hs hk)
def zvy : List PA → COut
  | [.agg [.int .i64 zah,.sl zad zaz zac]]=>.det (IsE enc_40 4 zaz zac∧p67 (⟨zah,(⟨zad,zal zac⟩:(Sl Tie))⟩:Net)=true) [.one (.bool (s67 (⟨zah,(⟨zad,zal zac⟩:(Sl Tie))⟩:Net)))]
  | [.agg [.int .i64 zah,.nils]]=>.det (p67 (⟨zah,(⟨0,fun _=>default⟩:(Sl Tie))⟩:Net)=true) [.one (.bool (s67 (⟨zah,(⟨0,fun _=>default⟩:(Sl Tie))⟩:Net)))]
  | _=>.no
theorem zIA:zaw Tryd.prog 67:=⟨_,rfl,rfl,by kernel_rfl⟩
theorem zKC:Ok Tryd.prog 67 zvy:=zir zK7 zIA fun args K h=>by
  unfold zvy at h
  split at h
  · rename_i zah zad zaz zac
    obtain ⟨⟨⟨rfl,zaq,rfl⟩,hs⟩,hk⟩:=h
    try rw [zam zaq] at hs
    try rw [zam zaq] at hk
    exact ⟨_,zfK zgR _,(fun _ _=>[]),(fun _=>false),zBV,q67 (⟨zah,(⟨zad,zaq⟩:(Sl Tie))⟩:Net) (Wk K) hs (zgS hk)⟩
  · rename_i zah
    obtain ⟨hs,hk⟩:=h
    exact ⟨_,(zib (.agg (zib (.rfl _) (zib (.nil _ _) zow))) zow),(fun _ _=>[]),(fun _=>false),zBV,q67 (⟨zah,(⟨0,fun _=>default⟩:(Sl Tie))⟩:Net) (Wk K) hs (zgS hk)⟩
  · exact h.elim
abbrev T93:Tabs:=Tabs.nil
theorem zK8:TabsOk Tryd.prog T93:=TabsOk.nil
abbrev G93:Ctrs:=csm T93 (fun _ _=>[]) (fun _=>false)
def zEw:Ann:=⟨4,[(0,zK [1] [1]),(1,zK [2] [])],
 [],
 [],
 [],[]⟩
theorem zEx (w : web) (K : List PA → Prop) :
  vcFun Tryd.prog G93 zEw 93 [.one (.fp (zaD w) 0)] K =
  (K [.one (.fn 110 [] [.fp [.fp (zaD w) 0] 0])]):=by kernel_rfl
theorem q93 (w:web) (K:List PA→Prop) (hk:K [.one (.fn 110 [] [.fp [.fp (zaD w) 0] 0])]):vcFun Tryd.prog G93 zEw 93 [.one (.fp (zaD w) 0)] K:=zbd (zEx w K) hk
def zpn : List PA → COut
  | [.one (.fp [.int .i64 zau,.sl zan zaP zao,.fm zbK zaR zaS] 0)]=>.det (IsE enc_40 4 zaP zao∧zbK=(false,1,false,[none])) [.one (.fn 110 [] [.fp [.fp (zaD (⟨(⟨(⟨zau,(⟨zan,zal zao⟩:(Sl Tie))⟩:Net),(⟨zaR,zaS⟩:Mp)⟩:web).Net,((⟨(⟨zau,(⟨zan,zal zao⟩:(Sl Tie))⟩:Net),(⟨zaR,zaS⟩:Mp)⟩:web).out)⟩:web)) 0] 0])]
  | _=>.no
theorem zIB:zaw Tryd.prog 93:=⟨_,rfl,rfl,by kernel_rfl⟩
theorem zHF:Ok Tryd.prog 93 zpn:=zbF zK8 zIB fun args K h=>by
  unfold zpn at h
  split at h
  · rename_i zau zan zaP zao zbK zaR zaS
    obtain ⟨⟨⟨rfl,zaC,rfl⟩,rfl⟩,hk⟩:=h
    try rw [zam zaC] at hk
    exact ⟨fun _ _=>[],fun _=>false,zEw,q93 (⟨(⟨zau,(⟨zan,zaC⟩:(Sl Tie))⟩:Net),(⟨zaR,zaS⟩:Mp)⟩:web) K hk⟩
  · exact h.elim
abbrev T94:Tabs:=Tabs.nil
theorem zK9:TabsOk Tryd.prog T94:=TabsOk.nil
abbrev G94:Ctrs:=csm T94 (fun _ _=>[]) (fun _=>false)
def zIC:Ann:=⟨21,[(0,zK [1,2] [1,2]),(1,zK [2,3] [2])],
 [],
 [],
 [],[]⟩
abbrev R94:=(step×Bool)
abbrev e94 (r:R94):List PA:=[.agg [.int .i64 r.1.Use.Tie,.bool r.1.Use.Back,.int .i64 r.1.from_,.int .i64 r.1.to,.int .i64 r.1.length],.one (.bool r.2)]
section
variable {K:List PA→Prop} {t:tie}
def s94 (t:tie):(step×Bool) :=
  ((⟨(⟨t.index,false⟩:Use),t.Tie.From,t.Tie.To,t.Tie.High⟩:step),(t.Tie.High != (1000000000000:Int)))
end
theorem q94 (t:tie) (K:List PA→Prop) (hk:K (e94 (s94 t))):vcFun Tryd.prog G94 zIC 94 [.agg (zqX t)] K :=
  zbd (by kernel_rfl) hk
def zBW : List PA → COut
  | [.agg [.int .i64 zbo,.int .i64 zbZ,.int .i64 zbG,.int .i64 zbp,.int .i64 zcd]]=>.tot [.agg [.int .i64 (((s94 (⟨(⟨zbo,zbZ,zbG,zbp⟩:Tie),zcd⟩:tie)).1).Use.Tie),.bool (((s94 (⟨(⟨zbo,zbZ,zbG,zbp⟩:Tie),zcd⟩:tie)).1).Use.Back),.int .i64 (((s94 (⟨(⟨zbo,zbZ,zbG,zbp⟩:Tie),zcd⟩:tie)).1).from_),.int .i64 (((s94 (⟨(⟨zbo,zbZ,zbG,zbp⟩:Tie),zcd⟩:tie)).1).to),.int .i64 (((s94 (⟨(⟨zbo,zbZ,zbG,zbp⟩:Tie),zcd⟩:tie)).1).length)],.one (.bool ((s94 (⟨(⟨zbo,zbZ,zbG,zbp⟩:Tie),zcd⟩:tie)).2))]
  | _=>.no
theorem zID:zaw Tryd.prog 94:=⟨_,rfl,rfl,by kernel_rfl⟩
theorem zMm:Ok Tryd.prog 94 zBW:=zbF zK9 zID fun args K h=>by
  unfold zBW at h
  split at h
  · rename_i zbo zbZ zbG zbp zcd
    have hk:=h
    exact ⟨(fun _ _=>[]),(fun _=>false),zIC,q94 (⟨(⟨zbo,zbZ,zbG,zbp⟩:Tie),zcd⟩:tie) K hk⟩
  · exact h.elim
abbrev T95:Tabs:=Tabs.nil
theorem zLa:TabsOk Tryd.prog T95:=TabsOk.nil
abbrev G95:Ctrs:=csm T95 (fun _ _=>[]) (fun _=>false)
def zIE:Ann:=⟨22,[(0,zK [1,2] [1,2]),(1,zK [2,3] [2])],
 [],
 [],
 [],[]⟩
abbrev R95:=(step×Bool)
abbrev e95 (r:R95):List PA:=[.agg [.int .i64 r.1.Use.Tie,.bool r.1.Use.Back,.int .i64 r.1.from_,.int .i64 r.1.to,.int .i64 r.1.length],.one (.bool r.2)]
section
variable {K:List PA→Prop} {t:tie}
def s95 (t:tie):(step×Bool) :=
  ((⟨(⟨t.index,true⟩:Use),t.Tie.To,t.Tie.From,(w64 (0 - t.Tie.Low))⟩:step),(t.Tie.Low != (-1000000000000:Int)))
end
theorem q95 (t:tie) (K:List PA→Prop) (hk:K (e95 (s95 t))):vcFun Tryd.prog G95 zIE 95 [.agg (zqX t)] K :=
  zbd (by kernel_rfl) hk
def zBX : List PA → COut
  | [.agg [.int .i64 zbo,.int .i64 zbZ,.int .i64 zbG,.int .i64 zbp,.int .i64 zcd]]=>.tot [.agg [.int .i64 (((s95 (⟨(⟨zbo,zbZ,zbG,zbp⟩:Tie),zcd⟩:tie)).1).Use.Tie),.bool (((s95 (⟨(⟨zbo,zbZ,zbG,zbp⟩:Tie),zcd⟩:tie)).1).Use.Back),.int .i64 (((s95 (⟨(⟨zbo,zbZ,zbG,zbp⟩:Tie),zcd⟩:tie)).1).from_),.int .i64 (((s95 (⟨(⟨zbo,zbZ,zbG,zbp⟩:Tie),zcd⟩:tie)).1).to),.int .i64 (((s95 (⟨(⟨zbo,zbZ,zbG,zbp⟩:Tie),zcd⟩:tie)).1).length)],.one (.bool ((s95 (⟨(⟨zbo,zbZ,zbG,zbp⟩:Tie),zcd⟩:tie)).2))]
  | _=>.no
theorem zIF:zaw Tryd.prog 95:=⟨_,rfl,rfl,by kernel_rfl⟩
theorem zMn:Ok Tryd.prog 95 zBX:=zbF zLa zIF fun args K h=>by
  unfold zBX at h
  split at h
  · rename_i zbo zbZ zbG zbp zcd
    have hk:=h
    exact ⟨(fun _ _=>[]),(fun _=>false),zIE,q95 (⟨(⟨zbo,zbZ,zbG,zbp⟩:Tie),zcd⟩:tie) K hk⟩
  · exact h.elim
abbrev zMo:Tabs:=((Tabs.nil.addF 94 zBW).addF 95 zBX)
theorem zIG:TabsOk Tryd.prog zMo:=((TabsOk.nil.addF zMm).addF zMn)
abbrev zIH:Ctrs:=csm zMo (fun _ _=>[]) (fun _=>false)
def zjg:Ann:=⟨52,[(0,zK [0,1,14,15,16] []),(1,zK [0,1,14,15,16,17] []),(2,zK [0,1,3,4,14,15,16] [4]),(3,zK [0,1,3,4,14,15,16,26] [4]),(4,zK [0,1,5,14,15,16] [5]),(5,zK [0,1,14,15,16,34,35] []),(6,zK [0,1,14,15,16,34,35,36] []),(7,zK [0,1,7,14,15,16,34,35] []),(8,zK [0,1,8,9,14,15,16,34,35] [8]),(9,zK [0,1,14,15,16,34,35,49] []),(10,zK [0,1,14,15,16,34,35] []),(11,zK [0,1,14,15,16] [])],
 [(1,zK [0,1,14,15,16] [])],
 [],
 [(6,3,zK [0,1,14,15,16,34,35] [])],[9]⟩
def zd9 (l:Nat) (a:web) (zaO:Int):St:=⟨[(0,.one (.c (.p (.yl l)))),(1,.one (.c (.p (.fp [.fp (zaD a) 0] 0)))),(14,.one (.c (.p (.sl a.Net.Ties.len 4 (fun i=>enc_40 (a.Net.Ties.get i)))))),(15,.one (.c (.p (.int .i64 (a.Net.Ties.len:Int))))),(16,.one (.c (.p (.int .i64 zaO))))],[],[]⟩
def zhR (l:Nat) (ys:List (List PA)) (a:web) (zaO:Int):Prop:=vcY Tryd.prog zIH zjg l (cdF Tryd.f110 [1,0]) (zoB 0 zA7) ys false (zd9 l a zaO)
theorem zBY (l : Nat) (a : web) (ys : List (List PA)) :
  vcIter Tryd.prog zIH zjg 110 l [.one (.fp [.fp (zaD a) 0] 0)] ys =
  (zhR l ys a (0:Int)):=by kernel_rfl
def zmF (l:Nat) (X0:List (List PA)→Bool→St→Prop) (ys:List (List PA)) (a:web) (zaO:Int):Prop :=
  (zbR (decide (zaO < (a.Net.Ties.len : Int)))
 (((0≤zaO∧zaO < (a.Net.Ties.len:Int))) ∧
 (zbR ((zu1 (a.out.F [zaO]) 0) != 0)
 (X0 ys false (zd9 l a (w64 (zaO+(1:Int)))))
 (zbR ((s94 (⟨(a.Net.Ties.get zaO.toNat), zaO⟩ : tie)).2)
 (l=l∧∃ r1,ys=[.agg [.int .i64 (((s94 (⟨(a.Net.Ties.get zaO.toNat),zaO⟩:tie)).1).Use.Tie),.bool (((s94 (⟨(a.Net.Ties.get zaO.toNat),zaO⟩:tie)).1).Use.Back),.int .i64 (((s94 (⟨(a.Net.Ties.get zaO.toNat),zaO⟩:tie)).1).from_),.int .i64 (((s94 (⟨(a.Net.Ties.get zaO.toNat),zaO⟩:tie)).1).to),.int .i64 (((s94 (⟨(a.Net.Ties.get zaO.toNat),zaO⟩:tie)).1).length)]] :: r1 ∧
 (zbR ((s95 (⟨(a.Net.Ties.get zaO.toNat), zaO⟩ : tie)).2)
 (l=l∧∃ r2,r1=[.agg [.int .i64 (((s95 (⟨(a.Net.Ties.get zaO.toNat),zaO⟩:tie)).1).Use.Tie),.bool (((s95 (⟨(a.Net.Ties.get zaO.toNat),zaO⟩:tie)).1).Use.Back),.int .i64 (((s95 (⟨(a.Net.Ties.get zaO.toNat),zaO⟩:tie)).1).from_),.int .i64 (((s95 (⟨(a.Net.Ties.get zaO.toNat),zaO⟩:tie)).1).to),.int .i64 (((s95 (⟨(a.Net.Ties.get zaO.toNat),zaO⟩:tie)).1).length)]] :: r2 ∧
 (X0 r2 false (zd9 l a (w64 (zaO+(1:Int)))))∧True)
 (X0 r1 false (zd9 l a (w64 (zaO+(1:Int))))))∧True)
 (zbR ((s95 (⟨(a.Net.Ties.get zaO.toNat), zaO⟩ : tie)).2)
 (l=l∧∃ r3,ys=[.agg [.int .i64 (((s95 (⟨(a.Net.Ties.get zaO.toNat),zaO⟩:tie)).1).Use.Tie),.bool (((s95 (⟨(a.Net.Ties.get zaO.toNat),zaO⟩:tie)).1).Use.Back),.int .i64 (((s95 (⟨(a.Net.Ties.get zaO.toNat),zaO⟩:tie)).1).from_),.int .i64 (((s95 (⟨(a.Net.Ties.get zaO.toNat),zaO⟩:tie)).1).to),.int .i64 (((s95 (⟨(a.Net.Ties.get zaO.toNat),zaO⟩:tie)).1).length)]] :: r3 ∧
 (X0 r3 false (zd9 l a (w64 (zaO+(1:Int)))))∧True)
 (X0 ys false (zd9 l a (w64 (zaO+(1:Int)))))))))
 (ys=[]))
theorem zpo (l : Nat) (X0 : List (List PA) → Bool → St → Prop) (ys : List (List PA)) (a : web) (zaO : Int) :
  vcY Tryd.prog zIH zjg l (cd (cdF Tryd.f110 [1,0]) [0]) (zA5 Tryd.prog zjg 1 X0 (zoB 0 zA7)) ys false (zd9 l a zaO) =
  zmF l X0 ys a zaO:=by kernel_rfl
theorem zvz (l : Nat) (ys : List (List PA)) (a : web) (zaO : Int)
  (h:∀ X0:List (List PA)→Bool→St→Prop,(∀ (ys:List (List PA)) (zaO:Int),zmF l X0 ys a zaO→X0 ys false (zd9 l a zaO))→X0 ys false (zd9 l a zaO)) :
  zhR l ys a zaO:=by
  have e:zhR l ys a zaO=(∀ X:List (List PA)→Bool→St→Prop,(∀ ys q s,vcY Tryd.prog zIH zjg l (cd (cdF Tryd.f110 [1,0]) [0]) (zA5 Tryd.prog zjg 1 X (zoB 0 zA7)) ys q s→X ys q s)→X ys false (zd9 l a zaO)):=by kernel_rfl
  refine zbd e ?_
  intro X hX
  refine h X ?_
  intro ys zaO hs
  refine hX _ _ _ ?_
  have e2:=zpo l X ys a zaO
  rw [e2]
  exact hs
attribute [irreducible] zhR
def zfb (a:web) (S0:Int→List step) (zaO:Int):List step :=
  (cond (decide (zaO < (a.Net.Ties.len : Int)))
 (cond ((zu1 (a.out.F [zaO]) 0) != 0)
 (S0 (w64 (zaO+(1:Int))))
 (cond ((s94 (⟨(a.Net.Ties.get zaO.toNat), zaO⟩ : tie)).2)
 (((s94 (⟨(a.Net.Ties.get zaO.toNat), zaO⟩ : tie)).1) :: (cond ((s95 (⟨(a.Net.Ties.get zaO.toNat), zaO⟩ : tie)).2)
 (((s95 (⟨(a.Net.Ties.get zaO.toNat),zaO⟩:tie)).1) :: (S0 (w64 (zaO+(1:Int)))))
 (S0 (w64 (zaO+(1:Int))))))
 (cond ((s95 (⟨(a.Net.Ties.get zaO.toNat), zaO⟩ : tie)).2)
 (((s95 (⟨(a.Net.Ties.get zaO.toNat),zaO⟩:tie)).1) :: (S0 (w64 (zaO+(1:Int)))))
 (S0 (w64 (zaO+(1:Int)))))))
 [])
def zfc (a:web) (P0:Int→Bool) (zaO:Int):Bool :=
  (cond (decide (zaO < (a.Net.Ties.len : Int)))
 (decide ((0≤zaO∧zaO < (a.Net.Ties.len:Int))) &&
 (cond ((zu1 (a.out.F [zaO]) 0) != 0)
 (P0 (w64 (zaO+(1:Int))))
 (cond ((s94 (⟨(a.Net.Ties.get zaO.toNat), zaO⟩ : tie)).2)
 (cond ((s95 (⟨(a.Net.Ties.get zaO.toNat), zaO⟩ : tie)).2)
 (P0 (w64 (zaO+(1:Int))))
 (P0 (w64 (zaO+(1:Int)))))
 (cond ((s95 (⟨(a.Net.Ties.get zaO.toNat), zaO⟩ : tie)).2)
 (P0 (w64 (zaO+(1:Int))))
 (P0 (w64 (zaO+(1:Int))))))))
 true)
def zex (a : web) : Nat → Int → List step
  | 0=>fun _=>[]
  | k+1=>zfb a (zex a k)
def zey (a : web) : Nat → Int → Bool
  | 0=>fun _=>false
  | k+1=>zfc a (zey a k)
def zuk (a:web) (zaO:Int):List step:=zex a Fuel zaO
def zul (a:web) (zaO:Int):Bool:=zey a Fuel zaO
theorem zBZ (l:Nat) (a:web) (ys:List (List PA)) (zaO:Int) (hs:zul a zaO=true) (hk:ys=(zuk a zaO).map (fun y=>[.agg (zaf y)])):zhR l ys a zaO:=by
  refine zvz l ys a zaO ?_
  intro X0 hstep
  have key:∀ (k:Nat) (ys:List (List PA)) (zaO:Int),zey a k zaO=true→ys=(zex a k zaO).map (fun y=>[.agg (zaf y)])→X0 ys false (zd9 l a zaO):=by
    intro k
    induction k with
    | zero=>intro ys zaO hs;exact absurd hs Bool.false_ne_true
    | succ k ih =>
      intro ys zaO hs hk
      refine hstep ys zaO ?_
      have hs:zfc a (zey a k) zaO=true:=hs
      have hk:ys=(zfb a (zex a k) zaO).map (fun y=>[.agg (zaf y)]):=hk
      unfold zfc at hs
      unfold zfb at hk
      generalize zex a k=S0 at hk ih
      generalize zey a k=P0 at hs ih
      have hX0:=ih
      exact (zhP hs hk
 (fun hs hk => (za2 hs fun hc hs => ⟨hc, (zhP hs hk
 (fun hs hk=>(hX0 _ (w64 (zaO+(1:Int))) hs hk))
 (fun hs hk => (zhP hs hk
 (fun hs hk => (itY hk rfl (fun _ hk => (zhP hs hk
 (fun hs hk=>(itY hk rfl (fun _ hk=>(hX0 _ (w64 (zaO+(1:Int))) hs hk))))
 (fun hs hk=>(hX0 _ (w64 (zaO+(1:Int))) hs hk))))))
 (fun hs hk => (zhP hs hk
 (fun hs hk=>(itY hk rfl (fun _ hk=>(hX0 _ (w64 (zaO+(1:Int))) hs hk))))
 (fun hs hk=>(hX0 _ (w64 (zaO+(1:Int))) hs hk)))))))⟩))
 (fun hs hk=>hk))
  exact key _ _ zaO hs hk
def zic (a:web):List step :=
  (zuk a (0:Int))
def zl0 (a:web):Bool :=
  (zul a (0:Int))
theorem zMN (l:Nat) (a:web) (ys:List (List PA)) (hs:zl0 a=true) (hk:ys=(zic a).map (fun y=>[.agg (zaf y)])):vcIter Tryd.prog zIH zjg 110 l [.one (.fp [.fp (zaD a) 0] 0)] ys:=by
  refine zbd (zBY l a ys) ?_
  unfold zl0 at hs
  unfold zic at hk
  exact (zBZ l a _ (0:Int) hs hk)
def zpp : List PA → Option (Prop × List (List PA))
  | [.one (.fp [.fp [.int .i64 a_Net_Nodes,.sl a_Net_Ties_n a_Net_Ties_s a_Net_Ties_g,.fm a_out_q a_out_n a_out_F] 0] 0)]=>some (IsE enc_40 4 a_Net_Ties_s a_Net_Ties_g∧a_out_q=(false,1,false,[none])∧zl0 (⟨(⟨a_Net_Nodes,(⟨a_Net_Ties_n,zal a_Net_Ties_g⟩:(Sl Tie))⟩:Net),(⟨a_out_n,a_out_F⟩:Mp)⟩:web)=true,(zic (⟨(⟨a_Net_Nodes,(⟨a_Net_Ties_n,zal a_Net_Ties_g⟩:(Sl Tie))⟩:Net),(⟨a_out_n,a_out_F⟩:Mp)⟩:web)).map fun y=>[.agg (zaf y)])
  | _=>none
theorem zEy:zaw Tryd.prog 110:=⟨_,rfl,rfl,by kernel_rfl⟩
theorem zvA:zCN Tryd.prog 110 zpp:=zIk zIG zEy fun l caps safe ys h hs=>by
  unfold zpp at h
  split at h
  · rename_i a_Net_Nodes a_Net_Ties_n a_Net_Ties_s a_Net_Ties_g a_out_q a_out_n a_out_F
    cases h
    obtain ⟨⟨rfl,a_Net_Ties_f,rfl⟩,rfl,hs⟩:=hs
    try rw [zam a_Net_Ties_f] at hs
    try rw [zam a_Net_Ties_f]
    exact ⟨fun _ _=>[],fun _=>false,zjg,zMN l (⟨(⟨a_Net_Nodes,(⟨a_Net_Ties_n,a_Net_Ties_f⟩:(Sl Tie))⟩:Net),(⟨a_out_n,a_out_F⟩:Mp)⟩:web) _ hs rfl⟩
  · cases h
abbrev T88:Tabs:=((Tabs.nil.addF 93 zpn).addI 110 zpp)
theorem zLb:TabsOk Tryd.prog T88:=((TabsOk.nil.addF zHF).addI zvA)
abbrev G88:Ctrs:=csm T88 (fun _ _=>[]) (fun _=>false)
def zcV:Ann:=⟨37,[(0,zK [0] []),(1,zK [0,3] [3]),(2,zK [0,3,11,12] [3]),(3,zK [0,3,11,12,13] [3]),(4,zK [0,3,4,11,12] [3,4]),(5,zK [0,3,4,11,12,15] [3,4]),(6,zK [0,3,4,5,11,12,15] [3,4,5]),(7,zK [0,3,4,5,6,11,12,15] [3,4,5]),(8,zK [0,3,4,5,6,11,12,15,29] [3,4,5]),(9,zK [0,3,4,11,12,15] [3,4]),(10,zK [0,3,4,11,12,15] [3,4]),(11,zK [0,3,11,12,35] [3]),(12,zK [2] []),(13,zK [0,3,11,12] [3]),(14,zK [2] [])],
 [(3,zK [0,3,11,12] [3]),(6,zK [0,3,4,11,12,15] [3,4])],
 [],
 [],[]⟩
def zjh (w:web) (zbr:Int) (dt0:Tab):St:=⟨[(0,.one (.c (.p (.fp (zaD w) 0)))),(3,.one (.c (.ptr 3 0))),(11,.one (.c (.p (.int .i64 w.Net.Nodes)))),(12,.one (.c (.p (.int .i64 zbr))))],[(3,.box 157 (zm (zxz dt0)))],[]⟩
def zkS (K:List PA→Prop) (w:web) (zbr:Int) (dt0:Tab):Prop:=vc Tryd.prog G88 zcV (cdF Tryd.f88 [1,1,0,1,0]) (zak 0 (sqK Tryd.prog G88 zcV (cdF Tryd.f88 [1,1,1]) (zbl Tryd.prog Tryd.f88 K))) (zjh w zbr dt0)
def zgT (w:web) (zbe:Int) (zax:Bool) (dt1:Tab):St:=⟨[(0,.one (.c (.p (.fp (zaD w) 0)))),(3,.one (.c (.ptr 3 0))),(4,.one (.c (.ptr 4 0))),(11,.one (.c (.p (.int .i64 w.Net.Nodes)))),(12,.one (.c (.p (.int .i64 zbe)))),(15,.one (.c (.p (.fn 110 [] [.fp [.fp (zaD w) 0] 0]))))],[(3,.box 157 (zm (zxz dt1))),(4,.box 4 [.p (.bool zax)])],[]⟩
def zkT (K:List PA→Prop) (X0:St→Prop) (w:web) (zbe:Int) (zax:Bool) (dt1:Tab):Prop:=vc Tryd.prog G88 zcV (cdF Tryd.f88 [1,1,0,1,0,0,1,1,0,0,1,0,1,0]) (zak 2 (sqK Tryd.prog G88 zcV (cdF Tryd.f88 [1,1,0,1,0,0,1,1,0,0,1,1]) (zak 1 (sqK Tryd.prog G88 zcV (cdF Tryd.f88 [1,1,0,1,0,0,1,1,1]) (zbn Tryd.prog zcV 3 X0 (zak 0 (sqK Tryd.prog G88 zcV (cdF Tryd.f88 [1,1,1]) (zbl Tryd.prog Tryd.f88 K)))))))) (zgT w zbe zax dt1)
theorem zEz (w : web) (K : List PA → Prop) :
  vcFun Tryd.prog G88 zcV 88 [.one (.fp (zaD w) 0)] K =
  (zkS K w (0:Int) (fun _=>(0:Int))):=by kernel_rfl
def zpq (K:List PA→Prop) (X0:St→Prop) (w:web) (zbr:Int) (dt0:Tab):Prop :=
  (zbR (decide (zbr < w.Net.Nodes))
 ((IsE enc_40 4 4 (fun i=>enc_40 (w.Net.Ties.get i))∧((false,1,false,[none]):MQ)=(false,1,false,[none])) ∧
 (zkT K X0 w zbr false dt0))
 (K [.one (.bool true)]))
theorem zq1 (K : List PA → Prop) (X0 : St → Prop) (w : web) (zbr : Int) (dt0 : Tab) :
  vc Tryd.prog G88 zcV (cd (cdF Tryd.f88 [1,1,0,1,0]) [0]) (zbn Tryd.prog zcV 3 X0 (zak 0 (sqK Tryd.prog G88 zcV (cdF Tryd.f88 [1,1,1]) (zbl Tryd.prog Tryd.f88 K)))) (zjh w zbr dt0) =
  zpq K X0 w zbr dt0:=by kernel_rfl
theorem zxE (K : List PA → Prop) (w : web) (zbr : Int) (dt0 : Tab)
  (h:∀ X0:St→Prop,(∀ (zbr:Int) (dt0:Tab),zpq K X0 w zbr dt0→X0 (zjh w zbr dt0))→X0 (zjh w zbr dt0)) :
  zkS K w zbr dt0:=by
  have e:zkS K w zbr dt0=(∀ X:St→Prop,(∀ s,vc Tryd.prog G88 zcV (cd (cdF Tryd.f88 [1,1,0,1,0]) [0]) (zbn Tryd.prog zcV 3 X (zak 0 (sqK Tryd.prog G88 zcV (cdF Tryd.f88 [1,1,1]) (zbl Tryd.prog Tryd.f88 K)))) s→X s)→X (zjh w zbr dt0)):=by kernel_rfl
  refine zbd e ?_
  intro X hX
  refine h X ?_
  intro zbr dt0 hs
  refine hX _ ?_
  have e2:=zq1 K X w zbr dt0
  rw [e2]
  exact hs
def zpr (K:List PA→Prop) (X0:St→Prop) (w:web) (zbe:Int) (zax:Bool) (dt1:Tab):Prop :=
  (zbR (!zax)
 (K [.one (.bool false)])
 (X0 (zjh w (w64 (zbe+(1:Int))) dt1)))
def zps (K:List PA→Prop) (X0:St→Prop) (X1:List (List PA)→St→Prop) (y1:step) (rest1:List (List PA)) (w:web) (zbe:Int) (zax:Bool) (dt1:Tab):Prop :=
  (((0≤y1.from_∧y1.from_ < (40:Int))) ∧
 (((0≤y1.to∧y1.to < (40:Int))) ∧
 (zbR (decide ((w64 ((tg 40 dt1 (0 + y1.from_.toNat * 1 + 0)) + y1.length)) < (tg 40 dt1 (0 + y1.to.toNat * 1 + 0))))
 (((0≤y1.to∧y1.to < (40:Int))) ∧
 (X1 rest1 (zgT w zbe true (ts 40 dt1 (0+y1.to.toNat * 1+0) [(w64 ((tg 40 dt1 (0+y1.from_.toNat * 1+0))+y1.length))]))))
 (X1 rest1 (zgT w zbe zax dt1)))))
theorem zq2 (K:List PA→Prop) (X0:St→Prop) (w:web) (zbe:Int) (zax:Bool) (dt1:Tab):(zak 2 (sqK Tryd.prog G88 zcV (cdF Tryd.f88 [1,1,0,1,0,0,1,1,0,0,1,1]) (zak 1 (sqK Tryd.prog G88 zcV (cdF Tryd.f88 [1,1,0,1,0,0,1,1,1]) (zbn Tryd.prog zcV 3 X0 (zak 0 (sqK Tryd.prog G88 zcV (cdF Tryd.f88 [1,1,1]) (zbl Tryd.prog Tryd.f88 K)))))))) .normal (zgT w zbe zax dt1)=zpr K X0 w zbe zax dt1:=by kernel_rfl
theorem zq3 (K : List PA → Prop) (X0 : St → Prop) (X1 : List (List PA) → St → Prop) (y1 : step) (rest1 : List (List PA)) (w : web) (zbe : Int) (zax : Bool) (dt1 : Tab) :
  zvV Tryd.prog G88 zcV 6 [16] (cd (cdF Tryd.f88 [1,1,0,1,0,0,1,1,0,0,1,0,1,0]) [0]) (cd (cdF Tryd.f88 [1,1,0,1,0,0,1,1,0,0,1,0,1,0]) [1]) X1 (zak 2 (sqK Tryd.prog G88 zcV (cdF Tryd.f88 [1,1,0,1,0,0,1,1,0,0,1,1]) (zak 1 (sqK Tryd.prog G88 zcV (cdF Tryd.f88 [1,1,0,1,0,0,1,1,1]) (zbn Tryd.prog zcV 3 X0 (zak 0 (sqK Tryd.prog G88 zcV (cdF Tryd.f88 [1,1,1]) (zbl Tryd.prog Tryd.f88 K)))))))) [.agg (zaf y1)] rest1 (zgT w zbe zax dt1)=zps K X0 X1 y1 rest1 w zbe zax dt1:=by kernel_rfl
theorem zxF (K : List PA → Prop) (X0 : St → Prop) (w : web) (zbe : Int) (zax : Bool) (dt1 : Tab)
  (hsafe:IsE enc_40 4 4 (fun i=>enc_40 (w.Net.Ties.get i))∧((false,1,false,[none]):MQ)=(false,1,false,[none])∧(zl0 w=true)) (h:∀ X1:List (List PA)→St→Prop,(∀ (zbe:Int) (zax:Bool) (dt1:Tab),zpr K X0 w zbe zax dt1→X1 [] (zgT w zbe zax dt1))→(∀ (y:step) (rest:List (List PA)) (zbe:Int) (zax:Bool) (dt1:Tab),zps K X0 X1 y rest w zbe zax dt1→X1 ([.agg (zaf y)] :: rest) (zgT w zbe zax dt1))→X1 ((zic w).map fun y=>[.agg (zaf y)]) (zgT w zbe zax dt1)) :
  zkT K X0 w zbe zax dt1:=by
  have e:zkT K X0 w zbe zax dt1=((IsE enc_40 4 4 (fun i=>enc_40 (w.Net.Ties.get i))∧((false,1,false,[none]):MQ)=(false,1,false,[none])∧(zl0 w=true))∧∀ X:List (List PA)→St→Prop,(∀ s,(zak 2 (sqK Tryd.prog G88 zcV (cdF Tryd.f88 [1,1,0,1,0,0,1,1,0,0,1,1]) (zak 1 (sqK Tryd.prog G88 zcV (cdF Tryd.f88 [1,1,0,1,0,0,1,1,1]) (zbn Tryd.prog zcV 3 X0 (zak 0 (sqK Tryd.prog G88 zcV (cdF Tryd.f88 [1,1,1]) (zbl Tryd.prog Tryd.f88 K)))))))) .normal s→X [] s)→(∀ y rest s,zvV Tryd.prog G88 zcV 6 [16] (cd (cdF Tryd.f88 [1,1,0,1,0,0,1,1,0,0,1,0,1,0]) [0]) (cd (cdF Tryd.f88 [1,1,0,1,0,0,1,1,0,0,1,0,1,0]) [1]) X (zak 2 (sqK Tryd.prog G88 zcV (cdF Tryd.f88 [1,1,0,1,0,0,1,1,0,0,1,1]) (zak 1 (sqK Tryd.prog G88 zcV (cdF Tryd.f88 [1,1,0,1,0,0,1,1,1]) (zbn Tryd.prog zcV 3 X0 (zak 0 (sqK Tryd.prog G88 zcV (cdF Tryd.f88 [1,1,1]) (zbl Tryd.prog Tryd.f88 K)))))))) y rest s→X (y :: rest) s)→X ((zic w).map fun y=>[.agg (zaf y)]) (zgT w zbe zax dt1)):=by kernel_rfl
  refine zbd e ⟨hsafe,?_⟩
  intro X h0 h1
  refine h X (fun zbe zax dt1 hs=>h0 _ ?_) (fun y rest zbe zax dt1 hs=>h1 _ rest _ ?_)
  · rw [zq2 K X0 w zbe zax dt1];exact hs
  · have e2 := zq3 K X0 X y rest w zbe zax dt1
    rw [e2];exact hs
abbrev e88 (r:Bool):List PA:=[.one (.bool r)]
attribute [irreducible] zkS zkT
def ziw (S0:Int→Tab→Bool) (w:web) (zbe:Int) (zax:Bool) (dt1:Tab):Bool :=
  (cond (!zax)
 false
 (S0 (w64 (zbe+(1:Int))) dt1))
def zix (P0:Int→Tab→Bool) (w:web) (zbe:Int) (zax:Bool) (dt1:Tab):Bool :=
  (cond (!zax)
 true
 (P0 (w64 (zbe+(1:Int))) dt1))
def zkU (S0:Int→Tab→Bool) (w:web) (y1:step) (S1:Int→Bool→Tab→Bool) (zbe:Int) (zax:Bool) (dt1:Tab):Bool :=
  (cond (decide ((w64 ((tg 40 dt1 (0 + y1.from_.toNat * 1 + 0)) + y1.length)) < (tg 40 dt1 (0 + y1.to.toNat * 1 + 0))))
 (S1 zbe true (ts 40 dt1 (0+y1.to.toNat * 1+0) [(w64 ((tg 40 dt1 (0+y1.from_.toNat * 1+0))+y1.length))]))
 (S1 zbe zax dt1))
def zkV (P0:Int→Tab→Bool) (w:web) (y1:step) (P1:Int→Bool→Tab→Bool) (zbe:Int) (zax:Bool) (dt1:Tab):Bool :=
  (decide ((0≤y1.from_∧y1.from_ < (40:Int))) &&
 (decide ((0≤y1.to∧y1.to < (40:Int))) &&
 (cond (decide ((w64 ((tg 40 dt1 (0 + y1.from_.toNat * 1 + 0)) + y1.length)) < (tg 40 dt1 (0 + y1.to.toNat * 1 + 0))))
 (decide ((0≤y1.to∧y1.to < (40:Int))) &&
 (P1 zbe true (ts 40 dt1 (0+y1.to.toNat * 1+0) [(w64 ((tg 40 dt1 (0+y1.from_.toNat * 1+0))+y1.length))])))
 (P1 zbe zax dt1))))
def zea (S0 : Int → Tab → Bool) (w : web) : List step → Int → Bool → Tab → Bool
  | []=>ziw S0 w
  | y :: r=>zkU S0 w y (zea S0 w r)
def zeb (P0 : Int → Tab → Bool) (w : web) : List step → Int → Bool → Tab → Bool
  | []=>zix P0 w
  | y :: r=>zkV P0 w y (zeb P0 w r)
def zq4 (S0:Int→Tab→Bool) (w:web) (zbe:Int) (zax:Bool) (dt1:Tab):Bool:=zea S0 w (zic w) zbe zax dt1
def znE (P0:Int→Tab→Bool) (w:web) (zbe:Int) (zax:Bool) (dt1:Tab):Bool:=decide ((zl0 w=true)) && zeb P0 w (zic w) zbe zax dt1
theorem zEA (K : List PA → Prop) (w : web)
  (X0:St→Prop) (P0:Int→Tab→Bool) (S0:Int→Tab→Bool)
  (hX0:∀ (zbr:Int) (dt0:Tab),P0 zbr dt0=true→K (e88 (S0 zbr dt0))→X0 (zjh w zbr dt0)) (zbe:Int) (zax:Bool) (dt1:Tab) (hs:znE P0 w zbe zax dt1=true) (hk:K (e88 (zq4 S0 w zbe zax dt1))):zkT K X0 w zbe zax dt1:=by
  unfold znE at hs
  rw [Bool.and_eq_true] at hs
  obtain ⟨hsf,hs⟩:=hs
  have hc:=of_decide_eq_true hsf
  refine zxF K X0 w zbe zax dt1 ⟨isE,rfl,hc⟩ ?_
  intro X1 hexit hstep
  have key:∀ (l:List step) (zbe:Int) (zax:Bool) (dt1:Tab),zeb P0 w l zbe zax dt1=true→K (e88 (zea S0 w l zbe zax dt1))→X1 (l.map fun y=>[.agg (zaf y)]) (zgT w zbe zax dt1):=by
    intro l
    induction l with
    | nil =>
      intro zbe zax dt1 hs hk
      refine hexit zbe zax dt1 ?_
      have hs:zix P0 w zbe zax dt1=true:=hs
      have hk:K (e88 (ziw S0 w zbe zax dt1)):=hk
      unfold zix at hs
      unfold ziw at hk
      exact (zaZ (K := fun r => K (e88 r))
 (fun hs hk=>hk)
 (fun hs hk=>(hX0 (w64 (zbe+(1:Int))) dt1 hs hk)) hs hk)
    | cons y1 l ih =>
      intro zbe zax dt1 hs hk
      refine hstep y1 _ zbe zax dt1 ?_
      have hs:zkV P0 w y1 (zeb P0 w l) zbe zax dt1=true:=hs
      have hk:K (e88 (zkU S0 w y1 (zea S0 w l) zbe zax dt1)):=hk
      unfold zkV at hs
      unfold zkU at hk
      generalize zea S0 w l=S1 at hk ih
      generalize zeb P0 w l=P1 at hs ih
      have hX1:=ih
      exact (za2 hs fun hc hs => ⟨hc, (za2 hs fun hc hs => ⟨hc, (zaZ (K := fun r => K (e88 r))
 (fun hs hk=>(za2 hs fun hc hs=>⟨hc,(hX1 zbe true (ts 40 dt1 (0+y1.to.toNat * 1+0) [(w64 ((tg 40 dt1 (0+y1.from_.toNat * 1+0))+y1.length))]) hs hk)⟩))
 (fun hs hk=>(hX1 zbe zax dt1 hs hk)) hs hk)⟩)⟩)
  exact key _ zbe zax dt1 hs hk
def zg9 (w:web) (S0:Int→Tab→Bool) (zbr:Int) (dt0:Tab):Bool :=
  (cond (decide (zbr < w.Net.Nodes))
 (zq4 S0 w zbr false dt0)
 true)
def zha (w:web) (P0:Int→Tab→Bool) (zbr:Int) (dt0:Tab):Bool :=
  (cond (decide (zbr < w.Net.Nodes))
 (znE P0 w zbr false dt0)
 true)
def zfd (w : web) : Nat → Int → Tab → Bool
  | 0=>fun _ _=>default
  | k+1=>zg9 w (zfd w k)
def zfe (w : web) : Nat → Int → Tab → Bool
  | 0=>fun _ _=>false
  | k+1=>zha w (zfe w k)
def zxG (w:web) (zbr:Int) (dt0:Tab):Bool:=zfd w Fuel zbr dt0
def zxH (w:web) (zbr:Int) (dt0:Tab):Bool:=zfe w Fuel zbr dt0
theorem zEB (K:List PA→Prop) (w:web) (zbr:Int) (dt0:Tab) (hs:zxH w zbr dt0=true) (hk:K (e88 (zxG w zbr dt0))):zkS K w zbr dt0:=by
  refine zxE K w zbr dt0 ?_
  intro X0 hstep
  have key:∀ (k:Nat) (zbr:Int) (dt0:Tab),zfe w k zbr dt0=true→K (e88 (zfd w k zbr dt0))→X0 (zjh w zbr dt0):=by
    intro k
    induction k with
    | zero=>intro zbr dt0 hs;exact absurd hs Bool.false_ne_true
    | succ k ih =>
      intro zbr dt0 hs hk
      refine hstep zbr dt0 ?_
      have hs:zha w (zfe w k) zbr dt0=true:=hs
      have hk:K (e88 (zg9 w (zfd w k) zbr dt0)):=hk
      unfold zha at hs
      unfold zg9 at hk
      generalize zfd w k=S0 at hk ih
      generalize zfe w k=P0 at hs ih
      have hX0:=ih
      exact (zaZ (K := fun r => K (e88 r))
 (fun hs hk=>⟨⟨isE,rfl⟩,(zEA K w X0 P0 S0 hX0 zbr false dt0 hs hk)⟩)
 (fun hs hk=>hk) hs hk)
  exact key _ zbr dt0 hs hk
def s88 (w:web):Bool :=
  (zxG w (0:Int) (fun _=>(0:Int)))
def p88 (w:web):Bool :=
  (zxH w (0:Int) (fun _=>(0:Int)))
theorem q88 (w:web) (K:List PA→Prop) (hs:p88 w=true) (hk:K (e88 (s88 w))):vcFun Tryd.prog G88 zcV 88 [.one (.fp (zaD w) 0)] K:=by
  refine zbd (zEz w K) ?_
  unfold p88 at hs
  unfold s88 at hk
  exact (zEB K w (0:Int) (fun _=>(0:Int)) hs hk)
def zxI : List PA → COut
  | [.one (.fp [.int .i64 zau,.sl zan zaP zao,.fm zbK zaR zaS] 0)]=>.det (IsE enc_40 4 zaP zao∧zbK=(false,1,false,[none])∧p88 (⟨(⟨zau,(⟨zan,zal zao⟩:(Sl Tie))⟩:Net),(⟨zaR,zaS⟩:Mp)⟩:web)=true) [.one (.bool (s88 (⟨(⟨zau,(⟨zan,zal zao⟩:(Sl Tie))⟩:Net),(⟨zaR,zaS⟩:Mp)⟩:web)))]
  | _=>.no
theorem zII:zaw Tryd.prog 88:=⟨_,rfl,rfl,by kernel_rfl⟩
theorem zLc:Ok Tryd.prog 88 zxI:=zbF zLb zII fun args K h=>by
  unfold zxI at h
  split at h
  · rename_i zau zan zaP zao zbK zaR zaS
    obtain ⟨⟨⟨rfl,zaC,rfl⟩,rfl,hs⟩,hk⟩:=h
    try rw [zam zaC] at hs
    try rw [zam zaC] at hk
    exact ⟨(fun _ _=>[]),(fun _=>false),zcV,q88 (⟨(⟨zau,(⟨zan,zaC⟩:(Sl Tie))⟩:Net),(⟨zaR,zaS⟩:Mp)⟩:web) K hs hk⟩
  · exact h.elim
abbrev zMp:Tabs:=Tabs.nil
theorem zIJ:TabsOk Tryd.prog zMp:=TabsOk.nil
abbrev zMO:Ctrs:=csm zMp (fun _ _=>[]) (fun _=>false)
def zC5:Ann:=⟨24,[(0,zK [2,3] [2,3]),(1,zK [4] [])],
 [],
 [],
 [],[]⟩
abbrev zMP:=Bool
abbrev zMQ (r:zMP):List PA:=[.one (.bool r)]
section
variable {K:List PA→Prop} {a:far} {b:far}
def zB0 (a:far) (b:far):Bool :=
  (cond (decide (a.length < b.length))
 true
 (cond (a.length == b.length)
 (decide (a.uses < b.uses))
 false))
end
theorem zMR (a:far) (b:far) (K:List PA→Prop) (hk:K (zMQ (zB0 a b))):vcFun Tryd.prog zMO zC5 105 [.agg (zcy a),.agg (zcy b)] K :=
  zbd (by kernel_rfl) (zt hk (fun hk=>hk) (fun hk=>(zt hk (fun hk=>hk) (fun hk=>hk))))
def zxJ : List PA → COut
  | [.agg [.int .i64 zcC,.int .i64 zq5],.agg [.int .i64 zce,.int .i64 zff]]=>.tot [.one (.bool (zB0 (⟨zcC,zq5⟩:far) (⟨zce,zff⟩:far)))]
  | _=>.no
theorem zEC:zaw Tryd.prog 105:=⟨_,rfl,rfl,by kernel_rfl⟩
theorem zLd:Ok Tryd.prog 105 zxJ:=zbF zIJ zEC fun args K h=>by
  unfold zxJ at h
  split at h
  · rename_i zcC zq5 zce zff
    have hk:=h
    exact ⟨(fun _ _=>[]),(fun _=>false),zC5,zMR (⟨zcC,zq5⟩:far) (⟨zce,zff⟩:far) K hk⟩
  · exact h.elim
abbrev zMq:Tabs:=(Tabs.nil.addF 105 zxJ)
theorem zIK:TabsOk Tryd.prog zMq:=(TabsOk.nil.addF zLd)
abbrev zMr:Ctrs:=csm zMq (fun _ _=>[]) (fun _=>false)
def zxK:Ann:=⟨22,[(0,zK [0,2,4,6] [4,6]),(1,zK [0,4,6,9,10,11] [4,6]),(2,zK [0,4,6,9,10,11,12] [4,6]),(3,zK [0,4,6,8,9,10,11] [4,6,8]),(4,zK [0,4,6,8,9,10,11,18] [4,6,8]),(5,zK [0,4,6,9,10,11] [4,6]),(6,zK [0,4,6,9,10,11] [4,6]),(7,zK [6] [6])],
 [(2,zK [0,4,6,9,10,11] [4,6])],
 [(5,zK [0,4,6,8,9,10,11,18] [4,6,8])],
 [],[]⟩
abbrev zMS:=far
abbrev zKD (r:zMS):List PA:=[.agg [.int .i64 r.length,.int .i64 r.uses]]
@[irreducible] def z104:=ptF Tryd.prog zMr zxK Tryd.f104
def zxL (others:(Sl far)) (za1:Int) (zby:Int) (zbz:Int):St:=⟨[(0,zP (.fn 105 [] [])),(4,zp 4 0),(6,zp 6 0),(9,zS zcy 2 others),(10,zI (others.len:Int)),(11,zI za1)],[(4,.box 114 (zm (zcy (⟨zby,zbz⟩:far)))),(6,.box 114 (zm (zcy (⟨(0:Int),(0:Int)⟩:far))))],[]⟩
abbrev zxM (K:List PA→Prop) (others:(Sl far)) (X:St→Prop) (P:Int→Int→Int→Bool) (S:Int→Int→Int→far):Prop:=∀ ⦃za1:Int⦄ ⦃zby:Int⦄ ⦃zbz:Int⦄,P za1 zby zbz=true→K (zKD (S za1 zby zbz))→X (zxL others za1 zby zbz)
section
variable {K:List PA→Prop} {first:far} {others:(Sl far)} {za1:Int} {zby:Int} {zbz:Int} {X0:St→Prop} {P0:Int→Int→Int→Bool} {S0:Int→Int→Int→far} {zcY:Int} {zbU:Bool} {zec:Int} {zed:Int} {zq6:Int} {zq7:Int}
def znF (S0:Int→Int→Int→far) (others:(Sl far)) (zcY:Int) (zbU:Bool) (zec:Int) (zed:Int) (zq6:Int) (zq7:Int):far :=
  (cond zbU
 (S0 (w64 (zcY+(1:Int))) zq6 zq7)
 (S0 (w64 (zcY+(1:Int))) zec zed))
def znG (P0:Int→Int→Int→Bool) (others:(Sl far)) (zcY:Int) (zbU:Bool) (zec:Int) (zed:Int) (zq6:Int) (zq7:Int):Bool :=
  (cond zbU
 (P0 (w64 (zcY+(1:Int))) zq6 zq7)
 (P0 (w64 (zcY+(1:Int))) zec zed))
theorem zB1 (hX0:zxM K others X0 P0 S0) (hs:znG P0 others zcY zbU zec zed zq6 zq7=true) (hk:K (zKD (znF S0 others zcY zbU zec zed zq6 zq7))):z104 K [1,0,1,0,0,1,1,0,0,1,1] [X0] ⟨[(0,zP (.fn 105 [] [])),(4,zp 4 0),(6,zp 6 0),(8,zp 8 0),(9,zS zcy 2 others),(10,zI (others.len:Int)),(11,zI zcY),(18,zB zbU)],[(4,.box 114 (zm (zcy (⟨zec,zed⟩:far)))),(6,.box 114 (zm (zcy (⟨(0:Int),(0:Int)⟩:far)))),(8,.box 114 (zm (zcy (⟨zq6,zq7⟩:far))))],[]⟩:=zbd (by kernel_rfl) (zc hs hk (fun hs hk=>(hX0 hs hk)) (fun hs hk=>(hX0 hs hk)))
def zgt (others:(Sl far)) (S0:Int→Int→Int→far) (za1:Int) (zby:Int) (zbz:Int):far :=
  (cond (decide (za1 < (others.len : Int)))
 (znF S0 others za1 (zB0 (others.get za1.toNat) (⟨zby,zbz⟩:far)) zby zbz ((others.get za1.toNat).length) ((others.get za1.toNat).uses))
 (⟨zby,zbz⟩:far))
def zgu (others:(Sl far)) (P0:Int→Int→Int→Bool) (za1:Int) (zby:Int) (zbz:Int):Bool :=
  (cond (decide (za1 < (others.len : Int)))
 (decide ((0≤za1∧za1 < (others.len:Int))) &&
 (znG P0 others za1 (zB0 (others.get za1.toNat) (⟨zby,zbz⟩:far)) zby zbz ((others.get za1.toNat).length) ((others.get za1.toNat).uses)))
 true)
def zgv (others:(Sl far)):Nat→Int→Int→Int→far:=lpO (fun _ _ _=>default) (zgt others)
def zgw (others:(Sl far)):Nat→Int→Int→Int→Bool:=lpO (fun _ _ _=>false) (zgu others)
def znH (others:(Sl far)) (za1:Int) (zby:Int) (zbz:Int):far:=zgv others Fuel za1 zby zbz
def znI (others:(Sl far)) (za1:Int) (zby:Int) (zbz:Int):Bool:=zgw others Fuel za1 zby zbz
theorem zB2 (hs:znI others za1 zby zbz=true) (hk:K (zKD (znH others za1 zby zbz))):z104 K [1,0,1,0] [] (zxL others za1 zby zbz) :=
  zl (fun X=>z104 K [1,0,1,0,0] [X]) (by kernel_rfl) fun X0 hX =>
  (show ∀ k, zxM K others X0 (zgw others k) (zgv others k) from zjH _ _ (zgu others) (zgt others) (zxM K others X0)
 (by intro _ _ _ hs;exact absurd hs Bool.false_ne_true)
 (by intro P0 S0 hX0 za1 zby zbz hs hk;exact hX _ (zbd (by kernel_rfl) (zc hs hk (fun hs hk=>(za2 hs fun hc hs=>And.intro hc (zB1 hX0 hs hk))) (fun hs hk=>hk))))) _ hs hk
def zcb (first:far) (others:(Sl far)):far :=
  (znH others (0:Int) first.length first.uses)
def zvW (first:far) (others:(Sl far)):Bool :=
  (znI others (0:Int) first.length first.uses)
end
theorem zMT (first:far) (others:(Sl far)) (K:List PA→Prop) (hs:zvW first others=true) (hk:K (zKD (zcb first others))):vcFun Tryd.prog zMr zxK 104 [.one (.fn 105 [] []),.agg (zcy first),.one (.sl others.len 2 (fun i=>zcy (others.get i)))] K :=
  zbd (by kernel_rfl) (zB2 hs hk)
def zpt : List PA → COut
  | [.one (.fn 105 [] []),.agg [.int .i64 zce,.int .i64 zff],.one (.sl zjJ zxN zjK)]=>.det (IsE zcy 2 zxN zjK∧zvW (⟨zce,zff⟩:far) (⟨zjJ,zjI zjK⟩:(Sl far))=true) [.agg [.int .i64 ((zcb (⟨zce,zff⟩:far) (⟨zjJ,zjI zjK⟩:(Sl far))).length),.int .i64 ((zcb (⟨zce,zff⟩:far) (⟨zjJ,zjI zjK⟩:(Sl far))).uses)]]
  | _=>.no
theorem zED:zaw Tryd.prog 104:=⟨_,rfl,rfl,by kernel_rfl⟩
theorem zEE:Ok Tryd.prog 104 zpt:=zbF zIK zED fun args K h=>by
  unfold zpt at h
  split at h
  · rename_i zce zff zjJ zxN zjK
    obtain ⟨⟨⟨rfl,zq8,rfl⟩,hs⟩,hk⟩:=h
    try rw [zje zq8] at hs
    try rw [zje zq8] at hk
    exact ⟨(fun _ _=>[]),(fun _=>false),zxK,zMT (⟨zce,zff⟩:far) (⟨zjJ,zq8⟩:(Sl far)) K hs hk⟩
  · exact h.elim
abbrev zMs:Tabs:=(((Tabs.nil.addF 93 zpn).addF 104 zpt).addI 110 zpp)
theorem zIL:TabsOk Tryd.prog zMs:=(((TabsOk.nil.addF zHF).addF zEE).addI zvA)
abbrev zfy:Ctrs:=csm zMs (fun _ _=>[]) (fun _=>false)
def zbf:Ann:=⟨91,[(0,zK [0,2,4] [4]),(1,zK [0,2,4,7] [4,7,15]),(2,zK [0,2,4,7,17,18] [4,7,15]),(3,zK [0,2,4,7,17,18,19] [4,7,15]),(4,zK [0,2,4,7,8,17,18] [4,7,15]),(5,zK [0,2,4,7,8,17,18,21] [4,7,15]),(6,zK [0,2,4,7,8,17,18,21,22] [4,7,15]),(7,zK [0,2,4,7,8,9,17,18,21] [4,7,15]),(8,zK [0,2,4,7,8,17,18,21] [4,7,15]),(9,zK [0,2,4,7,8,17,18,21] [4,7,15]),(10,zK [0,2,4,7,17,18] [4,7,15]),(11,zK [0,2,4,7] [4,7,15]),(12,zK [0,2,4,7,10] [4,7,10,15]),(13,zK [0,2,4,7,10,39] [4,7,10,15]),(14,zK [0,2,4,7,10] [4,7,10,15]),(15,zK [0,2,4,7,10,43] [4,7,10,15]),(16,zK [0,2,4,7,10,11,43] [4,7,10,11,15]),(17,zK [0,2,4,7,10,11,12,43] [4,7,10,11,12,15]),(18,zK [0,2,4,7,10,11,12,43,67] [4,7,10,11,12,15]),(19,zK [0,2,4,7,10,43] [4,7,10,15]),(20,zK [0,2,4,7,89] [4,7,15]),(21,zK [0,2,4,7,10] [4,7,10,15]),(22,zK [6] [15])],
 [(3,zK [0,2,4,7,17,18] [4,7,15]),(6,zK [0,2,4,7,8,17,18,21] [4,7,15]),(13,zK [0,2,4,7,10] [4,7,10,15]),(16,zK [0,2,4,7,10,43] [4,7,10,15])],
 [(11,zK [0,2,4,7] [4,7,15])],
 [],[]⟩
def zfO (w:web) (node:Int) (uses:Int) (zb0:Int) (zfP:Nat) (zcg:Nat→List PV):St:=⟨[(0,.one (.c (.p (.fp (zaD w) 0)))),(2,.one (.c (.p (.int .i64 uses)))),(4,.one (.c (.ptr 4 0))),(7,.one (.c (.ptr 7 0))),(17,.one (.c (.p (.int .i64 ((w64 (uses+(1:Int))).toNat:Int))))),(18,.one (.c (.p (.int .i64 zb0))))],[(4,.box 3 [.p (.int .i64 node)]),(7,.box 159 [.vec 15]),(15,.vec 116 80 640 zfP zcg)],[]⟩
def zhS (K:List PA→Prop) (w:web) (node:Int) (uses:Int) (zb0:Int) (zfP:Nat) (zcg:Nat→List PV):Prop:=vc Tryd.prog zfy zbf (cdF Tryd.f106 [1,1,0,1,0]) (zak 0 (sqK Tryd.prog zfy zbf (cdF Tryd.f106 [1,1,1]) (zbl Tryd.prog Tryd.f106 K))) (zfO w node uses zb0 zfP zcg)
def zhb (w:web) (node:Int) (uses:Int) (iv1:Int) (zbU:Int) (zbO:Int) (zfQ:Nat) (zcH:Nat→List PV):St:=⟨[(0,.one (.c (.p (.fp (zaD w) 0)))),(2,.one (.c (.p (.int .i64 uses)))),(4,.one (.c (.ptr 4 0))),(7,.one (.c (.ptr 7 0))),(8,.one (.c (.p (.int .i64 iv1)))),(17,.one (.c (.p (.int .i64 ((w64 (uses+(1:Int))).toNat:Int))))),(18,.one (.c (.p (.int .i64 zbU)))),(21,.one (.c (.p (.int .i64 zbO))))],[(4,.box 3 [.p (.int .i64 node)]),(7,.box 159 [.vec 15]),(15,.vec 116 80 640 zfQ zcH)],[]⟩
def zhT (K:List PA→Prop) (X0:St→Prop) (w:web) (node:Int) (uses:Int) (iv1:Int) (zbU:Int) (zbO:Int) (zfQ:Nat) (zcH:Nat→List PV):Prop:=vc Tryd.prog zfy zbf (cdF Tryd.f106 [1,1,0,1,0,0,1,1,0,0,1,1,0]) (zak 2 (zak 1 (sqK Tryd.prog zfy zbf (cdF Tryd.f106 [1,1,0,1,0,0,1,1,1]) (zbn Tryd.prog zbf 3 X0 (zak 0 (sqK Tryd.prog zfy zbf (cdF Tryd.f106 [1,1,1]) (zbl Tryd.prog Tryd.f106 K))))))) (zhb w node uses iv1 zbU zbO zfQ zcH)
def zEF (w:web) (node:Int) (uses:Int) (zq9:Nat) (ziy:Nat→List PV):St:=⟨[(0,.one (.c (.p (.fp (zaD w) 0)))),(2,.one (.c (.p (.int .i64 uses)))),(4,.one (.c (.ptr 4 0))),(7,.one (.c (.ptr 7 0)))],[(4,.box 3 [.p (.int .i64 node)]),(7,.box 159 [.vec 15]),(15,.vec 116 80 640 zq9 ziy)],[]⟩
def zjL (K:List PA→Prop) (w:web) (node:Int) (uses:Int) (zq9:Nat) (ziy:Nat→List PV):Prop:=vc Tryd.prog zfy zbf (cdF Tryd.f106 [1,1,1]) (zbl Tryd.prog Tryd.f106 K) (zEF w node uses zq9 ziy)
def zfR (w:web) (node:Int) (uses:Int) (kv3:Int) (zfS:Nat) (zch:Nat→List PV):St:=⟨[(0,.one (.c (.p (.fp (zaD w) 0)))),(2,.one (.c (.p (.int .i64 uses)))),(4,.one (.c (.ptr 4 0))),(7,.one (.c (.ptr 7 0))),(10,.one (.c (.ptr 10 0)))],[(4,.box 3 [.p (.int .i64 node)]),(7,.box 159 [.vec 15]),(10,.box 3 [.p (.int .i64 kv3)]),(15,.vec 116 80 640 zfS zch)],[]⟩
def zhU (K:List PA→Prop) (w:web) (node:Int) (uses:Int) (kv3:Int) (zfS:Nat) (zch:Nat→List PV):Prop:=vc Tryd.prog zfy zbf (cdF Tryd.f106 [1,1,1,1,0,1,0]) (zak 4 (sqK Tryd.prog zfy zbf (cdF Tryd.f106 [1,1,1,1,1]) (zbl Tryd.prog Tryd.f106 K))) (zfR w node uses kv3 zfS zch)
def zdD (w:web) (node:Int) (uses:Int) (kv4:Int) (zfT:Nat) (zcI:Nat→List PV):St:=⟨[(0,.one (.c (.p (.fp (zaD w) 0)))),(2,.one (.c (.p (.int .i64 uses)))),(4,.one (.c (.ptr 4 0))),(7,.one (.c (.ptr 7 0))),(10,.one (.c (.ptr 10 0))),(43,.one (.c (.p (.fn 110 [] [.fp [.fp (zaD w) 0] 0]))))],[(4,.box 3 [.p (.int .i64 node)]),(7,.box 159 [.vec 15]),(10,.box 3 [.p (.int .i64 kv4)]),(15,.vec 116 80 640 zfT zcI)],[]⟩
def zhV (K:List PA→Prop) (X3:St→Prop) (w:web) (node:Int) (uses:Int) (kv4:Int) (zfT:Nat) (zcI:Nat→List PV):Prop:=vc Tryd.prog zfy zbf (cdF Tryd.f106 [1,1,1,1,0,1,0,0,1,0,0,1,0]) (zak 6 (zak 5 (sqK Tryd.prog zfy zbf (cdF Tryd.f106 [1,1,1,1,0,1,0,0,1,1]) (zbn Tryd.prog zbf 13 X3 (zak 4 (sqK Tryd.prog zfy zbf (cdF Tryd.f106 [1,1,1,1,1]) (zbl Tryd.prog Tryd.f106 K))))))) (zdD w node uses kv4 zfT zcI)
theorem zB3 (w : web) (node : Int) (uses : Int) (K : List PA → Prop) :
  vcFun Tryd.prog zfy zbf 106 [.one (.fp (zaD w) 0),.one (.int .i64 node),.one (.int .i64 uses)] K =
  (((0≤(w64 (uses+(1:Int)))∧(w64 (uses+(1:Int)))=(w64 (uses+(1:Int)))∧(w64 (uses+(1:Int)))≤1000000)) ∧
 (zhS K w node uses (0:Int) ((w64 (uses+(1:Int))).toNat) (fun _=>(zae (fun _=>(0:Int)))))):=by kernel_rfl
def zmG (K:List PA→Prop) (X0:St→Prop) (w:web) (node:Int) (uses:Int) (zb0:Int) (zb3:(Sl Tab)):Prop :=
  (zbR (decide (zb0 < ((w64 (uses + (1:Int))).toNat : Int)))
 (zhT K X0 w node uses zb0 zb0 (0:Int) zb3.len (fun i=>zae (zb3.get i)))
 (zjL K w node uses zb3.len (fun i=>zae (zb3.get i))))
theorem zpu (K : List PA → Prop) (X0 : St → Prop) (w : web) (node : Int) (uses : Int) (zb0 : Int) (zb3 : (Sl Tab)) :
  vc Tryd.prog zfy zbf (cd (cdF Tryd.f106 [1,1,0,1,0]) [0]) (zbn Tryd.prog zbf 3 X0 (zak 0 (sqK Tryd.prog zfy zbf (cdF Tryd.f106 [1,1,1]) (zbl Tryd.prog Tryd.f106 K)))) (zfO w node uses zb0 zb3.len (fun i=>zae (zb3.get i))) =
  zmG K X0 w node uses zb0 zb3:=by kernel_rfl
theorem zvB (K : List PA → Prop) (w : web) (node : Int) (uses : Int) (zb0 : Int) (zfP : Nat) (zcg : Nat → List PV)
  (h:∀ X0:St→Prop,(∀ (zb0:Int) (zb3:(Sl Tab)),zmG K X0 w node uses zb0 zb3→X0 (zfO w node uses zb0 zb3.len (fun i=>zae (zb3.get i))))→X0 (zfO w node uses zb0 zfP zcg)) :
  zhS K w node uses zb0 zfP zcg:=by
  have e:zhS K w node uses zb0 zfP zcg=(∀ X:St→Prop,(∀ s,vc Tryd.prog zfy zbf (cd (cdF Tryd.f106 [1,1,0,1,0]) [0]) (zbn Tryd.prog zbf 3 X (zak 0 (sqK Tryd.prog zfy zbf (cdF Tryd.f106 [1,1,1]) (zbl Tryd.prog Tryd.f106 K)))) s→X s)→X (zfO w node uses zb0 zfP zcg)):=by kernel_rfl
  refine zbd e ?_
  intro X hX
  refine h X ?_
  intro zb0 zb3 hs
  refine hX _ ?_
  have e2:=zpu K X w node uses zb0 zb3
  rw [e2]
  exact hs
def zmH (K:List PA→Prop) (X0:St→Prop) (X1:St→Prop) (w:web) (node:Int) (uses:Int) (iv1:Int) (zbU:Int) (zbO:Int) (zbI:(Sl Tab)):Prop :=
  (zbR (decide (zbO < (40:Int)))
 (((0≤iv1∧iv1 < (zbI.len:Int))) ∧
 (((0≤zbO∧zbO < (40:Int))) ∧
 (((iv1.toNat < zbI.len)) ∧
 (X1 (zhb w node uses iv1 zbU (w64 (zbO+(1:Int))) zbI.len (zjx iv1.toNat 0 (fun i=>zae (zbI.get i)) (zae (ts 80 (zbI.get iv1.toNat) (0+zbO.toNat * 2+0) [(1000000000000:Int),(0:Int)]))))))))
 (X0 (zfO w node uses (w64 (zbU+(1:Int))) zbI.len (fun i=>zae (zbI.get i)))))
theorem zpv (K : List PA → Prop) (X0 : St → Prop) (X1 : St → Prop) (w : web) (node : Int) (uses : Int) (iv1 : Int) (zbU : Int) (zbO : Int) (zbI : (Sl Tab)) :
  vc Tryd.prog zfy zbf (cd (cdF Tryd.f106 [1,1,0,1,0,0,1,1,0,0,1,1,0]) [0]) (zbn Tryd.prog zbf 6 X1 (zak 2 (zak 1 (sqK Tryd.prog zfy zbf (cdF Tryd.f106 [1,1,0,1,0,0,1,1,1]) (zbn Tryd.prog zbf 3 X0 (zak 0 (sqK Tryd.prog zfy zbf (cdF Tryd.f106 [1,1,1]) (zbl Tryd.prog Tryd.f106 K)))))))) (zhb w node uses iv1 zbU zbO zbI.len (fun i=>zae (zbI.get i))) =
  zmH K X0 X1 w node uses iv1 zbU zbO zbI:=by kernel_rfl
theorem zvC (K : List PA → Prop) (X0 : St → Prop) (w : web) (node : Int) (uses : Int) (iv1 : Int) (zbU : Int) (zbO : Int) (zfQ : Nat) (zcH : Nat → List PV)
  (h:∀ X1:St→Prop,(∀ (iv1:Int) (zbU:Int) (zbO:Int) (zbI:(Sl Tab)),zmH K X0 X1 w node uses iv1 zbU zbO zbI→X1 (zhb w node uses iv1 zbU zbO zbI.len (fun i=>zae (zbI.get i))))→X1 (zhb w node uses iv1 zbU zbO zfQ zcH)) :
  zhT K X0 w node uses iv1 zbU zbO zfQ zcH:=by
  have e:zhT K X0 w node uses iv1 zbU zbO zfQ zcH=(∀ X:St→Prop,(∀ s,vc Tryd.prog zfy zbf (cd (cdF Tryd.f106 [1,1,0,1,0,0,1,1,0,0,1,1,0]) [0]) (zbn Tryd.prog zbf 6 X (zak 2 (zak 1 (sqK Tryd.prog zfy zbf (cdF Tryd.f106 [1,1,0,1,0,0,1,1,1]) (zbn Tryd.prog zbf 3 X0 (zak 0 (sqK Tryd.prog zfy zbf (cdF Tryd.f106 [1,1,1]) (zbl Tryd.prog Tryd.f106 K)))))))) s→X s)→X (zhb w node uses iv1 zbU zbO zfQ zcH)):=by kernel_rfl
  refine zbd e ?_
  intro X hX
  refine h X ?_
  intro iv1 zbU zbO zbI hs
  refine hX _ ?_
  have e2:=zpv K X0 X w node uses iv1 zbU zbO zbI
  rw [e2]
  exact hs
theorem zB4 (K : List PA → Prop) (w : web) (node : Int) (uses : Int) (zc2 : (Sl Tab)) :
  zjL K w node uses zc2.len (fun i=>zae (zc2.get i)) =
  (((0≤(0:Int)∧(0:Int) < (zc2.len:Int))) ∧
 (((0≤node∧node < (40:Int))) ∧
 (((0 < zc2.len)) ∧
 (zhU K w node uses (1:Int) zc2.len (zjx 0 0 (fun i=>zae (zc2.get i)) (zae (ts 80 (zc2.get 0) (0+node.toNat * 2+0) [(0:Int),(0:Int)]))))))):=by kernel_rfl
def zmI (K:List PA→Prop) (X3:St→Prop) (w:web) (node:Int) (uses:Int) (kv3:Int) (zb7:(Sl Tab)):Prop :=
  (zbR (decide (kv3 ≤ uses))
 ((IsE enc_40 4 4 (fun i=>enc_40 (w.Net.Ties.get i))∧((false,1,false,[none]):MQ)=(false,1,false,[none])) ∧
 (zhV K X3 w node uses kv3 zb7.len (fun i=>zae (zb7.get i))))
 (K [.one (.sl zb7.len 80 (fun i=>zae (zb7.get i)))]))
theorem zpw (K : List PA → Prop) (X3 : St → Prop) (w : web) (node : Int) (uses : Int) (kv3 : Int) (zb7 : (Sl Tab)) :
  vc Tryd.prog zfy zbf (cd (cdF Tryd.f106 [1,1,1,1,0,1,0]) [0]) (zbn Tryd.prog zbf 13 X3 (zak 4 (sqK Tryd.prog zfy zbf (cdF Tryd.f106 [1,1,1,1,1]) (zbl Tryd.prog Tryd.f106 K)))) (zfR w node uses kv3 zb7.len (fun i=>zae (zb7.get i))) =
  zmI K X3 w node uses kv3 zb7:=by kernel_rfl
theorem zvD (K : List PA → Prop) (w : web) (node : Int) (uses : Int) (kv3 : Int) (zfS : Nat) (zch : Nat → List PV)
  (h:∀ X3:St→Prop,(∀ (kv3:Int) (zb7:(Sl Tab)),zmI K X3 w node uses kv3 zb7→X3 (zfR w node uses kv3 zb7.len (fun i=>zae (zb7.get i))))→X3 (zfR w node uses kv3 zfS zch)) :
  zhU K w node uses kv3 zfS zch:=by
  have e:zhU K w node uses kv3 zfS zch=(∀ X:St→Prop,(∀ s,vc Tryd.prog zfy zbf (cd (cdF Tryd.f106 [1,1,1,1,0,1,0]) [0]) (zbn Tryd.prog zbf 13 X (zak 4 (sqK Tryd.prog zfy zbf (cdF Tryd.f106 [1,1,1,1,1]) (zbl Tryd.prog Tryd.f106 K)))) s→X s)→X (zfR w node uses kv3 zfS zch)):=by kernel_rfl
  refine zbd e ?_
  intro X hX
  refine h X ?_
  intro kv3 zb7 hs
  refine hX _ ?_
  have e2:=zpw K X w node uses kv3 zb7
  rw [e2]
  exact hs
def zmJ (K:List PA→Prop) (X3:St→Prop) (w:web) (node:Int) (uses:Int) (kv4:Int) (zaB:(Sl Tab)):Prop :=
  (X3 (zfR w node uses (w64 (kv4+(1:Int))) zaB.len (fun i=>zae (zaB.get i))))
def zmK (K:List PA→Prop) (X3:St→Prop) (X4:List (List PA)→St→Prop) (y4:step) (rest4:List (List PA)) (w:web) (node:Int) (uses:Int) (kv4:Int) (zaB:(Sl Tab)):Prop :=
  (((0≤(w64 (kv4 - (1:Int)))∧(w64 (kv4 - (1:Int))) < (zaB.len:Int))) ∧
 (((0≤y4.to∧y4.to < (40:Int))) ∧
 ((((w64 (kv4 - (1:Int))).toNat < zaB.len)) ∧
 (zbR (decide (y4.from_ ≥ node))
 (zbR (decide (y4.to ≥ node))
 (zbR (!(nvr (tg 80 (zaB.get ((w64 (kv4 - (1:Int))).toNat)) (0 + y4.to.toNat * 2 + 0)) (tg 80 (zaB.get ((w64 (kv4 - (1:Int))).toNat)) (0 + y4.to.toNat * 2 + 0 + 1))))
 (((0≤kv4∧kv4 < (zaB.len:Int))) ∧
 (((0≤y4.from_∧y4.from_ < (40:Int))) ∧
 (((kv4.toNat < zaB.len)) ∧
 ((IsE zcy 2 2 (fun _=>(zcy (⟨(w64 ((tg 80 (zaB.get ((w64 (kv4 - (1:Int))).toNat)) (0+y4.to.toNat * 2+0))+y4.length)),(0:Int)⟩:far)))∧(zvW (⟨(tL (zaB.get kv4.toNat) y4.from_),(tU (zaB.get kv4.toNat) y4.from_)⟩:far) (⟨1,fun _=>(⟨(w64 ((tg 80 (zaB.get ((w64 (kv4 - (1:Int))).toNat)) (0+y4.to.toNat * 2+0))+y4.length)),(0:Int)⟩:far)⟩:(Sl far))=true)) ∧
 (((0≤kv4∧kv4 < (zaB.len:Int))) ∧
 (((0≤y4.from_∧y4.from_ < (40:Int))) ∧
 (((kv4.toNat < zaB.len)) ∧
 (X4 rest4 (zdD w node uses kv4 zaB.len (zjx kv4.toNat 0 (fun i=>zae (zaB.get i)) (zae (ts 80 (zaB.get kv4.toNat) (0+y4.from_.toNat * 2+0) [(zcb (⟨(tL (zaB.get kv4.toNat) y4.from_),(tU (zaB.get kv4.toNat) y4.from_)⟩:far) (⟨1,fun _=>(⟨(w64 ((tg 80 (zaB.get ((w64 (kv4 - (1:Int))).toNat)) (0+y4.to.toNat * 2+0))+y4.length)),(0:Int)⟩:far)⟩:(Sl far))).length,(zcb (⟨(tL (zaB.get kv4.toNat) y4.from_),(tU (zaB.get kv4.toNat) y4.from_)⟩:far) (⟨1,fun _=>(⟨(w64 ((tg 80 (zaB.get ((w64 (kv4 - (1:Int))).toNat)) (0+y4.to.toNat * 2+0))+y4.length)),(0:Int)⟩:far)⟩:(Sl far))).uses]))))))))))))
 (X4 rest4 (zdD w node uses kv4 zaB.len (fun i=>zae (zaB.get i)))))
 (X4 rest4 (zdD w node uses kv4 zaB.len (fun i=>zae (zaB.get i)))))
 (X4 rest4 (zdD w node uses kv4 zaB.len (fun i=>zae (zaB.get i))))))))
theorem zpx (K:List PA→Prop) (X3:St→Prop) (w:web) (node:Int) (uses:Int) (kv4:Int) (zaB:(Sl Tab)):(zak 6 (zak 5 (sqK Tryd.prog zfy zbf (cdF Tryd.f106 [1,1,1,1,0,1,0,0,1,1]) (zbn Tryd.prog zbf 13 X3 (zak 4 (sqK Tryd.prog zfy zbf (cdF Tryd.f106 [1,1,1,1,1]) (zbl Tryd.prog Tryd.f106 K))))))) .normal (zdD w node uses kv4 zaB.len (fun i=>zae (zaB.get i)))=zmJ K X3 w node uses kv4 zaB:=by kernel_rfl
theorem zpy (K : List PA → Prop) (X3 : St → Prop) (X4 : List (List PA) → St → Prop) (y4 : step) (rest4 : List (List PA)) (w : web) (node : Int) (uses : Int) (kv4 : Int) (zaB : (Sl Tab)) :
  zvV Tryd.prog zfy zbf 16 [44] (cd (cdF Tryd.f106 [1,1,1,1,0,1,0,0,1,0,0,1,0]) [0]) (cd (cdF Tryd.f106 [1,1,1,1,0,1,0,0,1,0,0,1,0]) [1]) X4 (zak 6 (zak 5 (sqK Tryd.prog zfy zbf (cdF Tryd.f106 [1,1,1,1,0,1,0,0,1,1]) (zbn Tryd.prog zbf 13 X3 (zak 4 (sqK Tryd.prog zfy zbf (cdF Tryd.f106 [1,1,1,1,1]) (zbl Tryd.prog Tryd.f106 K))))))) [.agg (zaf y4)] rest4 (zdD w node uses kv4 zaB.len (fun i=>zae (zaB.get i)))=zmK K X3 X4 y4 rest4 w node uses kv4 zaB:=by kernel_rfl
theorem zvE (K : List PA → Prop) (X3 : St → Prop) (w : web) (node : Int) (uses : Int) (kv4 : Int) (zfT : Nat) (zcI : Nat → List PV)
  (hsafe:IsE enc_40 4 4 (fun i=>enc_40 (w.Net.Ties.get i))∧((false,1,false,[none]):MQ)=(false,1,false,[none])∧(zl0 w=true)) (h:∀ X4:List (List PA)→St→Prop,(∀ (kv4:Int) (zaB:(Sl Tab)),zmJ K X3 w node uses kv4 zaB→X4 [] (zdD w node uses kv4 zaB.len (fun i=>zae (zaB.get i))))→(∀ (y:step) (rest:List (List PA)) (kv4:Int) (zaB:(Sl Tab)),zmK K X3 X4 y rest w node uses kv4 zaB→X4 ([.agg (zaf y)] :: rest) (zdD w node uses kv4 zaB.len (fun i=>zae (zaB.get i))))→X4 ((zic w).map fun y=>[.agg (zaf y)]) (zdD w node uses kv4 zfT zcI)) :
  zhV K X3 w node uses kv4 zfT zcI:=by
  have e:zhV K X3 w node uses kv4 zfT zcI=((IsE enc_40 4 4 (fun i=>enc_40 (w.Net.Ties.get i))∧((false,1,false,[none]):MQ)=(false,1,false,[none])∧(zl0 w=true))∧∀ X:List (List PA)→St→Prop,(∀ s,(zak 6 (zak 5 (sqK Tryd.prog zfy zbf (cdF Tryd.f106 [1,1,1,1,0,1,0,0,1,1]) (zbn Tryd.prog zbf 13 X3 (zak 4 (sqK Tryd.prog zfy zbf (cdF Tryd.f106 [1,1,1,1,1]) (zbl Tryd.prog Tryd.f106 K))))))) .normal s→X [] s)→(∀ y rest s,zvV Tryd.prog zfy zbf 16 [44] (cd (cdF Tryd.f106 [1,1,1,1,0,1,0,0,1,0,0,1,0]) [0]) (cd (cdF Tryd.f106 [1,1,1,1,0,1,0,0,1,0,0,1,0]) [1]) X (zak 6 (zak 5 (sqK Tryd.prog zfy zbf (cdF Tryd.f106 [1,1,1,1,0,1,0,0,1,1]) (zbn Tryd.prog zbf 13 X3 (zak 4 (sqK Tryd.prog zfy zbf (cdF Tryd.f106 [1,1,1,1,1]) (zbl Tryd.prog Tryd.f106 K))))))) y rest s→X (y :: rest) s)→X ((zic w).map fun y=>[.agg (zaf y)]) (zdD w node uses kv4 zfT zcI)):=by kernel_rfl
  refine zbd e ⟨hsafe,?_⟩
  intro X h0 h1
  refine h X (fun kv4 zaB hs=>h0 _ ?_) (fun y rest kv4 zaB hs=>h1 _ rest _ ?_)
  · rw [zpx K X3 w node uses kv4 zaB];exact hs
  · have e2 := zpy K X3 X y rest w node uses kv4 zaB
    rw [e2];exact hs
abbrev zkW (r:(Sl Tab)):List PA:=[.one (.sl r.len 80 (fun i=>zae (r.get i)))]
attribute [irreducible] zhS zhT zjL zhU zhV
def znJ (S3:Int→(Sl Tab)→(Sl Tab)) (w:web) (node:Int) (uses:Int) (kv4:Int) (zaB:(Sl Tab)):(Sl Tab) :=
  (S3 (w64 (kv4+(1:Int))) zaB)
def znK (P3:Int→(Sl Tab)→Bool) (w:web) (node:Int) (uses:Int) (kv4:Int) (zaB:(Sl Tab)):Bool :=
  (P3 (w64 (kv4+(1:Int))) zaB)
def znL (S3:Int→(Sl Tab)→(Sl Tab)) (w:web) (node:Int) (uses:Int) (y4:step) (S4:Int→(Sl Tab)→(Sl Tab)) (kv4:Int) (zaB:(Sl Tab)):(Sl Tab) :=
  (cond (decide (y4.from_ ≥ node))
 (cond (decide (y4.to ≥ node))
 (cond (!(nvr (tg 80 (zaB.get ((w64 (kv4 - (1:Int))).toNat)) (0 + y4.to.toNat * 2 + 0)) (tg 80 (zaB.get ((w64 (kv4 - (1:Int))).toNat)) (0 + y4.to.toNat * 2 + 0 + 1))))
 (S4 kv4 (⟨zaB.len,(setT kv4.toNat (ts 80 (zaB.get kv4.toNat) (0+y4.from_.toNat * 2+0) [(zcb (⟨(tL (zaB.get kv4.toNat) y4.from_),(tU (zaB.get kv4.toNat) y4.from_)⟩:far) (⟨1,fun _=>(⟨(w64 ((tg 80 (zaB.get ((w64 (kv4 - (1:Int))).toNat)) (0+y4.to.toNat * 2+0))+y4.length)),(0:Int)⟩:far)⟩:(Sl far))).length,(zcb (⟨(tL (zaB.get kv4.toNat) y4.from_),(tU (zaB.get kv4.toNat) y4.from_)⟩:far) (⟨1,fun _=>(⟨(w64 ((tg 80 (zaB.get ((w64 (kv4 - (1:Int))).toNat)) (0+y4.to.toNat * 2+0))+y4.length)),(0:Int)⟩:far)⟩:(Sl far))).uses]) zaB.get)⟩:Sl Tab))
 (S4 kv4 zaB))
 (S4 kv4 zaB))
 (S4 kv4 zaB))
def znM (P3:Int→(Sl Tab)→Bool) (w:web) (node:Int) (uses:Int) (y4:step) (P4:Int→(Sl Tab)→Bool) (kv4:Int) (zaB:(Sl Tab)):Bool :=
  (decide ((0≤(w64 (kv4 - (1:Int)))∧(w64 (kv4 - (1:Int))) < (zaB.len:Int))) &&
 (decide ((0≤y4.to∧y4.to < (40:Int))) &&
 (decide (((w64 (kv4 - (1:Int))).toNat < zaB.len)) &&
 (cond (decide (y4.from_ ≥ node))
 (cond (decide (y4.to ≥ node))
 (cond (!(nvr (tg 80 (zaB.get ((w64 (kv4 - (1:Int))).toNat)) (0 + y4.to.toNat * 2 + 0)) (tg 80 (zaB.get ((w64 (kv4 - (1:Int))).toNat)) (0 + y4.to.toNat * 2 + 0 + 1))))
 (decide ((0≤kv4∧kv4 < (zaB.len:Int))) &&
 (decide ((0≤y4.from_∧y4.from_ < (40:Int))) &&
 (decide ((kv4.toNat < zaB.len)) &&
 (decide ((zvW (⟨(tL (zaB.get kv4.toNat) y4.from_),(tU (zaB.get kv4.toNat) y4.from_)⟩:far) (⟨1,fun _=>(⟨(w64 ((tg 80 (zaB.get ((w64 (kv4 - (1:Int))).toNat)) (0+y4.to.toNat * 2+0))+y4.length)),(0:Int)⟩:far)⟩:(Sl far))=true)) &&
 (decide ((0≤kv4∧kv4 < (zaB.len:Int))) &&
 (decide ((0≤y4.from_∧y4.from_ < (40:Int))) &&
 (decide ((kv4.toNat < zaB.len)) &&
 (P4 kv4 (⟨zaB.len,(setT kv4.toNat (ts 80 (zaB.get kv4.toNat) (0+y4.from_.toNat * 2+0) [(zcb (⟨(tL (zaB.get kv4.toNat) y4.from_),(tU (zaB.get kv4.toNat) y4.from_)⟩:far) (⟨1,fun _=>(⟨(w64 ((tg 80 (zaB.get ((w64 (kv4 - (1:Int))).toNat)) (0+y4.to.toNat * 2+0))+y4.length)),(0:Int)⟩:far)⟩:(Sl far))).length,(zcb (⟨(tL (zaB.get kv4.toNat) y4.from_),(tU (zaB.get kv4.toNat) y4.from_)⟩:far) (⟨1,fun _=>(⟨(w64 ((tg 80 (zaB.get ((w64 (kv4 - (1:Int))).toNat)) (0+y4.to.toNat * 2+0))+y4.length)),(0:Int)⟩:far)⟩:(Sl far))).uses]) zaB.get)⟩:Sl Tab)))))))))
 (P4 kv4 zaB))
 (P4 kv4 zaB))
 (P4 kv4 zaB)))))
def zhW (S3 : Int → (Sl Tab) → (Sl Tab)) (w : web) (node : Int) (uses : Int) : List step → Int → (Sl Tab) → (Sl Tab)
  | []=>znJ S3 w node uses
  | y :: r=>znL S3 w node uses y (zhW S3 w node uses r)
def zhX (P3 : Int → (Sl Tab) → Bool) (w : web) (node : Int) (uses : Int) : List step → Int → (Sl Tab) → Bool
  | []=>znK P3 w node uses
  | y :: r=>znM P3 w node uses y (zhX P3 w node uses r)
def zum (S3:Int→(Sl Tab)→(Sl Tab)) (w:web) (node:Int) (uses:Int) (kv4:Int) (zaB:(Sl Tab)):(Sl Tab):=zhW S3 w node uses (zic w) kv4 zaB
def znN (P3:Int→(Sl Tab)→Bool) (w:web) (node:Int) (uses:Int) (kv4:Int) (zaB:(Sl Tab)):Bool:=decide ((zl0 w=true)) && zhX P3 w node uses (zic w) kv4 zaB
theorem zB5 (K : List PA → Prop) (w : web) (node : Int) (uses : Int)
  (X3:St→Prop) (P3:Int→(Sl Tab)→Bool) (S3:Int→(Sl Tab)→(Sl Tab))
  (hX3:∀ (kv3:Int) (zb7:(Sl Tab)) (zch:Nat→List PV) (ziz:zch=fun i=>zae (zb7.get i)),P3 kv3 zb7=true→K (zkW (S3 kv3 zb7))→X3 (zfR w node uses kv3 zb7.len zch)) (kv4:Int) (zaB:(Sl Tab)) (zcI:Nat→List PV) (ziA:zcI=fun i=>zae (zaB.get i)) (hs:znN P3 w node uses kv4 zaB=true) (hk:K (zkW (zum S3 w node uses kv4 zaB))):zhV K X3 w node uses kv4 zaB.len zcI:=by
  unfold znN at hs
  rw [Bool.and_eq_true] at hs
  obtain ⟨hsf,hs⟩:=hs
  have hc:=of_decide_eq_true hsf
  refine zvE K X3 w node uses kv4 zaB.len zcI ⟨isE,rfl,hc⟩ ?_
  intro X4 hexit hstep
  have key:∀ (l:List step) (kv4:Int) (zaB:(Sl Tab)) (zcI:Nat→List PV) (ziA:zcI=fun i=>zae (zaB.get i)),zhX P3 w node uses l kv4 zaB=true→K (zkW (zhW S3 w node uses l kv4 zaB))→X4 (l.map fun y=>[.agg (zaf y)]) (zdD w node uses kv4 zaB.len zcI):=by
    intro l
    induction l with
    | nil =>
      intro kv4 zaB zcI ziA hs hk
      subst ziA
      refine hexit kv4 zaB ?_
      have hs:znK P3 w node uses kv4 zaB=true:=hs
      have hk:K (zkW (znJ S3 w node uses kv4 zaB)):=hk
      unfold znK at hs
      unfold znJ at hk
      exact (hX3 (w64 (kv4+(1:Int))) zaB (fun i=>zae (zaB.get i)) rfl hs hk)
    | cons y4 l ih =>
      intro kv4 zaB zcI ziA hs hk
      subst ziA
      refine hstep y4 _ kv4 zaB ?_
      have hs:znM P3 w node uses y4 (zhX P3 w node uses l) kv4 zaB=true:=hs
      have hk:K (zkW (znL S3 w node uses y4 (zhW S3 w node uses l) kv4 zaB)):=hk
      unfold znM at hs
      unfold znL at hk
      generalize zhW S3 w node uses l=S4 at hk ih
      generalize zhX P3 w node uses l=P4 at hs ih
      have hX4:=ih
      exact (za2 hs fun hc hs => ⟨hc, (za2 hs fun hc hs => ⟨hc, (za2 hs fun hc hs => ⟨hc, (zaZ (K := fun r => K (zkW r))
 (fun hs hk => (zaZ (K := fun r => K (zkW r))
 (fun hs hk => (zaZ (K := fun r => K (zkW r))
 (fun hs hk=>(za2 hs fun hc hs=>⟨hc,(za2 hs fun hc hs=>⟨hc,(za2 hs fun hc hs=>⟨hc,(za2 hs fun hc hs=>⟨⟨zxt,hc⟩,(za2 hs fun hc hs=>⟨hc,(za2 hs fun hc hs=>⟨hc,(za2 hs fun hc hs=>⟨hc,(hX4 kv4 (⟨zaB.len,(setT kv4.toNat (ts 80 (zaB.get kv4.toNat) (0+y4.from_.toNat * 2+0) [(zcb (⟨(tL (zaB.get kv4.toNat) y4.from_),(tU (zaB.get kv4.toNat) y4.from_)⟩:far) (⟨1,fun _=>(⟨(w64 ((tg 80 (zaB.get ((w64 (kv4 - (1:Int))).toNat)) (0+y4.to.toNat * 2+0))+y4.length)),(0:Int)⟩:far)⟩:(Sl far))).length,(zcb (⟨(tL (zaB.get kv4.toNat) y4.from_),(tU (zaB.get kv4.toNat) y4.from_)⟩:far) (⟨1,fun _=>(⟨(w64 ((tg 80 (zaB.get ((w64 (kv4 - (1:Int))).toNat)) (0+y4.to.toNat * 2+0))+y4.length)),(0:Int)⟩:far)⟩:(Sl far))).uses]) zaB.get)⟩:Sl Tab) (zjx kv4.toNat 0 (fun i=>zae (zaB.get i)) (zae (ts 80 (zaB.get kv4.toNat) (0+y4.from_.toNat * 2+0) [(zcb (⟨(tL (zaB.get kv4.toNat) y4.from_),(tU (zaB.get kv4.toNat) y4.from_)⟩:far) (⟨1,fun _=>(⟨(w64 ((tg 80 (zaB.get ((w64 (kv4 - (1:Int))).toNat)) (0+y4.to.toNat * 2+0))+y4.length)),(0:Int)⟩:far)⟩:(Sl far))).length,(zcb (⟨(tL (zaB.get kv4.toNat) y4.from_),(tU (zaB.get kv4.toNat) y4.from_)⟩:far) (⟨1,fun _=>(⟨(w64 ((tg 80 (zaB.get ((w64 (kv4 - (1:Int))).toNat)) (0+y4.to.toNat * 2+0))+y4.length)),(0:Int)⟩:far)⟩:(Sl far))).uses]))) (zmE (enc:=zae) (i:=kv4.toNat) (k:=0) (f:=zaB.get) (new:=(zae (ts 80 (zaB.get kv4.toNat) (0+y4.from_.toNat * 2+0) [(zcb (⟨(tL (zaB.get kv4.toNat) y4.from_),(tU (zaB.get kv4.toNat) y4.from_)⟩:far) (⟨1,fun _=>(⟨(w64 ((tg 80 (zaB.get ((w64 (kv4 - (1:Int))).toNat)) (0+y4.to.toNat * 2+0))+y4.length)),(0:Int)⟩:far)⟩:(Sl far))).length,(zcb (⟨(tL (zaB.get kv4.toNat) y4.from_),(tU (zaB.get kv4.toNat) y4.from_)⟩:far) (⟨1,fun _=>(⟨(w64 ((tg 80 (zaB.get ((w64 (kv4 - (1:Int))).toNat)) (0+y4.to.toNat * 2+0))+y4.length)),(0:Int)⟩:far)⟩:(Sl far))).uses]))) (v:=(ts 80 (zaB.get kv4.toNat) (0+y4.from_.toNat * 2+0) [(zcb (⟨(tL (zaB.get kv4.toNat) y4.from_),(tU (zaB.get kv4.toNat) y4.from_)⟩:far) (⟨1,fun _=>(⟨(w64 ((tg 80 (zaB.get ((w64 (kv4 - (1:Int))).toNat)) (0+y4.to.toNat * 2+0))+y4.length)),(0:Int)⟩:far)⟩:(Sl far))).length,(zcb (⟨(tL (zaB.get kv4.toNat) y4.from_),(tU (zaB.get kv4.toNat) y4.from_)⟩:far) (⟨1,fun _=>(⟨(w64 ((tg 80 (zaB.get ((w64 (kv4 - (1:Int))).toNat)) (0+y4.to.toNat * 2+0))+y4.length)),(0:Int)⟩:far)⟩:(Sl far))).uses])) rfl znz) hs hk)⟩)⟩)⟩)⟩)⟩)⟩)⟩))
 (fun hs hk=>(hX4 kv4 zaB (fun i=>zae (zaB.get i)) rfl hs hk)) hs hk))
 (fun hs hk=>(hX4 kv4 zaB (fun i=>zae (zaB.get i)) rfl hs hk)) hs hk))
 (fun hs hk=>(hX4 kv4 zaB (fun i=>zae (zaB.get i)) rfl hs hk)) hs hk)⟩)⟩)⟩)
  exact key _ kv4 zaB zcI ziA hs hk
def znO (w:web) (node:Int) (uses:Int) (S3:Int→(Sl Tab)→(Sl Tab)) (kv3:Int) (zb7:(Sl Tab)):(Sl Tab) :=
  (cond (decide (kv3 ≤ uses))
 (zum S3 w node uses kv3 zb7)
 zb7)
def znP (w:web) (node:Int) (uses:Int) (P3:Int→(Sl Tab)→Bool) (kv3:Int) (zb7:(Sl Tab)):Bool :=
  (cond (decide (kv3 ≤ uses))
 (znN P3 w node uses kv3 zb7)
 true)
def zhY (w : web) (node : Int) (uses : Int) : Nat → Int → (Sl Tab) → (Sl Tab)
  | 0=>fun _ _=>default
  | k+1=>znO w node uses (zhY w node uses k)
def zhZ (w : web) (node : Int) (uses : Int) : Nat → Int → (Sl Tab) → Bool
  | 0=>fun _ _=>false
  | k+1=>znP w node uses (zhZ w node uses k)
def zun (w:web) (node:Int) (uses:Int) (kv3:Int) (zb7:(Sl Tab)):(Sl Tab):=zhY w node uses Fuel kv3 zb7
def zuo (w:web) (node:Int) (uses:Int) (kv3:Int) (zb7:(Sl Tab)):Bool:=zhZ w node uses Fuel kv3 zb7
theorem zB6 (K:List PA→Prop) (w:web) (node:Int) (uses:Int) (kv3:Int) (zb7:(Sl Tab)) (zch:Nat→List PV) (ziz:zch=fun i=>zae (zb7.get i)) (hs:zuo w node uses kv3 zb7=true) (hk:K (zkW (zun w node uses kv3 zb7))):zhU K w node uses kv3 zb7.len zch:=by
  refine zvD K w node uses kv3 zb7.len zch ?_
  intro X3 hstep
  have key:∀ (k:Nat) (kv3:Int) (zb7:(Sl Tab)) (zch:Nat→List PV) (ziz:zch=fun i=>zae (zb7.get i)),zhZ w node uses k kv3 zb7=true→K (zkW (zhY w node uses k kv3 zb7))→X3 (zfR w node uses kv3 zb7.len zch):=by
    intro k
    induction k with
    | zero=>intro kv3 zb7 zch ziz hs;exact absurd hs Bool.false_ne_true
    | succ k ih =>
      intro kv3 zb7 zch ziz hs hk
      subst ziz
      refine hstep kv3 zb7 ?_
      have hs:znP w node uses (zhZ w node uses k) kv3 zb7=true:=hs
      have hk:K (zkW (znO w node uses (zhY w node uses k) kv3 zb7)):=hk
      unfold znP at hs
      unfold znO at hk
      generalize zhY w node uses k=S3 at hk ih
      generalize zhZ w node uses k=P3 at hs ih
      have hX3:=ih
      exact (zaZ (K := fun r => K (zkW r))
 (fun hs hk=>⟨⟨isE,rfl⟩,(zB5 K w node uses X3 P3 S3 hX3 kv3 zb7 (fun i=>zae (zb7.get i)) rfl hs hk)⟩)
 (fun hs hk=>hk) hs hk)
  exact key _ kv3 zb7 zch ziz hs hk
def znQ (w:web) (node:Int) (uses:Int) (zc2:(Sl Tab)):(Sl Tab) :=
  (zun w node uses (1:Int) (⟨zc2.len,(setT 0 (ts 80 (zc2.get 0) (0+node.toNat * 2+0) [(0:Int),(0:Int)]) zc2.get)⟩:Sl Tab))
def znR (w:web) (node:Int) (uses:Int) (zc2:(Sl Tab)):Bool :=
  (decide ((0≤(0:Int)∧(0:Int) < (zc2.len:Int))) &&
 (decide ((0≤node∧node < (40:Int))) &&
 (decide ((0 < zc2.len)) &&
 (zuo w node uses (1:Int) (⟨zc2.len,(setT 0 (ts 80 (zc2.get 0) (0+node.toNat * 2+0) [(0:Int),(0:Int)]) zc2.get)⟩:Sl Tab)))))
theorem zB7 (K:List PA→Prop) (w:web) (node:Int) (uses:Int) (zc2:(Sl Tab)) (ziy:Nat→List PV) (zEG:ziy=fun i=>zae (zc2.get i)) (hs:znR w node uses zc2=true) (hk:K (zkW (znQ w node uses zc2))):zjL K w node uses zc2.len ziy:=by
  subst zEG
  refine zbd (zB4 K w node uses zc2) ?_
  unfold znR at hs
  unfold znQ at hk
  exact (za2 hs fun hc hs=>⟨hc,(za2 hs fun hc hs=>⟨hc,(za2 hs fun hc hs=>⟨hc,(zB6 K w node uses (1:Int) (⟨zc2.len,(setT 0 (ts 80 (zc2.get 0) (0+node.toNat * 2+0) [(0:Int),(0:Int)]) zc2.get)⟩:Sl Tab) (zjx 0 0 (fun i=>zae (zc2.get i)) (zae (ts 80 (zc2.get 0) (0+node.toNat * 2+0) [(0:Int),(0:Int)]))) (zmE (enc:=zae) (i:=0) (k:=0) (f:=zc2.get) (new:=(zae (ts 80 (zc2.get 0) (0+node.toNat * 2+0) [(0:Int),(0:Int)]))) (v:=(ts 80 (zc2.get 0) (0+node.toNat * 2+0) [(0:Int),(0:Int)])) rfl znz) hs hk)⟩)⟩)⟩)
def znS (S0:Int→(Sl Tab)→(Sl Tab)) (w:web) (node:Int) (uses:Int) (S1:Int→Int→Int→(Sl Tab)→(Sl Tab)) (iv1:Int) (zbU:Int) (zbO:Int) (zbI:(Sl Tab)):(Sl Tab) :=
  (cond (decide (zbO < (40:Int)))
 (S1 iv1 zbU (w64 (zbO+(1:Int))) (⟨zbI.len,(setT iv1.toNat (ts 80 (zbI.get iv1.toNat) (0+zbO.toNat * 2+0) [(1000000000000:Int),(0:Int)]) zbI.get)⟩:Sl Tab))
 (S0 (w64 (zbU+(1:Int))) zbI))
def znT (P0:Int→(Sl Tab)→Bool) (w:web) (node:Int) (uses:Int) (P1:Int→Int→Int→(Sl Tab)→Bool) (iv1:Int) (zbU:Int) (zbO:Int) (zbI:(Sl Tab)):Bool :=
  (cond (decide (zbO < (40:Int)))
 (decide ((0≤iv1∧iv1 < (zbI.len:Int))) &&
 (decide ((0≤zbO∧zbO < (40:Int))) &&
 (decide ((iv1.toNat < zbI.len)) &&
 (P1 iv1 zbU (w64 (zbO+(1:Int))) (⟨zbI.len,(setT iv1.toNat (ts 80 (zbI.get iv1.toNat) (0+zbO.toNat * 2+0) [(1000000000000:Int),(0:Int)]) zbI.get)⟩:Sl Tab)))))
 (P0 (w64 (zbU+(1:Int))) zbI))
def zh0 (S0 : Int → (Sl Tab) → (Sl Tab)) (w : web) (node : Int) (uses : Int) : Nat → Int → Int → Int → (Sl Tab) → (Sl Tab)
  | 0=>fun _ _ _ _=>default
  | k+1=>znS S0 w node uses (zh0 S0 w node uses k)
def zh1 (P0 : Int → (Sl Tab) → Bool) (w : web) (node : Int) (uses : Int) : Nat → Int → Int → Int → (Sl Tab) → Bool
  | 0=>fun _ _ _ _=>false
  | k+1=>znT P0 w node uses (zh1 P0 w node uses k)
def zup (S0:Int→(Sl Tab)→(Sl Tab)) (w:web) (node:Int) (uses:Int) (iv1:Int) (zbU:Int) (zbO:Int) (zbI:(Sl Tab)):(Sl Tab):=zh0 S0 w node uses Fuel iv1 zbU zbO zbI
def zuq (P0:Int→(Sl Tab)→Bool) (w:web) (node:Int) (uses:Int) (iv1:Int) (zbU:Int) (zbO:Int) (zbI:(Sl Tab)):Bool:=zh1 P0 w node uses Fuel iv1 zbU zbO zbI
theorem zB8 (K : List PA → Prop) (w : web) (node : Int) (uses : Int)
  (X0:St→Prop) (P0:Int→(Sl Tab)→Bool) (S0:Int→(Sl Tab)→(Sl Tab))
  (hX0:∀ (zb0:Int) (zb3:(Sl Tab)) (zcg:Nat→List PV) (ziB:zcg=fun i=>zae (zb3.get i)),P0 zb0 zb3=true→K (zkW (S0 zb0 zb3))→X0 (zfO w node uses zb0 zb3.len zcg)) (iv1:Int) (zbU:Int) (zbO:Int) (zbI:(Sl Tab)) (zcH:Nat→List PV) (zkX:zcH=fun i=>zae (zbI.get i)) (hs:zuq P0 w node uses iv1 zbU zbO zbI=true) (hk:K (zkW (zup S0 w node uses iv1 zbU zbO zbI))):zhT K X0 w node uses iv1 zbU zbO zbI.len zcH:=by
  refine zvC K X0 w node uses iv1 zbU zbO zbI.len zcH ?_
  intro X1 hstep
  have key:∀ (k:Nat) (iv1:Int) (zbU:Int) (zbO:Int) (zbI:(Sl Tab)) (zcH:Nat→List PV) (zkX:zcH=fun i=>zae (zbI.get i)),zh1 P0 w node uses k iv1 zbU zbO zbI=true→K (zkW (zh0 S0 w node uses k iv1 zbU zbO zbI))→X1 (zhb w node uses iv1 zbU zbO zbI.len zcH):=by
    intro k
    induction k with
    | zero=>intro iv1 zbU zbO zbI zcH zkX hs;exact absurd hs Bool.false_ne_true
    | succ k ih =>
      intro iv1 zbU zbO zbI zcH zkX hs hk
      subst zkX
      refine hstep iv1 zbU zbO zbI ?_
      have hs:znT P0 w node uses (zh1 P0 w node uses k) iv1 zbU zbO zbI=true:=hs
      have hk:K (zkW (znS S0 w node uses (zh0 S0 w node uses k) iv1 zbU zbO zbI)):=hk
      unfold znT at hs
      unfold znS at hk
      generalize zh0 S0 w node uses k=S1 at hk ih
      generalize zh1 P0 w node uses k=P1 at hs ih
      have hX1:=ih
      exact (zaZ (K := fun r => K (zkW r))
 (fun hs hk=>(za2 hs fun hc hs=>⟨hc,(za2 hs fun hc hs=>⟨hc,(za2 hs fun hc hs=>⟨hc,(hX1 iv1 zbU (w64 (zbO+(1:Int))) (⟨zbI.len,(setT iv1.toNat (ts 80 (zbI.get iv1.toNat) (0+zbO.toNat * 2+0) [(1000000000000:Int),(0:Int)]) zbI.get)⟩:Sl Tab) (zjx iv1.toNat 0 (fun i=>zae (zbI.get i)) (zae (ts 80 (zbI.get iv1.toNat) (0+zbO.toNat * 2+0) [(1000000000000:Int),(0:Int)]))) (zmE (enc:=zae) (i:=iv1.toNat) (k:=0) (f:=zbI.get) (new:=(zae (ts 80 (zbI.get iv1.toNat) (0+zbO.toNat * 2+0) [(1000000000000:Int),(0:Int)]))) (v:=(ts 80 (zbI.get iv1.toNat) (0+zbO.toNat * 2+0) [(1000000000000:Int),(0:Int)])) rfl znz) hs hk)⟩)⟩)⟩))
 (fun hs hk=>(hX0 (w64 (zbU+(1:Int))) zbI (fun i=>zae (zbI.get i)) rfl hs hk)) hs hk)
  exact key _ iv1 zbU zbO zbI zcH zkX hs hk
def znU (w:web) (node:Int) (uses:Int) (S0:Int→(Sl Tab)→(Sl Tab)) (zb0:Int) (zb3:(Sl Tab)):(Sl Tab) :=
  (cond (decide (zb0 < ((w64 (uses + (1:Int))).toNat : Int)))
 (zup S0 w node uses zb0 zb0 (0:Int) zb3)
 (znQ w node uses zb3))
def znV (w:web) (node:Int) (uses:Int) (P0:Int→(Sl Tab)→Bool) (zb0:Int) (zb3:(Sl Tab)):Bool :=
  (cond (decide (zb0 < ((w64 (uses + (1:Int))).toNat : Int)))
 (zuq P0 w node uses zb0 zb0 (0:Int) zb3)
 (znR w node uses zb3))
def zh2 (w : web) (node : Int) (uses : Int) : Nat → Int → (Sl Tab) → (Sl Tab)
  | 0=>fun _ _=>default
  | k+1=>znU w node uses (zh2 w node uses k)
def zh3 (w : web) (node : Int) (uses : Int) : Nat → Int → (Sl Tab) → Bool
  | 0=>fun _ _=>false
  | k+1=>znV w node uses (zh3 w node uses k)
def zur (w:web) (node:Int) (uses:Int) (zb0:Int) (zb3:(Sl Tab)):(Sl Tab):=zh2 w node uses Fuel zb0 zb3
def zus (w:web) (node:Int) (uses:Int) (zb0:Int) (zb3:(Sl Tab)):Bool:=zh3 w node uses Fuel zb0 zb3
theorem zB9 (K:List PA→Prop) (w:web) (node:Int) (uses:Int) (zb0:Int) (zb3:(Sl Tab)) (zcg:Nat→List PV) (ziB:zcg=fun i=>zae (zb3.get i)) (hs:zus w node uses zb0 zb3=true) (hk:K (zkW (zur w node uses zb0 zb3))):zhS K w node uses zb0 zb3.len zcg:=by
  refine zvB K w node uses zb0 zb3.len zcg ?_
  intro X0 hstep
  have key:∀ (k:Nat) (zb0:Int) (zb3:(Sl Tab)) (zcg:Nat→List PV) (ziB:zcg=fun i=>zae (zb3.get i)),zh3 w node uses k zb0 zb3=true→K (zkW (zh2 w node uses k zb0 zb3))→X0 (zfO w node uses zb0 zb3.len zcg):=by
    intro k
    induction k with
    | zero=>intro zb0 zb3 zcg ziB hs;exact absurd hs Bool.false_ne_true
    | succ k ih =>
      intro zb0 zb3 zcg ziB hs hk
      subst ziB
      refine hstep zb0 zb3 ?_
      have hs:znV w node uses (zh3 w node uses k) zb0 zb3=true:=hs
      have hk:K (zkW (znU w node uses (zh2 w node uses k) zb0 zb3)):=hk
      unfold znV at hs
      unfold znU at hk
      generalize zh2 w node uses k=S0 at hk ih
      generalize zh3 w node uses k=P0 at hs ih
      have hX0:=ih
      exact (zaZ (K := fun r => K (zkW r))
 (fun hs hk=>(zB8 K w node uses X0 P0 S0 hX0 zb0 zb0 (0:Int) zb3 (fun i=>zae (zb3.get i)) rfl hs hk))
 (fun hs hk=>(zB7 K w node uses zb3 (fun i=>zae (zb3.get i)) rfl hs hk)) hs hk)
  exact key _ zb0 zb3 zcg ziB hs hk
def zxO (w:web) (node:Int) (uses:Int):(Sl Tab) :=
  (zur w node uses (0:Int) (⟨(w64 (uses+(1:Int))).toNat,(fun _=>(fun _=>(0:Int)))⟩:Sl Tab))
def zIM (w:web) (node:Int) (uses:Int):Bool :=
  (decide ((0≤(w64 (uses+(1:Int)))∧(w64 (uses+(1:Int)))=(w64 (uses+(1:Int)))∧(w64 (uses+(1:Int)))≤1000000)) &&
 (zus w node uses (0:Int) (⟨(w64 (uses+(1:Int))).toNat,(fun _=>(fun _=>(0:Int)))⟩:Sl Tab)))
theorem zMU (w:web) (node:Int) (uses:Int) (K:List PA→Prop) (hs:zIM w node uses=true) (hk:K (zkW (zxO w node uses))):vcFun Tryd.prog zfy zbf 106 [.one (.fp (zaD w) 0),.one (.int .i64 node),.one (.int .i64 uses)] K:=by
  refine zbd (zB3 w node uses K) ?_
  unfold zIM at hs
  unfold zxO at hk
  exact (za2 hs fun hc hs=>⟨hc,(zB9 K w node uses (0:Int) (⟨(w64 (uses+(1:Int))).toNat,(fun _=>(fun _=>(0:Int)))⟩:Sl Tab) (fun _=>(zae (fun _=>(0:Int)))) rfl hs hk)⟩)
def zxP : List PA → COut
  | [.one (.fp [.int .i64 zau,.sl zan zaP zao,.fm zbK zaR zaS] 0),.one (.int .i64 a1),.one (.int .i64 a2)]=>.det (IsE enc_40 4 zaP zao∧zbK=(false,1,false,[none])∧zIM (⟨(⟨zau,(⟨zan,zal zao⟩:(Sl Tie))⟩:Net),(⟨zaR,zaS⟩:Mp)⟩:web) a1 a2=true) [.one (.sl ((zxO (⟨(⟨zau,(⟨zan,zal zao⟩:(Sl Tie))⟩:Net),(⟨zaR,zaS⟩:Mp)⟩:web) a1 a2).len) 80 (fun i=>zae ((zxO (⟨(⟨zau,(⟨zan,zal zao⟩:(Sl Tie))⟩:Net),(⟨zaR,zaS⟩:Mp)⟩:web) a1 a2).get i)))]
  | _=>.no
theorem zEH:zaw Tryd.prog 106:=⟨_,rfl,rfl,by kernel_rfl⟩
theorem zLe:Ok Tryd.prog 106 zxP:=zbF zIL zEH fun args K h=>by
  unfold zxP at h
  split at h
  · rename_i zau zan zaP zao zbK zaR zaS a1 a2
    obtain ⟨⟨⟨rfl,zaC,rfl⟩,rfl,hs⟩,hk⟩:=h
    try rw [zam zaC] at hs
    try rw [zam zaC] at hk
    exact ⟨(fun _ _=>[]),(fun _=>false),zbf,zMU (⟨(⟨zau,(⟨zan,zaC⟩:(Sl Tie))⟩:Net),(⟨zaR,zaS⟩:Mp)⟩:web) a1 a2 K hs hk⟩
  · exact h.elim
abbrev zMt:Tabs:=Tabs.nil
theorem zIN:TabsOk Tryd.prog zMt:=TabsOk.nil
abbrev zMu:Ctrs:=csm zMt (fun _ _=>[]) (fun _=>false)
def zxQ:Ann:=⟨18,[(0,zK [0] []),(1,zK [0,3] []),(2,zK [3,6,7,8] []),(3,zK [3,6,7,8,9] []),(4,zK [3,5,6,7,8] []),(5,zK [3,5,6,7,8,14] []),(6,zK [2] []),(7,zK [3,6,7,8] []),(8,zK [2] [])],
 [(3,zK [3,6,7,8] [])],
 [],
 [],[]⟩
abbrev zMV:=Int
abbrev zLf (r:zMV):List PA:=[.one (.int .i64 r)]
@[irreducible] def z100:=ptF Tryd.prog zMu zxQ Tryd.f100
def zxR (vals:(Sl Int)) (zdJ:Int):St:=⟨[(3,zI (0:Int)),(6,zS enc_3 1 vals),(7,zI (vals.len:Int)),(8,zI zdJ)],[],[]⟩
abbrev zC6 (K:List PA→Prop) (vals:(Sl Int)) (X:St→Prop) (P:Int→Bool) (S:Int→Int):Prop:=∀ ⦃zdJ:Int⦄,P zdJ=true→K (zLf (S zdJ))→X (zxR vals zdJ)
section
variable {K:List PA→Prop} {vals:(Sl Int)} {zdJ:Int} {X0:St→Prop} {P0:Int→Bool} {S0:Int→Int}
def zut (vals:(Sl Int)) (S0:Int→Int) (zdJ:Int):Int :=
  (cond (decide (zdJ < (vals.len : Int)))
 (cond ((vals.get zdJ.toNat) != (0:Int))
 (vals.get zdJ.toNat)
 (S0 (w64 (zdJ+(1:Int)))))
 (0:Int))
def zuu (vals:(Sl Int)) (P0:Int→Bool) (zdJ:Int):Bool :=
  (cond (decide (zdJ < (vals.len : Int)))
 (decide ((0≤zdJ∧zdJ < (vals.len:Int))) &&
 (cond ((vals.get zdJ.toNat) != (0:Int))
 true
 (P0 (w64 (zdJ+(1:Int))))))
 true)
def zuv (vals:(Sl Int)):Nat→Int→Int:=lpO (fun _=>default) (zut vals)
def zuw (vals:(Sl Int)):Nat→Int→Bool:=lpO (fun _=>false) (zuu vals)
def zux (vals:(Sl Int)) (zdJ:Int):Int:=zuv vals Fuel zdJ
def zuy (vals:(Sl Int)) (zdJ:Int):Bool:=zuw vals Fuel zdJ
theorem zCa (hs:zuy vals zdJ=true) (hk:K (zLf (zux vals zdJ))):z100 K [1,1,0,1,0] [] (zxR vals zdJ) :=
  zl (fun X=>z100 K [1,1,0,1,0,0] [X]) (by kernel_rfl) fun X0 hX =>
  (show ∀ k, zC6 K vals X0 (zuw vals k) (zuv vals k) from zjH _ _ (zuu vals) (zut vals) (zC6 K vals X0)
 (by intro _ hs;exact absurd hs Bool.false_ne_true)
 (by intro P0 S0 hX0 zdJ hs hk;exact hX _ (zbd (by kernel_rfl) (zc hs hk (fun hs hk=>(za2 hs fun hc hs=>And.intro hc (zc hs hk (fun hs hk=>hk) (fun hs hk=>(hX0 hs hk))))) (fun hs hk=>hk))))) _ hs hk
def zLg (vals:(Sl Int)):Int :=
  (zux vals (0:Int))
def zLh (vals:(Sl Int)):Bool :=
  (zuy vals (0:Int))
end
theorem zMW (vals:(Sl Int)) (K:List PA→Prop) (hs:zLh vals=true) (hk:K (zLf (zLg vals))):vcFun Tryd.prog zMu zxQ 100 [.one (.sl vals.len 1 (fun i=>enc_3 (vals.get i)))] K :=
  zbd (by kernel_rfl) (zCa hs hk)
def zxS : List PA → COut
  | [.one (.sl zfU zmL zfV)]=>.det (IsE enc_3 1 zmL zfV∧zLh (⟨zfU,zar zfV⟩:(Sl Int))=true) [.one (.int .i64 (zLg (⟨zfU,zar zfV⟩:(Sl Int))))]
  | _=>.no
theorem zEI:zaw Tryd.prog 100:=⟨_,rfl,rfl,by kernel_rfl⟩
theorem zLi:Ok Tryd.prog 100 zxS:=zbF zIN zEI fun args K h=>by
  unfold zxS at h
  split at h
  · rename_i zfU zmL zfV
    obtain ⟨⟨⟨rfl,ziC,rfl⟩,hs⟩,hk⟩:=h
    try rw [zbm ziC] at hs
    try rw [zbm ziC] at hk
    exact ⟨(fun _ _=>[]),(fun _=>false),zxQ,zMW (⟨zfU,ziC⟩:(Sl Int)) K hs hk⟩
  · exact h.elim
abbrev zMv:Tabs:=Tabs.nil
theorem zIO:TabsOk Tryd.prog zMv:=TabsOk.nil
abbrev zMX:Ctrs:=csm zMv (fun _ _=>[]) (fun _=>false)
def zC7:Ann:=⟨6,[(0,zK [0] []),(1,zK [2] [])],
 [],
 [],
 [],[]⟩
abbrev zMY:=Bool
abbrev zMZ (r:zMY):List PA:=[.one (.bool r)]
section
variable {K:List PA→Prop} {x:Int}
def zIP (x:Int):Bool :=
  (x != x)
end
theorem zM0 (x:Int) (K:List PA→Prop) (hk:K (zMZ (zIP x))):vcFun Tryd.prog zMX zC7 114 [.one (.int .i64 x)] K :=
  zbd (by kernel_rfl) hk
def zxT : List PA → COut
  | [.one (.int .i64 a0)]=>.tot [.one (.bool (zIP a0))]
  | _=>.no
theorem zEJ:zaw Tryd.prog 114:=⟨_,rfl,rfl,by kernel_rfl⟩
theorem zLj:Ok Tryd.prog 114 zxT:=zbF zIO zEJ fun args K h=>by
  unfold zxT at h
  split at h
  · rename_i a0
    have hk:=h
    exact ⟨(fun _ _=>[]),(fun _=>false),zC7,zM0 a0 K hk⟩
  · exact h.elim
abbrev zMw:Tabs:=(Tabs.nil.addF 114 zxT)
theorem zIQ:TabsOk Tryd.prog zMw:=(TabsOk.nil.addF zLj)
abbrev zM1:Ctrs:=csm zMw (fun _ _=>[]) (fun _=>false)
def zC8:Ann:=⟨20,[(0,zK [0,1] []),(1,zK [0,1,5] []),(2,zK [0,1,5,6] []),(3,zK [0,1,6,11] []),(4,zK [12] []),(5,zK [4] []),(6,zK [4] []),(7,zK [0,1,13] []),(8,zK [4] []),(9,zK [0,1,16] []),(10,zK [4] []),(11,zK [19] []),(12,zK [4] []),(13,zK [4] [])],
 [],
 [],
 [],[]⟩
abbrev zM2:=Int
abbrev zM3 (r:zM2):List PA:=[.one (.int .i64 r)]
section
variable {K:List PA→Prop} {x:Int} {y_a1:Int}
def zAW (x:Int) (y_a1:Int):Int :=
  (cond (zIP x)
 (cond (zIP y_a1)
 (0:Int)
 (-1:Int))
 (cond (zIP y_a1)
 (1:Int)
 (cond (decide (x < y_a1))
 (-1:Int)
 (cond (decide (x > y_a1))
 (1:Int)
 (0:Int)))))
end
theorem zM4 (x:Int) (y_a1:Int) (K:List PA→Prop) (hk:K (zM3 (zAW x y_a1))):vcFun Tryd.prog zM1 zC8 101 [.one (.int .i64 x),.one (.int .i64 y_a1)] K :=
  zbd (by kernel_rfl) (zt hk (fun hk=>(zt hk (fun hk=>hk) (fun hk=>hk))) (fun hk=>(zt hk (fun hk=>hk) (fun hk=>(zt hk (fun hk=>hk) (fun hk=>(zt hk (fun hk=>hk) (fun hk=>hk))))))))
def zuz : List PA → COut
  | [.one (.int .i64 a0),.one (.int .i64 a1)]=>.tot [.one (.int .i64 (zAW a0 a1))]
  | _=>.no
theorem zEK:zaw Tryd.prog 101:=⟨_,rfl,rfl,by kernel_rfl⟩
theorem zIR:Ok Tryd.prog 101 zuz:=zbF zIQ zEK fun args K h=>by
  unfold zuz at h
  split at h
  · rename_i a0 a1
    have hk:=h
    exact ⟨(fun _ _=>[]),(fun _=>false),zC8,zM4 a0 a1 K hk⟩
  · exact h.elim
abbrev zMx:Tabs:=Tabs.nil
theorem zIS:TabsOk Tryd.prog zMx:=TabsOk.nil
abbrev zM5:Ctrs:=csm zMx (fun _ _=>[]) (fun _=>false)
def zC9:Ann:=⟨6,[(0,zK [1] [1]),(1,zK [5] []),(2,zK [2] []),(3,zK [2] [])],
 [],
 [],
 [],[]⟩
abbrev zM6:=Int
abbrev e118 (r:zM6):List PA:=[.one (.int .i64 r)]
section
variable {K:List PA→Prop} {s:step}
def zDa (s:step):Int :=
  (cond s.Use.Back
 (1:Int)
 (0:Int))
end
theorem zM7 (s:step) (K:List PA→Prop) (hk:K (e118 (zDa s))):vcFun Tryd.prog zM5 zC9 118 [.agg (zaf s)] K :=
  zbd (by kernel_rfl) (zt hk (fun hk=>hk) (fun hk=>hk))
def zxU : List PA → COut
  | [.agg [.int .i64 zc6,.bool zcS,.int .i64 zez,.int .i64 zpz,.int .i64 zcC]]=>.tot [.one (.int .i64 (zDa (⟨(⟨zc6,zcS⟩:Use),zez,zpz,zcC⟩:step)))]
  | _=>.no
theorem zEL:zaw Tryd.prog 118:=⟨_,rfl,rfl,by kernel_rfl⟩
theorem zLk:Ok Tryd.prog 118 zxU:=zbF zIS zEL fun args K h=>by
  unfold zxU at h
  split at h
  · rename_i zc6 zcS zez zpz zcC
    have hk:=h
    exact ⟨(fun _ _=>[]),(fun _=>false),zC9,zM7 (⟨(⟨zc6,zcS⟩:Use),zez,zpz,zcC⟩:step) K hk⟩
  · exact h.elim
abbrev zMy:Tabs:=(((Tabs.nil.addF 100 zxS).addF 101 zuz).addF 118 zxU)
theorem zIT:TabsOk Tryd.prog zMy:=(((TabsOk.nil.addF zLi).addF zIR).addF zLk)
abbrev zM8:Ctrs:=csm zMy (fun _ _=>[]) (fun _=>false)
def zDb:Ann:=⟨22,[(0,zK [2,3] [2,3]),(1,zK [2,3,5] [2,3]),(2,zK [4] [])],
 [],
 [],
 [],[]⟩
abbrev zM9:=Int
abbrev e108 (r:zM9):List PA:=[.one (.int .i64 r)]
section
variable {K:List PA→Prop} {a:step} {b:step}
def zKE (a:step) (b:step):Int :=
  (zLg (⟨2,zar (zbw [(enc_3 (zAW a.Use.Tie b.Use.Tie)),(enc_3 (zAW (zDa a) (zDa b)))])⟩:(Sl Int)))
def zLl (a:step) (b:step):Bool :=
  (decide ((zLh (⟨2,zar (zbw [(enc_3 (zAW a.Use.Tie b.Use.Tie)),(enc_3 (zAW (zDa a) (zDa b)))])⟩:(Sl Int))=true)) &&
 true)
end
theorem zNa (a:step) (b:step) (K:List PA→Prop) (hs:zLl a b=true) (hk:K (e108 (zKE a b))):vcFun Tryd.prog zM8 zDb 108 [.agg (zaf a),.agg (zaf b)] K :=
  zbd (by kernel_rfl) (za2 hs fun hc hs=>And.intro (And.intro ((zdo []):IsE enc_3 1 1 (zbw [(enc_3 (zAW a.Use.Tie b.Use.Tie)),(enc_3 (zAW (zDa a) (zDa b)))])) hc) hk)
def zxV : List PA → COut
  | [.agg [.int .i64 zc6,.bool zcS,.int .i64 zez,.int .i64 zpz,.int .i64 zcC],.agg [.int .i64 zgx,.bool zfg,.int .i64 zjM,.int .i64 zCb,.int .i64 zce]]=>.det (zLl (⟨(⟨zc6,zcS⟩:Use),zez,zpz,zcC⟩:step) (⟨(⟨zgx,zfg⟩:Use),zjM,zCb,zce⟩:step)=true) [.one (.int .i64 (zKE (⟨(⟨zc6,zcS⟩:Use),zez,zpz,zcC⟩:step) (⟨(⟨zgx,zfg⟩:Use),zjM,zCb,zce⟩:step)))]
  | _=>.no
theorem zEM:zaw Tryd.prog 108:=⟨_,rfl,rfl,by kernel_rfl⟩
theorem zLm:Ok Tryd.prog 108 zxV:=zbF zIT zEM fun args K h=>by
  unfold zxV at h
  split at h
  · rename_i zc6 zcS zez zpz zcC zgx zfg zjM zCb zce
    obtain ⟨hs,hk⟩:=h
    exact ⟨(fun _ _=>[]),(fun _=>false),zDb,zNa (⟨(⟨zc6,zcS⟩:Use),zez,zpz,zcC⟩:step) (⟨(⟨zgx,zfg⟩:Use),zjM,zCb,zce⟩:step) K hs hk⟩
  · exact h.elim
abbrev zMz:Tabs:=(Tabs.nil.addF 108 zxV)
theorem zIU:TabsOk Tryd.prog zMz:=(TabsOk.nil.addF zLm)
abbrev zMA:Ctrs:=csm zMz (fun _ _=>[]) (fun _=>false)
def zxW:Ann:=⟨39,[(0,zK [0,1,2] []),(1,zK [0,1,2,11,12,13] []),(2,zK [0,1,2,11,12,13,14] []),(3,zK [0,1,2,7,8,11,12,13] [8]),(4,zK [0,1,2,7,8,11,12,13,21] [8]),(5,zK [6] []),(6,zK [0,1,2,8,9,11,12,13] [8,9]),(7,zK [0,1,2,10,11,12,13] []),(8,zK [0,1,2,10,11,12,13,31] []),(9,zK [6] []),(10,zK [0,1,2,11,12,13] []),(11,zK [38] []),(12,zK [6] []),(13,zK [6] [])],
 [(2,zK [0,1,2,11,12,13] [])],
 [(6,zK [0,1,2,7,8,11,12,13] [8]),(8,zK [0,1,2,10,11,12,13] [])],
 [],[]⟩
abbrev zNb:=Int
abbrev zIV (r:zNb):List PA:=[.one (.int .i64 r)]
@[irreducible] def z107:=ptF Tryd.prog zMA zxW Tryd.f107
def zxX (zeH:(Sl step)) (zee:(Sl step)) (za1:(Sl step)) (zbr:Int) (zcf:Int) (zdt:Nat→List PV) (zdu:Nat→List PV) (zfW:Nat→List PV):St:=⟨[(0,zP (.sl zeH.len 5 zdt)),(1,zP (.sl zee.len 5 zdu)),(2,zP (.fn 108 [] [])),(11,zP (.sl za1.len 5 zfW)),(12,zI zbr),(13,zI zcf)],[],[]⟩
abbrev zuA (K:List PA→Prop) (X:St→Prop) (P:(Sl step)→(Sl step)→(Sl step)→Int→Int→Bool) (S:(Sl step)→(Sl step)→(Sl step)→Int→Int→Int):Prop:=∀ ⦃zeH:(Sl step)⦄ ⦃zee:(Sl step)⦄ ⦃za1:(Sl step)⦄ ⦃zbr:Int⦄ ⦃zcf:Int⦄ ⦃zdt:Nat→List PV⦄ ⦃zdu:Nat→List PV⦄ ⦃zfW:Nat→List PV⦄,P zeH zee za1 zbr zcf=true→K (zIV (S zeH zee za1 zbr zcf))→zdt=zg zaf zeH→zdu=zg zaf zee→zfW=zg zaf za1→X (zxX zeH zee za1 zbr zcf zdt zdu zfW)
section
variable {K:List PA→Prop} {s1_a0:(Sl step)} {s2_a1:(Sl step)} {zeH:(Sl step)} {zee:(Sl step)} {za1:(Sl step)} {zbr:Int} {zcf:Int} {zdt:Nat→List PV} {zdu:Nat→List PV} {zfW:Nat→List PV} {X0:St→Prop} {P0:(Sl step)→(Sl step)→(Sl step)→Int→Int→Bool} {S0:(Sl step)→(Sl step)→(Sl step)→Int→Int→Int} {zpA:(Sl step)} {zjN:(Sl step)} {iv1:Int} {zcY:(Sl step)} {zbe:Int} {zra:Int} {zji:Int} {zjj:Bool} {zjk:Int} {zjl:Int} {zjm:Int} {zpB:Nat→List PV} {zpC:Nat→List PV} {zxY:Nat→List PV} {zpD:(Sl step)} {zpE:(Sl step)} {cv2:Int} {zrb:Int} {zpF:Nat→List PV} {zpG:Nat→List PV}
def zuB (S0:(Sl step)→(Sl step)→(Sl step)→Int→Int→Int) (zcY:(Sl step)) (zbe:Int) (zpD:(Sl step)) (zpE:(Sl step)) (cv2:Int) (zrb:Int):Int :=
  (cond (cv2 != (0:Int))
 cv2
 (S0 zpD zpE zcY zbe (w64 (zrb+(1:Int)))))
def zuC (P0:(Sl step)→(Sl step)→(Sl step)→Int→Int→Bool) (zcY:(Sl step)) (zbe:Int) (zpD:(Sl step)) (zpE:(Sl step)) (cv2:Int) (zrb:Int):Bool :=
  (cond (cv2 != (0:Int))
 true
 (P0 zpD zpE zcY zbe (w64 (zrb+(1:Int)))))
theorem zCc (hX0:zuA K X0 P0 S0) (hs:zuC P0 zcY zbe zpD zpE cv2 zrb=true) (hk:K (zIV (zuB S0 zcY zbe zpD zpE cv2 zrb))) (zxZ:zpF=zg zaf zpD) (zx0:zpG=zg zaf zpE):z107 K [1,0,1,0,0,1,1,0,0,1,1,1,1] [X0] ⟨[(0,zP (.sl zpD.len 5 zpF)),(1,zP (.sl zpE.len 5 zpG)),(2,zP (.fn 108 [] [])),(10,zI cv2),(11,zS zaf 5 zcY),(12,zI zbe),(13,zI zrb)],[],[]⟩:=by subst zxZ;subst zx0;exact zbd (by kernel_rfl) (zc hs hk (fun hs hk=>hk) (fun hs hk=>(hX0 hs hk rfl rfl rfl)))
def zuD (S0:(Sl step)→(Sl step)→(Sl step)→Int→Int→Int) (zpA:(Sl step)) (zjN:(Sl step)) (iv1:Int) (zcY:(Sl step)) (zbe:Int) (zra:Int) (zji:Int) (zjj:Bool) (zjk:Int) (zjl:Int) (zjm:Int):Int :=
  (zuB S0 zcY zbe zpA zjN (zKE (⟨(⟨zji,zjj⟩:Use),zjk,zjl,zjm⟩:step) (zjN.get iv1.toNat)) zra)
def zuE (P0:(Sl step)→(Sl step)→(Sl step)→Int→Int→Bool) (zpA:(Sl step)) (zjN:(Sl step)) (iv1:Int) (zcY:(Sl step)) (zbe:Int) (zra:Int) (zji:Int) (zjj:Bool) (zjk:Int) (zjl:Int) (zjm:Int):Bool :=
  (decide ((0≤iv1∧iv1 < (zjN.len:Int))) &&
 (decide ((zLl (⟨(⟨zji,zjj⟩:Use),zjk,zjl,zjm⟩:step) (zjN.get iv1.toNat)=true)) &&
 (zuC P0 zcY zbe zpA zjN (zKE (⟨(⟨zji,zjj⟩:Use),zjk,zjl,zjm⟩:step) (zjN.get iv1.toNat)) zra)))
theorem zCd (hX0:zuA K X0 P0 S0) (hs:zuE P0 zpA zjN iv1 zcY zbe zra zji zjj zjk zjl zjm=true) (hk:K (zIV (zuD S0 zpA zjN iv1 zcY zbe zra zji zjj zjk zjl zjm))) (zx1:zpB=zg zaf zpA) (zx2:zpC=zg zaf zjN) (zEN:zxY=zg zaf zcY):z107 K [1,0,1,0,0,1,1,0,0,1,1] [X0] ⟨[(0,zP (.sl zpA.len 5 zpB)),(1,zP (.sl zjN.len 5 zpC)),(2,zP (.fn 108 [] [])),(7,zI iv1),(8,zp 8 0),(11,zP (.sl zcY.len 5 zxY)),(12,zI zbe),(13,zI zra)],[(8,.box 130 (zm (zaf (⟨(⟨zji,zjj⟩:Use),zjk,zjl,zjm⟩:step))))],[]⟩:=by subst zx1;subst zx2;subst zEN;exact zbd (by kernel_rfl) (za2 hs fun hc hs=>And.intro hc (za2 hs fun hc hs=>And.intro hc (zCc hX0 hs hk rfl rfl)))
def zuF (S0:(Sl step)→(Sl step)→(Sl step)→Int→Int→Int) (zeH:(Sl step)) (zee:(Sl step)) (za1:(Sl step)) (zbr:Int) (zcf:Int):Int :=
  (cond (decide (zcf < zbr))
 (cond (decide (zcf ≥ (zee.len : Int)))
 (1:Int)
 (zuD S0 zeH zee zcf za1 zbr zcf ((za1.get zcf.toNat).Use.Tie) ((za1.get zcf.toNat).Use.Back) ((za1.get zcf.toNat).from_) ((za1.get zcf.toNat).to) ((za1.get zcf.toNat).length)))
 (cond (decide ((zeH.len : Int) < (zee.len : Int)))
 (-1:Int)
 (0:Int)))
def zuG (P0:(Sl step)→(Sl step)→(Sl step)→Int→Int→Bool) (zeH:(Sl step)) (zee:(Sl step)) (za1:(Sl step)) (zbr:Int) (zcf:Int):Bool :=
  (cond (decide (zcf < zbr))
 (decide ((0≤zcf∧zcf < (za1.len:Int))) &&
 (cond (decide (zcf ≥ (zee.len : Int)))
 true
 (zuE P0 zeH zee zcf za1 zbr zcf ((za1.get zcf.toNat).Use.Tie) ((za1.get zcf.toNat).Use.Back) ((za1.get zcf.toNat).from_) ((za1.get zcf.toNat).to) ((za1.get zcf.toNat).length))))
 true)
def zuH:Nat→(Sl step)→(Sl step)→(Sl step)→Int→Int→Int:=lpO (fun _ _ _ _ _=>default) (zuF)
def zuI:Nat→(Sl step)→(Sl step)→(Sl step)→Int→Int→Bool:=lpO (fun _ _ _ _ _=>false) (zuG)
def zuJ (zeH:(Sl step)) (zee:(Sl step)) (za1:(Sl step)) (zbr:Int) (zcf:Int):Int:=zuH Fuel zeH zee za1 zbr zcf
def zuK (zeH:(Sl step)) (zee:(Sl step)) (za1:(Sl step)) (zbr:Int) (zcf:Int):Bool:=zuI Fuel zeH zee za1 zbr zcf
theorem zCe (hs:zuK zeH zee za1 zbr zcf=true) (hk:K (zIV (zuJ zeH zee za1 zbr zcf))) (zkY:zdt=zg zaf zeH) (zkZ:zdu=zg zaf zee) (zrd:zfW=zg zaf za1):z107 K [1,0,1,0] [] (zxX zeH zee za1 zbr zcf zdt zdu zfW) :=
  zl (fun X=>z107 K [1,0,1,0,0] [X]) (by kernel_rfl) fun X0 hX =>
  (show ∀ k, zuA K X0 (zuI k) (zuH k) from zjH _ _ (zuG) (zuF) (zuA K X0)
 (by intro _ _ _ _ _ _ _ _ hs;exact absurd hs Bool.false_ne_true)
 (by intro P0 S0 hX0 zeH zee za1 zbr zcf zdt zdu zfW hs hk zkY zkZ zrd;subst zkY;subst zkZ;subst zrd;exact hX _ (zbd (by kernel_rfl) (zc hs hk (fun hs hk=>(za2 hs fun hc hs=>And.intro hc (zc hs hk (fun hs hk=>hk) (fun hs hk=>(zCd hX0 hs hk rfl rfl rfl))))) (fun hs hk=>(zt hk (fun hk=>hk) (fun hk=>hk))))))) _ hs hk zkY zkZ zrd
def zHG (s1_a0:(Sl step)) (s2_a1:(Sl step)):Int :=
  (zuJ s1_a0 s2_a1 s1_a0 (s1_a0.len:Int) (0:Int))
def zKF (s1_a0:(Sl step)) (s2_a1:(Sl step)):Bool :=
  (zuK s1_a0 s2_a1 s1_a0 (s1_a0.len:Int) (0:Int))
end
theorem zNc (s1_a0:(Sl step)) (s2_a1:(Sl step)) (K:List PA→Prop) (hs:zKF s1_a0 s2_a1=true) (hk:K (zIV (zHG s1_a0 s2_a1))):vcFun Tryd.prog zMA zxW 107 [.one (.sl s1_a0.len 5 (fun i=>zaf (s1_a0.get i))),.one (.sl s2_a1.len 5 (fun i=>zaf (s2_a1.get i))),.one (.fn 108 [] [])] K :=
  zbd (by kernel_rfl) (zCe hs hk rfl rfl rfl)
def zx3 : List PA → COut
  | [.one (.sl zfU zmL zfV),.one (.sl zd2 ziD zdU),.one (.fn 108 [] [])]=>.det (IsE zaf 5 zmL zfV∧IsE zaf 5 ziD zdU∧zKF (⟨zfU,zhQ zfV⟩:(Sl step)) (⟨zd2,zhQ zdU⟩:(Sl step))=true) [.one (.int .i64 (zHG (⟨zfU,zhQ zfV⟩:(Sl step)) (⟨zd2,zhQ zdU⟩:(Sl step))))]
  | _=>.no
theorem zEO:zaw Tryd.prog 107:=⟨_,rfl,rfl,by kernel_rfl⟩
theorem zLn:Ok Tryd.prog 107 zx3:=zbF zIU zEO fun args K h=>by
  unfold zx3 at h
  split at h
  · rename_i zfU zmL zfV zd2 ziD zdU
    obtain ⟨⟨⟨rfl,ziC,rfl⟩,⟨rfl,zfX,rfl⟩,hs⟩,hk⟩:=h
    try rw [zew ziC] at hs
    try rw [zew ziC] at hk
    try rw [zew zfX] at hs
    try rw [zew zfX] at hk
    exact ⟨(fun _ _=>[]),(fun _=>false),zxW,zNc (⟨zfU,ziC⟩:(Sl step)) (⟨zd2,zfX⟩:(Sl step)) K hs hk⟩
  · exact h.elim
abbrev T89:Tabs:=((((Tabs.nil.addF 93 zpn).addF 106 zxP).addF 107 zx3).addI 110 zpp)
theorem zLo:TabsOk Tryd.prog T89:=((((TabsOk.nil.addF zHF).addF zLe).addF zLn).addI zvA)
abbrev G89:Ctrs:=csm T89 (fun _ _=>[]) (fun _=>false)
def zaW:Ann:=⟨148,[(0,zK [0] []),(1,zK [0,3] [21]),(2,zK [0,3,23,24] [21]),(3,zK [0,3,23,24,25] [21]),(4,zK [0,3,4,23,24] [21]),(5,zK [0,3,23,24] [21]),(6,zK [0,3,23,24] [21]),(7,zK [0,3] [21]),(8,zK [0,3,5] [21]),(9,zK [0,3,5,45] [21]),(10,zK [0,3,5] [21]),(11,zK [0,3,5,48,49,50] [21]),(12,zK [0,3,5,48,49,50,51] [21]),(13,zK [0,3,5,6,7,48,49,50] [21]),(14,zK [0,3,5,48,49,50,62] [21]),(15,zK [0,3,5,48,49,50] [21]),(16,zK [0,3,5,8] [21]),(17,zK [0,5,8,64,65,66] [21]),(18,zK [0,5,8,64,65,66,67] [21]),(19,zK [0,5,8,9,10,64,65,66] [9,10,21]),(20,zK [0,5,8,9,10,64,65,66,78] [9,10,21]),(21,zK [0,5,8,9,10,11,64,65,66] [9,10,11,21]),(22,zK [0,5,8,9,10,11,12,13,64,65,66] [9,10,11,12,13,21]),(23,zK [0,5,8,9,10,11,12,13,14,64,65,66] [9,10,11,12,13,14,21]),(24,zK [0,5,8,9,10,11,12,13,14,64,65,66,83] [9,10,11,12,13,14,21,129]),(25,zK [0,5,8,9,10,11,12,13,14,64,65,66] [9,10,11,12,13,14,21,129]),(26,zK [0,5,8,9,10,11,12,13,14,64,65,66,87] [9,10,11,12,13,14,21,129]),(27,zK [0,5,8,9,10,11,12,13,14,15,64,65,66,87] [9,10,11,12,13,14,15,21,129]),(28,zK [0,5,8,9,10,11,12,13,14,15,64,65,66,87,125] [9,10,11,12,13,14,15,21,129]),(29,zK [0,5,8,9,10,11,12,13,14,15,64,65,66] [9,10,11,12,13,14,15,21,129]),(30,zK [0,5,8,9,10,11,12,13,14,64,65,66] [9,10,11,12,13,14,21,129]),(31,zK [0,5,8,9,10,11,12,13,64,65,66,136] [9,10,11,12,13,21,129]),(32,zK [0,5,8,9,10,11,12,13,14,64,65,66] [9,10,11,12,13,14,21,129]),(33,zK [0,5,8,11,64,65,66,144] [11,21,129]),(34,zK [0,5,8,64,65,66] [21,129]),(35,zK [0,5,8,64,65,66] [21,129]),(36,zK [2] [])],
 [(3,zK [0,3,23,24] [21]),(9,zK [0,3,5] [21]),(12,zK [0,3,5,48,49,50] [21]),(18,⟨[0,5,8,64,65,66],[21],[],[],[],[],[(8,1005,fun _=>zaf default)]⟩),(24,⟨[0,5,8,9,10,11,12,13,14,64,65,66],[9,10,11,12,13,14,21,129],[],[(11,0,129,130,fun _=>zaf default)],[],[],[]⟩),(27,zK [0,5,8,9,10,11,12,13,14,64,65,66,87] [9,10,11,12,13,14,21,129])],
 [(7,zK [0,3] [21]),(16,zK [0,3,5] [21]),(34,zK [0,5,8,11,64,65,66,144] [11,21,129])],
 [],[]⟩
def zk0 (w:web) (zbx:Int) (zfY:Nat) (zcJ:Nat→List PV):St:=⟨[(0,.one (.c (.p (.fp (zaD w) 0)))),(3,.one (.c (.vec 21))),(23,.one (.c (.p (.int .i64 (w.Net.Nodes.toNat:Int))))),(24,.one (.c (.p (.int .i64 zbx))))],[(21,.vec 159 1 24 zfY zcJ)],[]⟩
def zk1 (K:List PA→Prop) (w:web) (zbx:Int) (zfY:Nat) (zcJ:Nat→List PV):Prop:=vc Tryd.prog G89 zaW (cdF Tryd.f89 [1,0,1,0,1,0]) (zak 0 (sqK Tryd.prog G89 zaW (cdF Tryd.f89 [1,0,1,1]) (zcA (zbl Tryd.prog Tryd.f89 K)))) (zk0 w zbx zfY zcJ)
def zIW (w:web) (zre:Nat) (ziE:Nat→List PV):St:=⟨[(0,.one (.c (.p (.fp (zaD w) 0)))),(3,.one (.c (.vec 21)))],[(21,.vec 159 1 24 zre ziE)],[]⟩
def znW (K:List PA→Prop) (w:web) (zre:Nat) (ziE:Nat→List PV):Prop:=vc Tryd.prog G89 zaW (cdF Tryd.f89 [1,0,1,1]) (zcA (zbl Tryd.prog Tryd.f89 K)) (zIW w zre ziE)
def zjn (w:web) (zaM:(Sl (Sl Tab))) (zbc:Int):St:=⟨[(0,.one (.c (.p (.fp (zaD w) 0)))),(3,.one (.c (.vec 21))),(5,.one (.c (.p (.int .i64 zbc))))],[(21,.vec 159 1 24 zaM.len (fun i=>zaH (zaM.get i)))],[]⟩
def zk2 (K:List PA→Prop) (w:web) (zaM:(Sl (Sl Tab))) (zbc:Int):Prop:=vc Tryd.prog G89 zaW (cdF Tryd.f89 [1,0,1,1,1,1,0,1,0]) (zak 2 (sqK Tryd.prog G89 zaW (cdF Tryd.f89 [1,0,1,1,1,1,1]) (zcA (zbl Tryd.prog Tryd.f89 K)))) (zjn w zaM zbc)
def zk3 (w:web) (zaM:(Sl (Sl Tab))) (za6:Int) (zbE:Int):St:=⟨[(0,.one (.c (.p (.fp (zaD w) 0)))),(3,.one (.c (.vec 21))),(5,.one (.c (.p (.int .i64 za6)))),(48,.one (.c (.vec 21))),(49,.one (.c (.p (.int .i64 (zaM.len:Int))))),(50,.one (.c (.p (.int .i64 zbE))))],[(21,.vec 159 1 24 zaM.len (fun i=>zaH (zaM.get i)))],[]⟩
def zk4 (K:List PA→Prop) (X2:St→Prop) (w:web) (zaM:(Sl (Sl Tab))) (za6:Int) (zbE:Int):Prop:=vc Tryd.prog G89 zaW (cdF Tryd.f89 [1,0,1,1,1,1,0,1,0,0,1,0,0,1,0]) (zak 4 (zak 3 (sqK Tryd.prog G89 zaW (cdF Tryd.f89 [1,0,1,1,1,1,0,1,0,0,1,1]) (zbn Tryd.prog zaW 9 X2 (zak 2 (sqK Tryd.prog G89 zaW (cdF Tryd.f89 [1,0,1,1,1,1,1]) (zcA (zbl Tryd.prog Tryd.f89 K)))))))) (zk3 w zaM za6 zbE)
def zIX (w:web) (zdK:Int) (zrf:Nat) (ziF:Nat→List PV):St:=⟨[(0,.one (.c (.p (.fp (zaD w) 0)))),(3,.one (.c (.vec 21))),(5,.one (.c (.p (.int .i64 zdK))))],[(21,.vec 159 1 24 zrf ziF)],[]⟩
def zk5 (K:List PA→Prop) (w:web) (zdK:Int) (zrf:Nat) (ziF:Nat→List PV):Prop:=vc Tryd.prog G89 zaW (cdF Tryd.f89 [1,0,1,1,1,1,1]) (zcA (zbl Tryd.prog Tryd.f89 K)) (zIX w zdK zrf ziF)
def zfq (w:web) (zas:(Sl (Sl Tab))) (zaU:Int) (zaG:Bool) (zeA:Nat) (zbs:Nat→List PV) (za0:Int) (zfZ:Nat) (zbS:Nat→List PV):St:=⟨[(0,.one (.c (.p (.fp (zaD w) 0)))),(5,.one (.c (.p (.int .i64 zaU)))),(8,.one (.c (.p (.ns zaG zeA 5 zbs)))),(64,.one (.c (.vec 21))),(65,.one (.c (.p (.int .i64 (zas.len:Int))))),(66,.one (.c (.p (.int .i64 za0))))],[(21,.vec 159 1 24 zfZ zbS)],[]⟩
def zk6 (K:List PA→Prop) (w:web) (zas:(Sl (Sl Tab))) (zaU:Int) (zaG:Bool) (zeA:Nat) (zbs:Nat→List PV) (za0:Int) (zfZ:Nat) (zbS:Nat→List PV):Prop:=vc Tryd.prog G89 zaW (cdF Tryd.f89 [1,0,1,1,1,1,1,1,0,1,0]) (zak 6 (sqK Tryd.prog G89 zaW (cdF Tryd.f89 [1,0,1,1,1,1,1,1,1]) (zcA (zbl Tryd.prog Tryd.f89 K)))) (zfq w zas zaU zaG zeA zbs za0 zfZ zbS)
def zh4 (w:web) (zas:(Sl (Sl Tab))) (zba:Int) (zaE:Bool) (zeB:Nat) (zbV:Nat→List PV) (zbW:Int) (iv6:Int) (zpH:Nat) (zeI:Nat→List PV) (zdp:Int) (zaJ:Int) (kv6:Int) (zf0:Nat) (zci:Nat→List PV) (zeC:Nat) (zbX:Nat→List PV):St:=⟨[(0,.one (.c (.p (.fp (zaD w) 0)))),(5,.one (.c (.p (.int .i64 zba)))),(8,.one (.c (.p (.ns zaE zeB 5 zbV)))),(9,.one (.c (.ptr 9 0))),(10,.one (.c (.ptr 10 0))),(11,.one (.c (.ptr 11 0))),(12,.one (.c (.ptr 12 0))),(13,.one (.c (.ptr 13 0))),(14,.one (.c (.ptr 14 0))),(64,.one (.c (.vec 21))),(65,.one (.c (.p (.int .i64 (zas.len:Int))))),(66,.one (.c (.p (.int .i64 zbW))))],[(9,.box 3 [.p (.int .i64 iv6)]),(10,.box 159 [.p (.sl zpH 80 zeI)]),(11,.box 127 [.vec 129]),(12,.box 3 [.p (.int .i64 zdp)]),(13,.box 3 [.p (.int .i64 zaJ)]),(14,.box 3 [.p (.int .i64 kv6)]),(21,.vec 159 1 24 zf0 zci),(129,.vec 130 5 40 zeC zbX)],[]⟩
def zk7 (K:List PA→Prop) (X5:St→Prop) (w:web) (zas:(Sl (Sl Tab))) (zba:Int) (zaE:Bool) (zeB:Nat) (zbV:Nat→List PV) (zbW:Int) (iv6:Int) (zpH:Nat) (zeI:Nat→List PV) (zdp:Int) (zaJ:Int) (kv6:Int) (zf0:Nat) (zci:Nat→List PV) (zeC:Nat) (zbX:Nat→List PV):Prop:=vc Tryd.prog G89 zaW (cdF Tryd.f89 [1,0,1,1,1,1,1,1,0,1,0,0,1,1,0,0,1,1,1,1,0,1,0]) (zak 8 (sqK Tryd.prog G89 zaW (cdF Tryd.f89 [1,0,1,1,1,1,1,1,0,1,0,0,1,1,0,0,1,1,1,1,1]) (zak 7 (sqK Tryd.prog G89 zaW (cdF Tryd.f89 [1,0,1,1,1,1,1,1,0,1,0,0,1,1,1]) (zbn Tryd.prog zaW 18 X5 (zak 6 (sqK Tryd.prog G89 zaW (cdF Tryd.f89 [1,0,1,1,1,1,1,1,1]) (zcA (zbl Tryd.prog Tryd.f89 K))))))))) (zh4 w zas zba zaE zeB zbV zbW iv6 zpH zeI zdp zaJ kv6 zf0 zci zeC zbX)
def zfr (w:web) (zas:(Sl (Sl Tab))) (zaQ:Int) (zav:Bool) (zeD:Nat) (zb8:Nat→List PV) (zbj:Int) (iv7:Int) (zpI:Nat) (zfz:Nat→List PV) (zcK:Int) (zat:Int) (kv7:Int) (zf1:Nat) (zcL:Nat→List PV) (zeE:Nat) (zb9:Nat→List PV):St:=⟨[(0,.one (.c (.p (.fp (zaD w) 0)))),(5,.one (.c (.p (.int .i64 zaQ)))),(8,.one (.c (.p (.ns zav zeD 5 zb8)))),(9,.one (.c (.ptr 9 0))),(10,.one (.c (.ptr 10 0))),(11,.one (.c (.ptr 11 0))),(12,.one (.c (.ptr 12 0))),(13,.one (.c (.ptr 13 0))),(14,.one (.c (.ptr 14 0))),(64,.one (.c (.vec 21))),(65,.one (.c (.p (.int .i64 (zas.len:Int))))),(66,.one (.c (.p (.int .i64 zbj)))),(87,.one (.c (.p (.fn 110 [] [.fp [.fp (zaD w) 0] 0]))))],[(9,.box 3 [.p (.int .i64 iv7)]),(10,.box 159 [.p (.sl zpI 80 zfz)]),(11,.box 127 [.vec 129]),(12,.box 3 [.p (.int .i64 zcK)]),(13,.box 3 [.p (.int .i64 zat)]),(14,.box 3 [.p (.int .i64 kv7)]),(21,.vec 159 1 24 zf1 zcL),(129,.vec 130 5 40 zeE zb9)],[]⟩
def zk8 (K:List PA→Prop) (X5:St→Prop) (X6:St→Prop) (w:web) (zas:(Sl (Sl Tab))) (zaQ:Int) (zav:Bool) (zeD:Nat) (zb8:Nat→List PV) (zbj:Int) (iv7:Int) (zpI:Nat) (zfz:Nat→List PV) (zcK:Int) (zat:Int) (kv7:Int) (zf1:Nat) (zcL:Nat→List PV) (zeE:Nat) (zb9:Nat→List PV):Prop:=vc Tryd.prog G89 zaW (cdF Tryd.f89 [1,0,1,1,1,1,1,1,0,1,0,0,1,1,0,0,1,1,1,1,0,1,0,0,1,0,0,1,0]) (zak 10 (zak 9 (sqK Tryd.prog G89 zaW (cdF Tryd.f89 [1,0,1,1,1,1,1,1,0,1,0,0,1,1,0,0,1,1,1,1,0,1,0,0,1,1]) (zbn Tryd.prog zaW 24 X6 (zak 8 (sqK Tryd.prog G89 zaW (cdF Tryd.f89 [1,0,1,1,1,1,1,1,0,1,0,0,1,1,0,0,1,1,1,1,1]) (zak 7 (sqK Tryd.prog G89 zaW (cdF Tryd.f89 [1,0,1,1,1,1,1,1,0,1,0,0,1,1,1]) (zbn Tryd.prog zaW 18 X5 (zak 6 (sqK Tryd.prog G89 zaW (cdF Tryd.f89 [1,0,1,1,1,1,1,1,1]) (zcA (zbl Tryd.prog Tryd.f89 K))))))))))))) (zfr w zas zaQ zav zeD zb8 zbj iv7 zpI zfz zcK zat kv7 zf1 zcL zeE zb9)
def zIY (w:web) (zas:(Sl (Sl Tab))) (zc7:Int) (zcm:Bool) (znX:Nat) (zgy:Nat→List PV) (zeU:Int) (zef:Bool) (zrg:Nat) (ziG:Nat→List PV) (znY:Nat) (zgz:Nat→List PV):St:=⟨[(0,.one (.c (.p (.fp (zaD w) 0)))),(5,.one (.c (.p (.int .i64 zc7)))),(8,.one (.c (.p (.ns zcm znX 5 zgy)))),(11,.one (.c (.ptr 11 0))),(64,.one (.c (.vec 21))),(65,.one (.c (.p (.int .i64 (zas.len:Int))))),(66,.one (.c (.p (.int .i64 zeU)))),(144,.one (.c (.p (.bool zef))))],[(11,.box 127 [.vec 129]),(21,.vec 159 1 24 zrg ziG),(129,.vec 130 5 40 znY zgz)],[]⟩
def zk9 (K:List PA→Prop) (X5:St→Prop) (w:web) (zas:(Sl (Sl Tab))) (zc7:Int) (zcm:Bool) (znX:Nat) (zgy:Nat→List PV) (zeU:Int) (zef:Bool) (zrg:Nat) (ziG:Nat→List PV) (znY:Nat) (zgz:Nat→List PV):Prop:=vc Tryd.prog G89 zaW (cdF Tryd.f89 [1,0,1,1,1,1,1,1,0,1,0,0,1,1,0,0,1,1,1,1,1,1]) (zak 7 (sqK Tryd.prog G89 zaW (cdF Tryd.f89 [1,0,1,1,1,1,1,1,0,1,0,0,1,1,1]) (zbn Tryd.prog zaW 18 X5 (zak 6 (sqK Tryd.prog G89 zaW (cdF Tryd.f89 [1,0,1,1,1,1,1,1,1]) (zcA (zbl Tryd.prog Tryd.f89 K))))))) (zIY w zas zc7 zcm znX zgy zeU zef zrg ziG znY zgz)
theorem zEP (w : web) (K : List PA → Prop) :
  vcFun Tryd.prog G89 zaW 89 [.one (.fp (zaD w) 0)] K =
  (((0≤w.Net.Nodes∧w.Net.Nodes=w.Net.Nodes∧w.Net.Nodes≤1000000)) ∧
 (zk1 K w (0:Int) w.Net.Nodes.toNat (fun _=>(zaH (⟨0,fun _=>(fun _=>(0:Int))⟩:(Sl Tab)))))):=by kernel_rfl
def zpJ (K:List PA→Prop) (X0:St→Prop) (w:web) (zbx:Int) (zb1:(Sl (Sl Tab))):Prop :=
  (zbR (decide (zbx < (w.Net.Nodes.toNat : Int)))
 ((IsE enc_40 4 4 (fun i=>enc_40 (w.Net.Ties.get i))∧((false,1,false,[none]):MQ)=(false,1,false,[none])∧(zIM w zbx w.Net.Nodes=true)) ∧
 (((0≤zbx∧zbx < (zb1.len:Int))) ∧
 (((zbx.toNat < zb1.len)) ∧
 (X0 (zk0 w (w64 (zbx+(1:Int))) zb1.len (zjx zbx.toNat 0 (fun i=>zaH (zb1.get i)) (zaH (zxO w zbx w.Net.Nodes))))))))
 (znW K w zb1.len (fun i=>zaH (zb1.get i))))
theorem zrh (K : List PA → Prop) (X0 : St → Prop) (w : web) (zbx : Int) (zb1 : (Sl (Sl Tab))) :
  vc Tryd.prog G89 zaW (cd (cdF Tryd.f89 [1,0,1,0,1,0]) [0]) (zbn Tryd.prog zaW 3 X0 (zak 0 (sqK Tryd.prog G89 zaW (cdF Tryd.f89 [1,0,1,1]) (zcA (zbl Tryd.prog Tryd.f89 K))))) (zk0 w zbx zb1.len (fun i=>zaH (zb1.get i))) =
  zpJ K X0 w zbx zb1:=by kernel_rfl
theorem zx4 (K : List PA → Prop) (w : web) (zbx : Int) (zfY : Nat) (zcJ : Nat → List PV)
  (h:∀ X0:St→Prop,(∀ (zbx:Int) (zb1:(Sl (Sl Tab))),zpJ K X0 w zbx zb1→X0 (zk0 w zbx zb1.len (fun i=>zaH (zb1.get i))))→X0 (zk0 w zbx zfY zcJ)) :
  zk1 K w zbx zfY zcJ:=by
  have e:zk1 K w zbx zfY zcJ=(∀ X:St→Prop,(∀ s,vc Tryd.prog G89 zaW (cd (cdF Tryd.f89 [1,0,1,0,1,0]) [0]) (zbn Tryd.prog zaW 3 X (zak 0 (sqK Tryd.prog G89 zaW (cdF Tryd.f89 [1,0,1,1]) (zcA (zbl Tryd.prog Tryd.f89 K))))) s→X s)→X (zk0 w zbx zfY zcJ)):=by kernel_rfl
  refine zbd e ?_
  intro X hX
  refine h X ?_
  intro zbx zb1 hs
  refine hX _ ?_
  have e2:=zrh K X w zbx zb1
  rw [e2]
  exact hs
theorem zEQ (K : List PA → Prop) (w : web) (zaM : (Sl (Sl Tab))) :
  znW K w zaM.len (fun i=>zaH (zaM.get i)) =
  (zk2 K w zaM (1:Int)):=by kernel_rfl
def zpK (K:List PA→Prop) (X2:St→Prop) (w:web) (zaM:(Sl (Sl Tab))) (zbc:Int):Prop :=
  (zbR (decide (zbc < w.Net.Nodes))
 (zk4 K X2 w zaM zbc (0:Int))
 (zk5 K w zbc zaM.len (fun i=>zaH (zaM.get i))))
theorem zri (K : List PA → Prop) (X2 : St → Prop) (w : web) (zaM : (Sl (Sl Tab))) (zbc : Int) :
  vc Tryd.prog G89 zaW (cd (cdF Tryd.f89 [1,0,1,1,1,1,0,1,0]) [0]) (zbn Tryd.prog zaW 9 X2 (zak 2 (sqK Tryd.prog G89 zaW (cdF Tryd.f89 [1,0,1,1,1,1,1]) (zcA (zbl Tryd.prog Tryd.f89 K))))) (zjn w zaM zbc) =
  zpK K X2 w zaM zbc:=by kernel_rfl
theorem zx5 (K : List PA → Prop) (w : web) (zaM : (Sl (Sl Tab))) (zbc : Int)
  (h:∀ X2:St→Prop,(∀ (zbc:Int),zpK K X2 w zaM zbc→X2 (zjn w zaM zbc))→X2 (zjn w zaM zbc)) :
  zk2 K w zaM zbc:=by
  have e:zk2 K w zaM zbc=(∀ X:St→Prop,(∀ s,vc Tryd.prog G89 zaW (cd (cdF Tryd.f89 [1,0,1,1,1,1,0,1,0]) [0]) (zbn Tryd.prog zaW 9 X (zak 2 (sqK Tryd.prog G89 zaW (cdF Tryd.f89 [1,0,1,1,1,1,1]) (zcA (zbl Tryd.prog Tryd.f89 K))))) s→X s)→X (zjn w zaM zbc)):=by kernel_rfl
  refine zbd e ?_
  intro X hX
  refine h X ?_
  intro zbc hs
  refine hX _ ?_
  have e2:=zri K X w zaM zbc
  rw [e2]
  exact hs
def zpL (K:List PA→Prop) (X2:St→Prop) (X3:St→Prop) (w:web) (zaM:(Sl (Sl Tab))) (za6:Int) (zbE:Int):Prop :=
  (zbR (decide (zbE < (zaM.len : Int)))
 (((0≤zbE∧zbE < (zaM.len:Int))) ∧
 (((zbE.toNat < zaM.len)) ∧
 (((0≤za6∧za6 < ((zaM.get zbE.toNat).len:Int))) ∧
 (((0≤zbE∧zbE < (40:Int))) ∧
 (zbR (decide ((tL ((zaM.get zbE.toNat).get za6.toNat) zbE) < (0:Int)))
 (zk5 K w za6 zaM.len (fun i=>zaH (zaM.get i)))
 (X3 (zk3 w zaM za6 (w64 (zbE+(1:Int))))))))))
 (X2 (zjn w zaM (w64 (za6+(1:Int))))))
theorem zrj (K : List PA → Prop) (X2 : St → Prop) (X3 : St → Prop) (w : web) (zaM : (Sl (Sl Tab))) (za6 : Int) (zbE : Int) :
  vc Tryd.prog G89 zaW (cd (cdF Tryd.f89 [1,0,1,1,1,1,0,1,0,0,1,0,0,1,0]) [0]) (zbn Tryd.prog zaW 12 X3 (zak 4 (zak 3 (sqK Tryd.prog G89 zaW (cdF Tryd.f89 [1,0,1,1,1,1,0,1,0,0,1,1]) (zbn Tryd.prog zaW 9 X2 (zak 2 (sqK Tryd.prog G89 zaW (cdF Tryd.f89 [1,0,1,1,1,1,1]) (zcA (zbl Tryd.prog Tryd.f89 K))))))))) (zk3 w zaM za6 zbE) =
  zpL K X2 X3 w zaM za6 zbE:=by kernel_rfl
theorem zx6 (K : List PA → Prop) (X2 : St → Prop) (w : web) (zaM : (Sl (Sl Tab))) (za6 : Int) (zbE : Int)
  (h:∀ X3:St→Prop,(∀ (za6:Int) (zbE:Int),zpL K X2 X3 w zaM za6 zbE→X3 (zk3 w zaM za6 zbE))→X3 (zk3 w zaM za6 zbE)) :
  zk4 K X2 w zaM za6 zbE:=by
  have e:zk4 K X2 w zaM za6 zbE=(∀ X:St→Prop,(∀ s,vc Tryd.prog G89 zaW (cd (cdF Tryd.f89 [1,0,1,1,1,1,0,1,0,0,1,0,0,1,0]) [0]) (zbn Tryd.prog zaW 12 X (zak 4 (zak 3 (sqK Tryd.prog G89 zaW (cdF Tryd.f89 [1,0,1,1,1,1,0,1,0,0,1,1]) (zbn Tryd.prog zaW 9 X2 (zak 2 (sqK Tryd.prog G89 zaW (cdF Tryd.f89 [1,0,1,1,1,1,1]) (zcA (zbl Tryd.prog Tryd.f89 K))))))))) s→X s)→X (zk3 w zaM za6 zbE)):=by kernel_rfl
  refine zbd e ?_
  intro X hX
  refine h X ?_
  intro za6 zbE hs
  refine hX _ ?_
  have e2:=zrj K X2 X w zaM za6 zbE
  rw [e2]
  exact hs
theorem zER (K : List PA → Prop) (w : web) (zdK : Int) (zas : (Sl (Sl Tab))) :
  zk5 K w zdK zas.len (fun i=>zaH (zas.get i)) =
  (zk6 K w zas zdK true 0 (fun i=>zaf ((fun _=>default) i)) (0:Int) zas.len (fun i=>zaH (zas.get i))):=by kernel_rfl
def zpM (K:List PA→Prop) (X5:St→Prop) (w:web) (zas:(Sl (Sl Tab))) (zaU:Int) (zaG:Bool) (zaX:(Sl step)) (za0:Int) (zbk:(Sl (Sl Tab))):Prop :=
  (zbR (decide (za0 < (zas.len : Int)))
 (((0≤za0∧za0 < (zbk.len:Int))) ∧
 (((za0.toNat < zbk.len)) ∧
 (((0≤zaU∧zaU < ((zbk.get za0.toNat).len:Int))) ∧
 (((0≤za0∧za0 < (40:Int))) ∧
 (zbR (decide ((tL ((zbk.get za0.toNat).get zaU.toNat) za0) ≥ (0:Int)))
 (X5 (zfq w zas zaU zaG zaX.len (fun i=>zaf (zaX.get i)) (w64 (za0+(1:Int))) zbk.len (fun i=>zaH (zbk.get i))))
 (zk7 K X5 w zas zaU zaG zaX.len (fun i=>zaf (zaX.get i)) za0 za0 ((zbk.get za0.toNat).len) (fun i=>zae ((zbk.get za0.toNat).get i)) za0 (0:Int) (w64 (zaU - (1:Int))) zbk.len (fun i=>zaH (zbk.get i)) 0 (fun i=>zaf ((fun _=>default) i))))))))
 (K [.one (.sl zaX.len 5 (fun i=>zaf (zaX.get i)))]))
theorem zrk (K : List PA → Prop) (X5 : St → Prop) (w : web) (zas : (Sl (Sl Tab))) (zaU : Int) (zaG : Bool) (zaX : (Sl step)) (za0 : Int) (zbk : (Sl (Sl Tab))) :
  vc Tryd.prog G89 zaW (cd (cdF Tryd.f89 [1,0,1,1,1,1,1,1,0,1,0]) [0]) (zbn Tryd.prog zaW 18 X5 (zak 6 (sqK Tryd.prog G89 zaW (cdF Tryd.f89 [1,0,1,1,1,1,1,1,1]) (zcA (zbl Tryd.prog Tryd.f89 K))))) (zfq w zas zaU zaG zaX.len (fun i=>zaf (zaX.get i)) za0 zbk.len (fun i=>zaH (zbk.get i))) =
  zpM K X5 w zas zaU zaG zaX za0 zbk:=by kernel_rfl
theorem zx7 (K : List PA → Prop) (w : web) (zas : (Sl (Sl Tab))) (zaU : Int) (zaG : Bool) (zeA : Nat) (zbs : Nat → List PV) (za0 : Int) (zfZ : Nat) (zbS : Nat → List PV)
  (h:∀ X5:St→Prop,(∀ (zaU:Int) (zaG:Bool) (zaX:(Sl step)) (za0:Int) (zbk:(Sl (Sl Tab))),zpM K X5 w zas zaU zaG zaX za0 zbk→X5 (zfq w zas zaU zaG zaX.len (fun i=>zaf (zaX.get i)) za0 zbk.len (fun i=>zaH (zbk.get i))))→X5 (zfq w zas zaU zaG zeA zbs za0 zfZ zbS)) :
  zk6 K w zas zaU zaG zeA zbs za0 zfZ zbS:=by
  have e:zk6 K w zas zaU zaG zeA zbs za0 zfZ zbS=(∀ X:St→Prop,(∀ s,vc Tryd.prog G89 zaW (cd (cdF Tryd.f89 [1,0,1,1,1,1,1,1,0,1,0]) [0]) (zbn Tryd.prog zaW 18 X (zak 6 (sqK Tryd.prog G89 zaW (cdF Tryd.f89 [1,0,1,1,1,1,1,1,1]) (zcA (zbl Tryd.prog Tryd.f89 K))))) s→X s)→X (zfq w zas zaU zaG zeA zbs za0 zfZ zbS)):=by kernel_rfl
  refine zbd e ?_
  intro X hX
  refine h X ?_
  intro zaU zaG zaX za0 zbk hs
  refine hX _ ?_
  have e2:=zrk K X w zas zaU zaG zaX za0 zbk
  rw [e2]
  exact hs
def zpN (K:List PA→Prop) (X5:St→Prop) (X6:St→Prop) (w:web) (zas:(Sl (Sl Tab))) (zba:Int) (zaE:Bool) (zaV:(Sl step)) (zbW:Int) (iv6:Int) (hv6:(Sl Tab)) (zdp:Int) (zaJ:Int) (kv6:Int) (zbP:(Sl (Sl Tab))) (zaY:(Sl step)):Prop :=
  (zbR (decide (kv6 ≥ (0:Int)))
 ((IsE enc_40 4 4 (fun i=>enc_40 (w.Net.Ties.get i))∧((false,1,false,[none]):MQ)=(false,1,false,[none])) ∧
 (zk8 K X5 X6 w zas zba zaE zaV.len (fun i=>zaf (zaV.get i)) zbW iv6 hv6.len (fun i=>zae (hv6.get i)) zdp zaJ kv6 zbP.len (fun i=>zaH (zbP.get i)) zaY.len (fun i=>zaf (zaY.get i))))
 (((zaE=true∨zaV.len ≠ 0)) ∧
 (zbR zaE
 (zk9 K X5 w zas zba zaE zaV.len (fun i=>zaf (zaV.get i)) zbW true zbP.len (fun i=>zaH (zbP.get i)) zaY.len (fun i=>zaf (zaY.get i)))
 ((IsE zaf 5 5 (fun i=>zaf (zaY.get i))∧IsE zaf 5 5 (fun i=>zaf (zaV.get i))∧(zKF zaY zaV=true)) ∧
 (zk9 K X5 w zas zba zaE zaV.len (fun i=>zaf (zaV.get i)) zbW (decide ((zHG zaY zaV) < (0:Int))) zbP.len (fun i=>zaH (zbP.get i)) zaY.len (fun i=>zaf (zaY.get i)))))))
theorem zrl (K : List PA → Prop) (X5 : St → Prop) (X6 : St → Prop) (w : web) (zas : (Sl (Sl Tab))) (zba : Int) (zaE : Bool) (zaV : (Sl step)) (zbW : Int) (iv6 : Int) (hv6 : (Sl Tab)) (zdp : Int) (zaJ : Int) (kv6 : Int) (zbP : (Sl (Sl Tab))) (zaY : (Sl step)) :
  vc Tryd.prog G89 zaW (cd (cdF Tryd.f89 [1,0,1,1,1,1,1,1,0,1,0,0,1,1,0,0,1,1,1,1,0,1,0]) [0]) (zbn Tryd.prog zaW 24 X6 (zak 8 (sqK Tryd.prog G89 zaW (cdF Tryd.f89 [1,0,1,1,1,1,1,1,0,1,0,0,1,1,0,0,1,1,1,1,1]) (zak 7 (sqK Tryd.prog G89 zaW (cdF Tryd.f89 [1,0,1,1,1,1,1,1,0,1,0,0,1,1,1]) (zbn Tryd.prog zaW 18 X5 (zak 6 (sqK Tryd.prog G89 zaW (cdF Tryd.f89 [1,0,1,1,1,1,1,1,1]) (zcA (zbl Tryd.prog Tryd.f89 K)))))))))) (zh4 w zas zba zaE zaV.len (fun i=>zaf (zaV.get i)) zbW iv6 hv6.len (fun i=>zae (hv6.get i)) zdp zaJ kv6 zbP.len (fun i=>zaH (zbP.get i)) zaY.len (fun i=>zaf (zaY.get i))) =
  zpN K X5 X6 w zas zba zaE zaV zbW iv6 hv6 zdp zaJ kv6 zbP zaY:=by kernel_rfl
theorem zx8 (K : List PA → Prop) (X5 : St → Prop) (w : web) (zas : (Sl (Sl Tab))) (zba : Int) (zaE : Bool) (zeB : Nat) (zbV : Nat → List PV) (zbW : Int) (iv6 : Int) (zpH : Nat) (zeI : Nat → List PV) (zdp : Int) (zaJ : Int) (kv6 : Int) (zf0 : Nat) (zci : Nat → List PV) (zeC : Nat) (zbX : Nat → List PV)
  (h:∀ X6:St→Prop,(∀ (zba:Int) (zaE:Bool) (zaV:(Sl step)) (zbW:Int) (iv6:Int) (hv6:(Sl Tab)) (zdp:Int) (zaJ:Int) (kv6:Int) (zbP:(Sl (Sl Tab))) (zaY:(Sl step)),zpN K X5 X6 w zas zba zaE zaV zbW iv6 hv6 zdp zaJ kv6 zbP zaY→X6 (zh4 w zas zba zaE zaV.len (fun i=>zaf (zaV.get i)) zbW iv6 hv6.len (fun i=>zae (hv6.get i)) zdp zaJ kv6 zbP.len (fun i=>zaH (zbP.get i)) zaY.len (fun i=>zaf (zaY.get i))))→X6 (zh4 w zas zba zaE zeB zbV zbW iv6 zpH zeI zdp zaJ kv6 zf0 zci zeC zbX)) :
  zk7 K X5 w zas zba zaE zeB zbV zbW iv6 zpH zeI zdp zaJ kv6 zf0 zci zeC zbX:=by
  have e:zk7 K X5 w zas zba zaE zeB zbV zbW iv6 zpH zeI zdp zaJ kv6 zf0 zci zeC zbX=(∀ X:St→Prop,(∀ s,vc Tryd.prog G89 zaW (cd (cdF Tryd.f89 [1,0,1,1,1,1,1,1,0,1,0,0,1,1,0,0,1,1,1,1,0,1,0]) [0]) (zbn Tryd.prog zaW 24 X (zak 8 (sqK Tryd.prog G89 zaW (cdF Tryd.f89 [1,0,1,1,1,1,1,1,0,1,0,0,1,1,0,0,1,1,1,1,1]) (zak 7 (sqK Tryd.prog G89 zaW (cdF Tryd.f89 [1,0,1,1,1,1,1,1,0,1,0,0,1,1,1]) (zbn Tryd.prog zaW 18 X5 (zak 6 (sqK Tryd.prog G89 zaW (cdF Tryd.f89 [1,0,1,1,1,1,1,1,1]) (zcA (zbl Tryd.prog Tryd.f89 K)))))))))) s→X s)→X (zh4 w zas zba zaE zeB zbV zbW iv6 zpH zeI zdp zaJ kv6 zf0 zci zeC zbX)):=by kernel_rfl
  refine zbd e ?_
  intro X hX
  refine h X ?_
  intro zba zaE zaV zbW iv6 hv6 zdp zaJ kv6 zbP zaY hs
  refine hX _ ?_
  have e2:=zrl K X5 X w zas zba zaE zaV zbW iv6 hv6 zdp zaJ kv6 zbP zaY
  rw [e2]
  exact hs
def zpO (K:List PA→Prop) (X5:St→Prop) (X6:St→Prop) (w:web) (zas:(Sl (Sl Tab))) (zaQ:Int) (zav:Bool) (zaN:(Sl step)) (zbj:Int) (iv7:Int) (hv7:(Sl Tab)) (zcK:Int) (zat:Int) (kv7:Int) (za7:(Sl (Sl Tab))) (zaF:(Sl step)):Prop :=
  (X6 (zh4 w zas zaQ zav zaN.len (fun i=>zaf (zaN.get i)) zbj iv7 hv7.len (fun i=>zae (hv7.get i)) zcK zat (w64 (kv7 - (1:Int))) za7.len (fun i=>zaH (za7.get i)) zaF.len (fun i=>zaf (zaF.get i))))
def zpP (K:List PA→Prop) (X5:St→Prop) (X6:St→Prop) (X7:List (List PA)→St→Prop) (y7:step) (rest7:List (List PA)) (w:web) (zas:(Sl (Sl Tab))) (zaQ:Int) (zav:Bool) (zaN:(Sl step)) (zbj:Int) (iv7:Int) (hv7:(Sl Tab)) (zcK:Int) (zat:Int) (kv7:Int) (za7:(Sl (Sl Tab))) (zaF:(Sl step)):Prop :=
  (zbR (y7.from_ == zcK)
 (zbR (decide (y7.to ≥ iv7))
 (((0≤kv7∧kv7 < (hv7.len:Int))) ∧
 (((0≤y7.to∧y7.to < (40:Int))) ∧
 (zbR (!(nvr (tL (hv7.get kv7.toNat) y7.to) (tU (hv7.get kv7.toNat) y7.to)))
 (((0≤kv7∧kv7 < (hv7.len:Int))) ∧
 (((0≤y7.to∧y7.to < (40:Int))) ∧
 (zbR (decide ((w64 ((w64 (zat + y7.length)) + (tL (hv7.get kv7.toNat) y7.to))) < (0:Int)))
 ((((zaF.len+1) * 40≤140737488355328∧zaF.len+1≤9223372036854775807)) ∧
 (X6 (zh4 w zas zaQ zav zaN.len (fun i=>zaf (zaN.get i)) zbj iv7 hv7.len (fun i=>zae (hv7.get i)) y7.to (w64 (zat+y7.length)) (w64 (kv7 - (1:Int))) za7.len (fun i=>zaH (za7.get i)) (zaF.len+1) (appG zaF.len (fun i=>zaf (zaF.get i)) (fun _=>(zaf y7))))))
 (X7 rest7 (zfr w zas zaQ zav zaN.len (fun i=>zaf (zaN.get i)) zbj iv7 hv7.len (fun i=>zae (hv7.get i)) zcK zat kv7 za7.len (fun i=>zaH (za7.get i)) zaF.len (fun i=>zaf (zaF.get i)))))))
 (X7 rest7 (zfr w zas zaQ zav zaN.len (fun i=>zaf (zaN.get i)) zbj iv7 hv7.len (fun i=>zae (hv7.get i)) zcK zat kv7 za7.len (fun i=>zaH (za7.get i)) zaF.len (fun i=>zaf (zaF.get i)))))))
 (X7 rest7 (zfr w zas zaQ zav zaN.len (fun i=>zaf (zaN.get i)) zbj iv7 hv7.len (fun i=>zae (hv7.get i)) zcK zat kv7 za7.len (fun i=>zaH (za7.get i)) zaF.len (fun i=>zaf (zaF.get i)))))
 (X7 rest7 (zfr w zas zaQ zav zaN.len (fun i=>zaf (zaN.get i)) zbj iv7 hv7.len (fun i=>zae (hv7.get i)) zcK zat kv7 za7.len (fun i=>zaH (za7.get i)) zaF.len (fun i=>zaf (zaF.get i)))))
theorem zrm (K:List PA→Prop) (X5:St→Prop) (X6:St→Prop) (w:web) (zas:(Sl (Sl Tab))) (zaQ:Int) (zav:Bool) (zaN:(Sl step)) (zbj:Int) (iv7:Int) (hv7:(Sl Tab)) (zcK:Int) (zat:Int) (kv7:Int) (za7:(Sl (Sl Tab))) (zaF:(Sl step)):(zak 10 (zak 9 (sqK Tryd.prog G89 zaW (cdF Tryd.f89 [1,0,1,1,1,1,1,1,0,1,0,0,1,1,0,0,1,1,1,1,0,1,0,0,1,1]) (zbn Tryd.prog zaW 24 X6 (zak 8 (sqK Tryd.prog G89 zaW (cdF Tryd.f89 [1,0,1,1,1,1,1,1,0,1,0,0,1,1,0,0,1,1,1,1,1]) (zak 7 (sqK Tryd.prog G89 zaW (cdF Tryd.f89 [1,0,1,1,1,1,1,1,0,1,0,0,1,1,1]) (zbn Tryd.prog zaW 18 X5 (zak 6 (sqK Tryd.prog G89 zaW (cdF Tryd.f89 [1,0,1,1,1,1,1,1,1]) (zcA (zbl Tryd.prog Tryd.f89 K))))))))))))) .normal (zfr w zas zaQ zav zaN.len (fun i=>zaf (zaN.get i)) zbj iv7 hv7.len (fun i=>zae (hv7.get i)) zcK zat kv7 za7.len (fun i=>zaH (za7.get i)) zaF.len (fun i=>zaf (zaF.get i)))=zpO K X5 X6 w zas zaQ zav zaN zbj iv7 hv7 zcK zat kv7 za7 zaF:=by kernel_rfl
theorem zrn (K : List PA → Prop) (X5 : St → Prop) (X6 : St → Prop) (X7 : List (List PA) → St → Prop) (y7 : step) (rest7 : List (List PA)) (w : web) (zas : (Sl (Sl Tab))) (zaQ : Int) (zav : Bool) (zaN : (Sl step)) (zbj : Int) (iv7 : Int) (hv7 : (Sl Tab)) (zcK : Int) (zat : Int) (kv7 : Int) (za7 : (Sl (Sl Tab))) (zaF : (Sl step)) :
  zvV Tryd.prog G89 zaW 27 [88] (cd (cdF Tryd.f89 [1,0,1,1,1,1,1,1,0,1,0,0,1,1,0,0,1,1,1,1,0,1,0,0,1,0,0,1,0]) [0]) (cd (cdF Tryd.f89 [1,0,1,1,1,1,1,1,0,1,0,0,1,1,0,0,1,1,1,1,0,1,0,0,1,0,0,1,0]) [1]) X7 (zak 10 (zak 9 (sqK Tryd.prog G89 zaW (cdF Tryd.f89 [1,0,1,1,1,1,1,1,0,1,0,0,1,1,0,0,1,1,1,1,0,1,0,0,1,1]) (zbn Tryd.prog zaW 24 X6 (zak 8 (sqK Tryd.prog G89 zaW (cdF Tryd.f89 [1,0,1,1,1,1,1,1,0,1,0,0,1,1,0,0,1,1,1,1,1]) (zak 7 (sqK Tryd.prog G89 zaW (cdF Tryd.f89 [1,0,1,1,1,1,1,1,0,1,0,0,1,1,1]) (zbn Tryd.prog zaW 18 X5 (zak 6 (sqK Tryd.prog G89 zaW (cdF Tryd.f89 [1,0,1,1,1,1,1,1,1]) (zcA (zbl Tryd.prog Tryd.f89 K))))))))))))) [.agg (zaf y7)] rest7 (zfr w zas zaQ zav zaN.len (fun i=>zaf (zaN.get i)) zbj iv7 hv7.len (fun i=>zae (hv7.get i)) zcK zat kv7 za7.len (fun i=>zaH (za7.get i)) zaF.len (fun i=>zaf (zaF.get i)))=zpP K X5 X6 X7 y7 rest7 w zas zaQ zav zaN zbj iv7 hv7 zcK zat kv7 za7 zaF:=by kernel_rfl
theorem zx9 (K : List PA → Prop) (X5 : St → Prop) (X6 : St → Prop) (w : web) (zas : (Sl (Sl Tab))) (zaQ : Int) (zav : Bool) (zeD : Nat) (zb8 : Nat → List PV) (zbj : Int) (iv7 : Int) (zpI : Nat) (zfz : Nat → List PV) (zcK : Int) (zat : Int) (kv7 : Int) (zf1 : Nat) (zcL : Nat → List PV) (zeE : Nat) (zb9 : Nat → List PV)
  (hsafe:IsE enc_40 4 4 (fun i=>enc_40 (w.Net.Ties.get i))∧((false,1,false,[none]):MQ)=(false,1,false,[none])∧(zl0 w=true)) (h:∀ X7:List (List PA)→St→Prop,(∀ (zaQ:Int) (zav:Bool) (zaN:(Sl step)) (zbj:Int) (iv7:Int) (hv7:(Sl Tab)) (zcK:Int) (zat:Int) (kv7:Int) (za7:(Sl (Sl Tab))) (zaF:(Sl step)),zpO K X5 X6 w zas zaQ zav zaN zbj iv7 hv7 zcK zat kv7 za7 zaF→X7 [] (zfr w zas zaQ zav zaN.len (fun i=>zaf (zaN.get i)) zbj iv7 hv7.len (fun i=>zae (hv7.get i)) zcK zat kv7 za7.len (fun i=>zaH (za7.get i)) zaF.len (fun i=>zaf (zaF.get i))))→(∀ (y:step) (rest:List (List PA)) (zaQ:Int) (zav:Bool) (zaN:(Sl step)) (zbj:Int) (iv7:Int) (hv7:(Sl Tab)) (zcK:Int) (zat:Int) (kv7:Int) (za7:(Sl (Sl Tab))) (zaF:(Sl step)),zpP K X5 X6 X7 y rest w zas zaQ zav zaN zbj iv7 hv7 zcK zat kv7 za7 zaF→X7 ([.agg (zaf y)] :: rest) (zfr w zas zaQ zav zaN.len (fun i=>zaf (zaN.get i)) zbj iv7 hv7.len (fun i=>zae (hv7.get i)) zcK zat kv7 za7.len (fun i=>zaH (za7.get i)) zaF.len (fun i=>zaf (zaF.get i))))→X7 ((zic w).map fun y=>[.agg (zaf y)]) (zfr w zas zaQ zav zeD zb8 zbj iv7 zpI zfz zcK zat kv7 zf1 zcL zeE zb9)) :
  zk8 K X5 X6 w zas zaQ zav zeD zb8 zbj iv7 zpI zfz zcK zat kv7 zf1 zcL zeE zb9:=by
  have e:zk8 K X5 X6 w zas zaQ zav zeD zb8 zbj iv7 zpI zfz zcK zat kv7 zf1 zcL zeE zb9=((IsE enc_40 4 4 (fun i=>enc_40 (w.Net.Ties.get i))∧((false,1,false,[none]):MQ)=(false,1,false,[none])∧(zl0 w=true))∧∀ X:List (List PA)→St→Prop,(∀ s,(zak 10 (zak 9 (sqK Tryd.prog G89 zaW (cdF Tryd.f89 [1,0,1,1,1,1,1,1,0,1,0,0,1,1,0,0,1,1,1,1,0,1,0,0,1,1]) (zbn Tryd.prog zaW 24 X6 (zak 8 (sqK Tryd.prog G89 zaW (cdF Tryd.f89 [1,0,1,1,1,1,1,1,0,1,0,0,1,1,0,0,1,1,1,1,1]) (zak 7 (sqK Tryd.prog G89 zaW (cdF Tryd.f89 [1,0,1,1,1,1,1,1,0,1,0,0,1,1,1]) (zbn Tryd.prog zaW 18 X5 (zak 6 (sqK Tryd.prog G89 zaW (cdF Tryd.f89 [1,0,1,1,1,1,1,1,1]) (zcA (zbl Tryd.prog Tryd.f89 K))))))))))))) .normal s→X [] s)→(∀ y rest s,zvV Tryd.prog G89 zaW 27 [88] (cd (cdF Tryd.f89 [1,0,1,1,1,1,1,1,0,1,0,0,1,1,0,0,1,1,1,1,0,1,0,0,1,0,0,1,0]) [0]) (cd (cdF Tryd.f89 [1,0,1,1,1,1,1,1,0,1,0,0,1,1,0,0,1,1,1,1,0,1,0,0,1,0,0,1,0]) [1]) X (zak 10 (zak 9 (sqK Tryd.prog G89 zaW (cdF Tryd.f89 [1,0,1,1,1,1,1,1,0,1,0,0,1,1,0,0,1,1,1,1,0,1,0,0,1,1]) (zbn Tryd.prog zaW 24 X6 (zak 8 (sqK Tryd.prog G89 zaW (cdF Tryd.f89 [1,0,1,1,1,1,1,1,0,1,0,0,1,1,0,0,1,1,1,1,1]) (zak 7 (sqK Tryd.prog G89 zaW (cdF Tryd.f89 [1,0,1,1,1,1,1,1,0,1,0,0,1,1,1]) (zbn Tryd.prog zaW 18 X5 (zak 6 (sqK Tryd.prog G89 zaW (cdF Tryd.f89 [1,0,1,1,1,1,1,1,1]) (zcA (zbl Tryd.prog Tryd.f89 K))))))))))))) y rest s→X (y :: rest) s)→X ((zic w).map fun y=>[.agg (zaf y)]) (zfr w zas zaQ zav zeD zb8 zbj iv7 zpI zfz zcK zat kv7 zf1 zcL zeE zb9)):=by kernel_rfl
  refine zbd e ⟨hsafe,?_⟩
  intro X h0 h1
  refine h X (fun zaQ zav zaN zbj iv7 hv7 zcK zat kv7 za7 zaF hs=>h0 _ ?_) (fun y rest zaQ zav zaN zbj iv7 hv7 zcK zat kv7 za7 zaF hs=>h1 _ rest _ ?_)
  · rw [zrm K X5 X6 w zas zaQ zav zaN zbj iv7 hv7 zcK zat kv7 za7 zaF];exact hs
  · have e2 := zrn K X5 X6 X y rest w zas zaQ zav zaN zbj iv7 hv7 zcK zat kv7 za7 zaF
    rw [e2];exact hs
theorem zES (K : List PA → Prop) (X5 : St → Prop) (w : web) (zas : (Sl (Sl Tab))) (zc7 : Int) (zcm : Bool) (zdL : (Sl step)) (zeU : Int) (zef : Bool) (zem : (Sl (Sl Tab))) (zdM : (Sl step)) :
  zk9 K X5 w zas zc7 zcm zdL.len (fun i=>zaf (zdL.get i)) zeU zef zem.len (fun i=>zaH (zem.get i)) zdM.len (fun i=>zaf (zdM.get i)) =
  (zbR zef
 (X5 (zfq w zas zc7 false zdM.len (fun i=>zaf (zdM.get i)) (w64 (zeU+(1:Int))) zem.len (fun i=>zaH (zem.get i))))
 (X5 (zfq w zas zc7 zcm zdL.len (fun i=>zaf (zdL.get i)) (w64 (zeU+(1:Int))) zem.len (fun i=>zaH (zem.get i))))):=by kernel_rfl
abbrev e89 (r:(Sl step)):List PA:=[.one (.sl r.len 5 (fun i=>zaf (r.get i)))]
attribute [irreducible] zk1 znW zk2 zk4 zk5 zk6 zk7 zk8 zk9
def znZ (S5:Int→Bool→(Sl step)→Int→(Sl (Sl Tab))→(Sl step)) (w:web) (zas:(Sl (Sl Tab))) (zc7:Int) (zcm:Bool) (zdL:(Sl step)) (zeU:Int) (zef:Bool) (zem:(Sl (Sl Tab))) (zdM:(Sl step)):(Sl step) :=
  (cond zef
 (S5 zc7 false zdM (w64 (zeU+(1:Int))) zem)
 (S5 zc7 zcm zdL (w64 (zeU+(1:Int))) zem))
def zn0 (P5:Int→Bool→(Sl step)→Int→(Sl (Sl Tab))→Bool) (w:web) (zas:(Sl (Sl Tab))) (zc7:Int) (zcm:Bool) (zdL:(Sl step)) (zeU:Int) (zef:Bool) (zem:(Sl (Sl Tab))) (zdM:(Sl step)):Bool :=
  (cond zef
 (P5 zc7 false zdM (w64 (zeU+(1:Int))) zem)
 (P5 zc7 zcm zdL (w64 (zeU+(1:Int))) zem))
theorem zya (K : List PA → Prop) (w : web) (zas : (Sl (Sl Tab)))
  (X5:St→Prop) (P5:Int→Bool→(Sl step)→Int→(Sl (Sl Tab))→Bool) (S5:Int→Bool→(Sl step)→Int→(Sl (Sl Tab))→(Sl step))
  (hX5:∀ (zaU:Int) (zaG:Bool) (zaX:(Sl step)) (za0:Int) (zbk:(Sl (Sl Tab))) (zbs:Nat→List PV) (zeF:zbs=fun i=>zaf (zaX.get i)) (zbS:Nat→List PV) (zf2:zbS=fun i=>zaH (zbk.get i)),P5 zaU zaG zaX za0 zbk=true→K (e89 (S5 zaU zaG zaX za0 zbk))→X5 (zfq w zas zaU zaG zaX.len zbs za0 zbk.len zbS)) (zc7:Int) (zcm:Bool) (zdL:(Sl step)) (zeU:Int) (zef:Bool) (zem:(Sl (Sl Tab))) (zdM:(Sl step)) (zgy:Nat→List PV) (zCf:zgy=fun i=>zaf (zdL.get i)) (ziG:Nat→List PV) (zET:ziG=fun i=>zaH (zem.get i)) (zgz:Nat→List PV) (zCg:zgz=fun i=>zaf (zdM.get i)) (hs:zn0 P5 w zas zc7 zcm zdL zeU zef zem zdM=true) (hk:K (e89 (znZ S5 w zas zc7 zcm zdL zeU zef zem zdM))):zk9 K X5 w zas zc7 zcm zdL.len zgy zeU zef zem.len ziG zdM.len zgz:=by
  subst zCf
  subst zET
  subst zCg
  refine zbd (zES K X5 w zas zc7 zcm zdL zeU zef zem zdM) ?_
  unfold zn0 at hs
  unfold znZ at hk
  exact (zaZ (K := fun r => K (e89 r))
 (fun hs hk=>(hX5 zc7 false zdM (w64 (zeU+(1:Int))) zem (fun i=>zaf (zdM.get i)) rfl (fun i=>zaH (zem.get i)) rfl hs hk))
 (fun hs hk=>(hX5 zc7 zcm zdL (w64 (zeU+(1:Int))) zem (fun i=>zaf (zdL.get i)) rfl (fun i=>zaH (zem.get i)) rfl hs hk)) hs hk)
def zro (S5:Int→Bool→(Sl step)→Int→(Sl (Sl Tab))→(Sl step)) (S6:Int→Bool→(Sl step)→Int→Int→(Sl Tab)→Int→Int→Int→(Sl (Sl Tab))→(Sl step)→(Sl step)) (w:web) (zas:(Sl (Sl Tab))) (zaQ:Int) (zav:Bool) (zaN:(Sl step)) (zbj:Int) (iv7:Int) (hv7:(Sl Tab)) (zcK:Int) (zat:Int) (kv7:Int) (za7:(Sl (Sl Tab))) (zaF:(Sl step)):(Sl step) :=
  (S6 zaQ zav zaN zbj iv7 hv7 zcK zat (w64 (kv7 - (1:Int))) za7 zaF)
def zrp (P5:Int→Bool→(Sl step)→Int→(Sl (Sl Tab))→Bool) (P6:Int→Bool→(Sl step)→Int→Int→(Sl Tab)→Int→Int→Int→(Sl (Sl Tab))→(Sl step)→Bool) (w:web) (zas:(Sl (Sl Tab))) (zaQ:Int) (zav:Bool) (zaN:(Sl step)) (zbj:Int) (iv7:Int) (hv7:(Sl Tab)) (zcK:Int) (zat:Int) (kv7:Int) (za7:(Sl (Sl Tab))) (zaF:(Sl step)):Bool :=
  (P6 zaQ zav zaN zbj iv7 hv7 zcK zat (w64 (kv7 - (1:Int))) za7 zaF)
def zrq (S5:Int→Bool→(Sl step)→Int→(Sl (Sl Tab))→(Sl step)) (S6:Int→Bool→(Sl step)→Int→Int→(Sl Tab)→Int→Int→Int→(Sl (Sl Tab))→(Sl step)→(Sl step)) (w:web) (zas:(Sl (Sl Tab))) (y7:step) (S7:Int→Bool→(Sl step)→Int→Int→(Sl Tab)→Int→Int→Int→(Sl (Sl Tab))→(Sl step)→(Sl step)) (zaQ:Int) (zav:Bool) (zaN:(Sl step)) (zbj:Int) (iv7:Int) (hv7:(Sl Tab)) (zcK:Int) (zat:Int) (kv7:Int) (za7:(Sl (Sl Tab))) (zaF:(Sl step)):(Sl step) :=
  (cond (y7.from_ == zcK)
 (cond (decide (y7.to ≥ iv7))
 (cond (!(nvr (tL (hv7.get kv7.toNat) y7.to) (tU (hv7.get kv7.toNat) y7.to)))
 (cond (decide ((w64 ((w64 (zat + y7.length)) + (tL (hv7.get kv7.toNat) y7.to))) < (0:Int)))
 (S6 zaQ zav zaN zbj iv7 hv7 y7.to (w64 (zat+y7.length)) (w64 (kv7 - (1:Int))) za7 (⟨(zaF.len+1),(zg8 zaF.len zaF.get (fun _=>y7))⟩:Sl step))
 (S7 zaQ zav zaN zbj iv7 hv7 zcK zat kv7 za7 zaF))
 (S7 zaQ zav zaN zbj iv7 hv7 zcK zat kv7 za7 zaF))
 (S7 zaQ zav zaN zbj iv7 hv7 zcK zat kv7 za7 zaF))
 (S7 zaQ zav zaN zbj iv7 hv7 zcK zat kv7 za7 zaF))
def zrr (P5:Int→Bool→(Sl step)→Int→(Sl (Sl Tab))→Bool) (P6:Int→Bool→(Sl step)→Int→Int→(Sl Tab)→Int→Int→Int→(Sl (Sl Tab))→(Sl step)→Bool) (w:web) (zas:(Sl (Sl Tab))) (y7:step) (P7:Int→Bool→(Sl step)→Int→Int→(Sl Tab)→Int→Int→Int→(Sl (Sl Tab))→(Sl step)→Bool) (zaQ:Int) (zav:Bool) (zaN:(Sl step)) (zbj:Int) (iv7:Int) (hv7:(Sl Tab)) (zcK:Int) (zat:Int) (kv7:Int) (za7:(Sl (Sl Tab))) (zaF:(Sl step)):Bool :=
  (cond (y7.from_ == zcK)
 (cond (decide (y7.to ≥ iv7))
 (decide ((0≤kv7∧kv7 < (hv7.len:Int))) &&
 (decide ((0≤y7.to∧y7.to < (40:Int))) &&
 (cond (!(nvr (tL (hv7.get kv7.toNat) y7.to) (tU (hv7.get kv7.toNat) y7.to)))
 (decide ((0≤kv7∧kv7 < (hv7.len:Int))) &&
 (decide ((0≤y7.to∧y7.to < (40:Int))) &&
 (cond (decide ((w64 ((w64 (zat + y7.length)) + (tL (hv7.get kv7.toNat) y7.to))) < (0:Int)))
 (decide (((zaF.len+1) * 40≤140737488355328∧zaF.len+1≤9223372036854775807)) &&
 (P6 zaQ zav zaN zbj iv7 hv7 y7.to (w64 (zat+y7.length)) (w64 (kv7 - (1:Int))) za7 (⟨(zaF.len+1),(zg8 zaF.len zaF.get (fun _=>y7))⟩:Sl step)))
 (P7 zaQ zav zaN zbj iv7 hv7 zcK zat kv7 za7 zaF))))
 (P7 zaQ zav zaN zbj iv7 hv7 zcK zat kv7 za7 zaF))))
 (P7 zaQ zav zaN zbj iv7 hv7 zcK zat kv7 za7 zaF))
 (P7 zaQ zav zaN zbj iv7 hv7 zcK zat kv7 za7 zaF))
def zla (S5 : Int → Bool → (Sl step) → Int → (Sl (Sl Tab)) → (Sl step)) (S6 : Int → Bool → (Sl step) → Int → Int → (Sl Tab) → Int → Int → Int → (Sl (Sl Tab)) → (Sl step) → (Sl step)) (w : web) (zas : (Sl (Sl Tab))) : List step → Int → Bool → (Sl step) → Int → Int → (Sl Tab) → Int → Int → Int → (Sl (Sl Tab)) → (Sl step) → (Sl step)
  | []=>zro S5 S6 w zas
  | y :: r=>zrq S5 S6 w zas y (zla S5 S6 w zas r)
def zlb (P5 : Int → Bool → (Sl step) → Int → (Sl (Sl Tab)) → Bool) (P6 : Int → Bool → (Sl step) → Int → Int → (Sl Tab) → Int → Int → Int → (Sl (Sl Tab)) → (Sl step) → Bool) (w : web) (zas : (Sl (Sl Tab))) : List step → Int → Bool → (Sl step) → Int → Int → (Sl Tab) → Int → Int → Int → (Sl (Sl Tab)) → (Sl step) → Bool
  | []=>zrp P5 P6 w zas
  | y :: r=>zrr P5 P6 w zas y (zlb P5 P6 w zas r)
def zyb (S5:Int→Bool→(Sl step)→Int→(Sl (Sl Tab))→(Sl step)) (S6:Int→Bool→(Sl step)→Int→Int→(Sl Tab)→Int→Int→Int→(Sl (Sl Tab))→(Sl step)→(Sl step)) (w:web) (zas:(Sl (Sl Tab))) (zaQ:Int) (zav:Bool) (zaN:(Sl step)) (zbj:Int) (iv7:Int) (hv7:(Sl Tab)) (zcK:Int) (zat:Int) (kv7:Int) (za7:(Sl (Sl Tab))) (zaF:(Sl step)):(Sl step):=zla S5 S6 w zas (zic w) zaQ zav zaN zbj iv7 hv7 zcK zat kv7 za7 zaF
def zrt (P5:Int→Bool→(Sl step)→Int→(Sl (Sl Tab))→Bool) (P6:Int→Bool→(Sl step)→Int→Int→(Sl Tab)→Int→Int→Int→(Sl (Sl Tab))→(Sl step)→Bool) (w:web) (zas:(Sl (Sl Tab))) (zaQ:Int) (zav:Bool) (zaN:(Sl step)) (zbj:Int) (iv7:Int) (hv7:(Sl Tab)) (zcK:Int) (zat:Int) (kv7:Int) (za7:(Sl (Sl Tab))) (zaF:(Sl step)):Bool:=decide ((zl0 w=true)) && zlb P5 P6 w zas (zic w) zaQ zav zaN zbj iv7 hv7 zcK zat kv7 za7 zaF
theorem zEU (K : List PA → Prop) (w : web) (zas : (Sl (Sl Tab)))
  (X5:St→Prop) (P5:Int→Bool→(Sl step)→Int→(Sl (Sl Tab))→Bool) (S5:Int→Bool→(Sl step)→Int→(Sl (Sl Tab))→(Sl step))
  (hX5:∀ (zaU:Int) (zaG:Bool) (zaX:(Sl step)) (za0:Int) (zbk:(Sl (Sl Tab))) (zbs:Nat→List PV) (zeF:zbs=fun i=>zaf (zaX.get i)) (zbS:Nat→List PV) (zf2:zbS=fun i=>zaH (zbk.get i)),P5 zaU zaG zaX za0 zbk=true→K (e89 (S5 zaU zaG zaX za0 zbk))→X5 (zfq w zas zaU zaG zaX.len zbs za0 zbk.len zbS))
  (X6:St→Prop) (P6:Int→Bool→(Sl step)→Int→Int→(Sl Tab)→Int→Int→Int→(Sl (Sl Tab))→(Sl step)→Bool) (S6:Int→Bool→(Sl step)→Int→Int→(Sl Tab)→Int→Int→Int→(Sl (Sl Tab))→(Sl step)→(Sl step))
  (hX6:∀ (zba:Int) (zaE:Bool) (zaV:(Sl step)) (zbW:Int) (iv6:Int) (hv6:(Sl Tab)) (zdp:Int) (zaJ:Int) (kv6:Int) (zbP:(Sl (Sl Tab))) (zaY:(Sl step)) (zbV:Nat→List PV) (zgA:zbV=fun i=>zaf (zaV.get i)) (zeI:Nat→List PV) (zvF:zeI=fun i=>zae (hv6.get i)) (zci:Nat→List PV) (ziH:zci=fun i=>zaH (zbP.get i)) (zbX:Nat→List PV) (zgB:zbX=fun i=>zaf (zaY.get i)),P6 zba zaE zaV zbW iv6 hv6 zdp zaJ kv6 zbP zaY=true→K (e89 (S6 zba zaE zaV zbW iv6 hv6 zdp zaJ kv6 zbP zaY))→X6 (zh4 w zas zba zaE zaV.len zbV zbW iv6 hv6.len zeI zdp zaJ kv6 zbP.len zci zaY.len zbX)) (zaQ:Int) (zav:Bool) (zaN:(Sl step)) (zbj:Int) (iv7:Int) (hv7:(Sl Tab)) (zcK:Int) (zat:Int) (kv7:Int) (za7:(Sl (Sl Tab))) (zaF:(Sl step)) (zb8:Nat→List PV) (zgC:zb8=fun i=>zaf (zaN.get i)) (zfz:Nat→List PV) (zvG:zfz=fun i=>zae (hv7.get i)) (zcL:Nat→List PV) (ziI:zcL=fun i=>zaH (za7.get i)) (zb9:Nat→List PV) (zgD:zb9=fun i=>zaf (zaF.get i)) (hs:zrt P5 P6 w zas zaQ zav zaN zbj iv7 hv7 zcK zat kv7 za7 zaF=true) (hk:K (e89 (zyb S5 S6 w zas zaQ zav zaN zbj iv7 hv7 zcK zat kv7 za7 zaF))):zk8 K X5 X6 w zas zaQ zav zaN.len zb8 zbj iv7 hv7.len zfz zcK zat kv7 za7.len zcL zaF.len zb9:=by
  unfold zrt at hs
  rw [Bool.and_eq_true] at hs
  obtain ⟨hsf,hs⟩:=hs
  have hc:=of_decide_eq_true hsf
  refine zx9 K X5 X6 w zas zaQ zav zaN.len zb8 zbj iv7 hv7.len zfz zcK zat kv7 za7.len zcL zaF.len zb9 ⟨isE,rfl,hc⟩ ?_
  intro X7 hexit hstep
  have key:∀ (l:List step) (zaQ:Int) (zav:Bool) (zaN:(Sl step)) (zbj:Int) (iv7:Int) (hv7:(Sl Tab)) (zcK:Int) (zat:Int) (kv7:Int) (za7:(Sl (Sl Tab))) (zaF:(Sl step)) (zb8:Nat→List PV) (zgC:zb8=fun i=>zaf (zaN.get i)) (zfz:Nat→List PV) (zvG:zfz=fun i=>zae (hv7.get i)) (zcL:Nat→List PV) (ziI:zcL=fun i=>zaH (za7.get i)) (zb9:Nat→List PV) (zgD:zb9=fun i=>zaf (zaF.get i)),zlb P5 P6 w zas l zaQ zav zaN zbj iv7 hv7 zcK zat kv7 za7 zaF=true→K (e89 (zla S5 S6 w zas l zaQ zav zaN zbj iv7 hv7 zcK zat kv7 za7 zaF))→X7 (l.map fun y=>[.agg (zaf y)]) (zfr w zas zaQ zav zaN.len zb8 zbj iv7 hv7.len zfz zcK zat kv7 za7.len zcL zaF.len zb9):=by
    intro l
    induction l with
    | nil =>
      intro zaQ zav zaN zbj iv7 hv7 zcK zat kv7 za7 zaF zb8 zgC zfz zvG zcL ziI zb9 zgD hs hk
      subst zgC
      subst zvG
      subst ziI
      subst zgD
      refine hexit zaQ zav zaN zbj iv7 hv7 zcK zat kv7 za7 zaF ?_
      have hs:zrp P5 P6 w zas zaQ zav zaN zbj iv7 hv7 zcK zat kv7 za7 zaF=true:=hs
      have hk:K (e89 (zro S5 S6 w zas zaQ zav zaN zbj iv7 hv7 zcK zat kv7 za7 zaF)):=hk
      unfold zrp at hs
      unfold zro at hk
      exact (hX6 zaQ zav zaN zbj iv7 hv7 zcK zat (w64 (kv7 - (1:Int))) za7 zaF (fun i=>zaf (zaN.get i)) rfl (fun i=>zae (hv7.get i)) rfl (fun i=>zaH (za7.get i)) rfl (fun i=>zaf (zaF.get i)) rfl hs hk)
    | cons y7 l ih =>
      intro zaQ zav zaN zbj iv7 hv7 zcK zat kv7 za7 zaF zb8 zgC zfz zvG zcL ziI zb9 zgD hs hk
      subst zgC
      subst zvG
      subst ziI
      subst zgD
      refine hstep y7 _ zaQ zav zaN zbj iv7 hv7 zcK zat kv7 za7 zaF ?_
      have hs:zrr P5 P6 w zas y7 (zlb P5 P6 w zas l) zaQ zav zaN zbj iv7 hv7 zcK zat kv7 za7 zaF=true:=hs
      have hk:K (e89 (zrq S5 S6 w zas y7 (zla S5 S6 w zas l) zaQ zav zaN zbj iv7 hv7 zcK zat kv7 za7 zaF)):=hk
      unfold zrr at hs
      unfold zrq at hk
      generalize zla S5 S6 w zas l=S7 at hk ih
      generalize zlb P5 P6 w zas l=P7 at hs ih
      have hX7:=ih
      exact (zaZ (K := fun r => K (e89 r))
 (fun hs hk => (zaZ (K := fun r => K (e89 r))
 (fun hs hk => (za2 hs fun hc hs => ⟨hc, (za2 hs fun hc hs => ⟨hc, (zaZ (K := fun r => K (e89 r))
 (fun hs hk => (za2 hs fun hc hs => ⟨hc, (za2 hs fun hc hs => ⟨hc, (zaZ (K := fun r => K (e89 r))
 (fun hs hk=>(za2 hs fun hc hs=>⟨hc,(hX6 zaQ zav zaN zbj iv7 hv7 y7.to (w64 (zat+y7.length)) (w64 (kv7 - (1:Int))) za7 (⟨(zaF.len+1),(zg8 zaF.len zaF.get (fun _=>y7))⟩:Sl step) (fun i=>zaf (zaN.get i)) rfl (fun i=>zae (hv7.get i)) rfl (fun i=>zaH (za7.get i)) rfl (appG zaF.len (fun i=>zaf (zaF.get i)) (fun _=>(zaf y7))) (zkN (enc:=zaf) (f:=zaF.get) (h:=(fun _=>y7)) rfl rfl) hs hk)⟩))
 (fun hs hk=>(hX7 zaQ zav zaN zbj iv7 hv7 zcK zat kv7 za7 zaF (fun i=>zaf (zaN.get i)) rfl (fun i=>zae (hv7.get i)) rfl (fun i=>zaH (za7.get i)) rfl (fun i=>zaf (zaF.get i)) rfl hs hk)) hs hk)⟩)⟩))
 (fun hs hk=>(hX7 zaQ zav zaN zbj iv7 hv7 zcK zat kv7 za7 zaF (fun i=>zaf (zaN.get i)) rfl (fun i=>zae (hv7.get i)) rfl (fun i=>zaH (za7.get i)) rfl (fun i=>zaf (zaF.get i)) rfl hs hk)) hs hk)⟩)⟩))
 (fun hs hk=>(hX7 zaQ zav zaN zbj iv7 hv7 zcK zat kv7 za7 zaF (fun i=>zaf (zaN.get i)) rfl (fun i=>zae (hv7.get i)) rfl (fun i=>zaH (za7.get i)) rfl (fun i=>zaf (zaF.get i)) rfl hs hk)) hs hk))
 (fun hs hk=>(hX7 zaQ zav zaN zbj iv7 hv7 zcK zat kv7 za7 zaF (fun i=>zaf (zaN.get i)) rfl (fun i=>zae (hv7.get i)) rfl (fun i=>zaH (za7.get i)) rfl (fun i=>zaf (zaF.get i)) rfl hs hk)) hs hk)
  exact key _ zaQ zav zaN zbj iv7 hv7 zcK zat kv7 za7 zaF zb8 zgC zfz zvG zcL ziI zb9 zgD hs hk
def zru (S5:Int→Bool→(Sl step)→Int→(Sl (Sl Tab))→(Sl step)) (w:web) (zas:(Sl (Sl Tab))) (S6:Int→Bool→(Sl step)→Int→Int→(Sl Tab)→Int→Int→Int→(Sl (Sl Tab))→(Sl step)→(Sl step)) (zba:Int) (zaE:Bool) (zaV:(Sl step)) (zbW:Int) (iv6:Int) (hv6:(Sl Tab)) (zdp:Int) (zaJ:Int) (kv6:Int) (zbP:(Sl (Sl Tab))) (zaY:(Sl step)):(Sl step) :=
  (cond (decide (kv6 ≥ (0:Int)))
 (zyb S5 S6 w zas zba zaE zaV zbW iv6 hv6 zdp zaJ kv6 zbP zaY)
 (cond zaE
 (znZ S5 w zas zba zaE zaV zbW true zbP zaY)
 (znZ S5 w zas zba zaE zaV zbW (decide ((zHG zaY zaV) < (0:Int))) zbP zaY)))
def zrv (P5:Int→Bool→(Sl step)→Int→(Sl (Sl Tab))→Bool) (w:web) (zas:(Sl (Sl Tab))) (P6:Int→Bool→(Sl step)→Int→Int→(Sl Tab)→Int→Int→Int→(Sl (Sl Tab))→(Sl step)→Bool) (zba:Int) (zaE:Bool) (zaV:(Sl step)) (zbW:Int) (iv6:Int) (hv6:(Sl Tab)) (zdp:Int) (zaJ:Int) (kv6:Int) (zbP:(Sl (Sl Tab))) (zaY:(Sl step)):Bool :=
  (cond (decide (kv6 ≥ (0:Int)))
 (zrt P5 P6 w zas zba zaE zaV zbW iv6 hv6 zdp zaJ kv6 zbP zaY)
 (decide ((zaE=true∨zaV.len ≠ 0)) &&
 (cond zaE
 (zn0 P5 w zas zba zaE zaV zbW true zbP zaY)
 (decide ((zKF zaY zaV=true)) &&
 (zn0 P5 w zas zba zaE zaV zbW (decide ((zHG zaY zaV) < (0:Int))) zbP zaY)))))
def zlc (S5 : Int → Bool → (Sl step) → Int → (Sl (Sl Tab)) → (Sl step)) (w : web) (zas : (Sl (Sl Tab))) : Nat → Int → Bool → (Sl step) → Int → Int → (Sl Tab) → Int → Int → Int → (Sl (Sl Tab)) → (Sl step) → (Sl step)
  | 0=>fun _ _ _ _ _ _ _ _ _ _ _=>default
  | k+1=>zru S5 w zas (zlc S5 w zas k)
def zld (P5 : Int → Bool → (Sl step) → Int → (Sl (Sl Tab)) → Bool) (w : web) (zas : (Sl (Sl Tab))) : Nat → Int → Bool → (Sl step) → Int → Int → (Sl Tab) → Int → Int → Int → (Sl (Sl Tab)) → (Sl step) → Bool
  | 0=>fun _ _ _ _ _ _ _ _ _ _ _=>false
  | k+1=>zrv P5 w zas (zld P5 w zas k)
def zyc (S5:Int→Bool→(Sl step)→Int→(Sl (Sl Tab))→(Sl step)) (w:web) (zas:(Sl (Sl Tab))) (zba:Int) (zaE:Bool) (zaV:(Sl step)) (zbW:Int) (iv6:Int) (hv6:(Sl Tab)) (zdp:Int) (zaJ:Int) (kv6:Int) (zbP:(Sl (Sl Tab))) (zaY:(Sl step)):(Sl step):=zlc S5 w zas Fuel zba zaE zaV zbW iv6 hv6 zdp zaJ kv6 zbP zaY
def zyd (P5:Int→Bool→(Sl step)→Int→(Sl (Sl Tab))→Bool) (w:web) (zas:(Sl (Sl Tab))) (zba:Int) (zaE:Bool) (zaV:(Sl step)) (zbW:Int) (iv6:Int) (hv6:(Sl Tab)) (zdp:Int) (zaJ:Int) (kv6:Int) (zbP:(Sl (Sl Tab))) (zaY:(Sl step)):Bool:=zld P5 w zas Fuel zba zaE zaV zbW iv6 hv6 zdp zaJ kv6 zbP zaY
theorem zEV (K : List PA → Prop) (w : web) (zas : (Sl (Sl Tab)))
  (X5:St→Prop) (P5:Int→Bool→(Sl step)→Int→(Sl (Sl Tab))→Bool) (S5:Int→Bool→(Sl step)→Int→(Sl (Sl Tab))→(Sl step))
  (hX5:∀ (zaU:Int) (zaG:Bool) (zaX:(Sl step)) (za0:Int) (zbk:(Sl (Sl Tab))) (zbs:Nat→List PV) (zeF:zbs=fun i=>zaf (zaX.get i)) (zbS:Nat→List PV) (zf2:zbS=fun i=>zaH (zbk.get i)),P5 zaU zaG zaX za0 zbk=true→K (e89 (S5 zaU zaG zaX za0 zbk))→X5 (zfq w zas zaU zaG zaX.len zbs za0 zbk.len zbS)) (zba:Int) (zaE:Bool) (zaV:(Sl step)) (zbW:Int) (iv6:Int) (hv6:(Sl Tab)) (zdp:Int) (zaJ:Int) (kv6:Int) (zbP:(Sl (Sl Tab))) (zaY:(Sl step)) (zbV:Nat→List PV) (zgA:zbV=fun i=>zaf (zaV.get i)) (zeI:Nat→List PV) (zvF:zeI=fun i=>zae (hv6.get i)) (zci:Nat→List PV) (ziH:zci=fun i=>zaH (zbP.get i)) (zbX:Nat→List PV) (zgB:zbX=fun i=>zaf (zaY.get i)) (hs:zyd P5 w zas zba zaE zaV zbW iv6 hv6 zdp zaJ kv6 zbP zaY=true) (hk:K (e89 (zyc S5 w zas zba zaE zaV zbW iv6 hv6 zdp zaJ kv6 zbP zaY))):zk7 K X5 w zas zba zaE zaV.len zbV zbW iv6 hv6.len zeI zdp zaJ kv6 zbP.len zci zaY.len zbX:=by
  refine zx8 K X5 w zas zba zaE zaV.len zbV zbW iv6 hv6.len zeI zdp zaJ kv6 zbP.len zci zaY.len zbX ?_
  intro X6 hstep
  have key:∀ (k:Nat) (zba:Int) (zaE:Bool) (zaV:(Sl step)) (zbW:Int) (iv6:Int) (hv6:(Sl Tab)) (zdp:Int) (zaJ:Int) (kv6:Int) (zbP:(Sl (Sl Tab))) (zaY:(Sl step)) (zbV:Nat→List PV) (zgA:zbV=fun i=>zaf (zaV.get i)) (zeI:Nat→List PV) (zvF:zeI=fun i=>zae (hv6.get i)) (zci:Nat→List PV) (ziH:zci=fun i=>zaH (zbP.get i)) (zbX:Nat→List PV) (zgB:zbX=fun i=>zaf (zaY.get i)),zld P5 w zas k zba zaE zaV zbW iv6 hv6 zdp zaJ kv6 zbP zaY=true→K (e89 (zlc S5 w zas k zba zaE zaV zbW iv6 hv6 zdp zaJ kv6 zbP zaY))→X6 (zh4 w zas zba zaE zaV.len zbV zbW iv6 hv6.len zeI zdp zaJ kv6 zbP.len zci zaY.len zbX):=by
    intro k
    induction k with
    | zero=>intro zba zaE zaV zbW iv6 hv6 zdp zaJ kv6 zbP zaY zbV zgA zeI zvF zci ziH zbX zgB hs;exact absurd hs Bool.false_ne_true
    | succ k ih =>
      intro zba zaE zaV zbW iv6 hv6 zdp zaJ kv6 zbP zaY zbV zgA zeI zvF zci ziH zbX zgB hs hk
      subst zgA
      subst zvF
      subst ziH
      subst zgB
      refine hstep zba zaE zaV zbW iv6 hv6 zdp zaJ kv6 zbP zaY ?_
      have hs:zrv P5 w zas (zld P5 w zas k) zba zaE zaV zbW iv6 hv6 zdp zaJ kv6 zbP zaY=true:=hs
      have hk:K (e89 (zru S5 w zas (zlc S5 w zas k) zba zaE zaV zbW iv6 hv6 zdp zaJ kv6 zbP zaY)):=hk
      unfold zrv at hs
      unfold zru at hk
      generalize zlc S5 w zas k=S6 at hk ih
      generalize zld P5 w zas k=P6 at hs ih
      have hX6:=ih
      exact (zaZ (K := fun r => K (e89 r))
 (fun hs hk=>⟨⟨isE,rfl⟩,(zEU K w zas X5 P5 S5 hX5 X6 P6 S6 hX6 zba zaE zaV zbW iv6 hv6 zdp zaJ kv6 zbP zaY (fun i=>zaf (zaV.get i)) rfl (fun i=>zae (hv6.get i)) rfl (fun i=>zaH (zbP.get i)) rfl (fun i=>zaf (zaY.get i)) rfl hs hk)⟩)
 (fun hs hk => (za2 hs fun hc hs => ⟨hc, (zaZ (K := fun r => K (e89 r))
 (fun hs hk=>(zya K w zas X5 P5 S5 hX5 zba zaE zaV zbW true zbP zaY (fun i=>zaf (zaV.get i)) rfl (fun i=>zaH (zbP.get i)) rfl (fun i=>zaf (zaY.get i)) rfl hs hk))
 (fun hs hk=>(za2 hs fun hc hs=>⟨⟨isE,isE,hc⟩,(zya K w zas X5 P5 S5 hX5 zba zaE zaV zbW (decide ((zHG zaY zaV) < (0:Int))) zbP zaY (fun i=>zaf (zaV.get i)) rfl (fun i=>zaH (zbP.get i)) rfl (fun i=>zaf (zaY.get i)) rfl hs hk)⟩)) hs hk)⟩)) hs hk)
  exact key _ zba zaE zaV zbW iv6 hv6 zdp zaJ kv6 zbP zaY zbV zgA zeI zvF zci ziH zbX zgB hs hk
def zrx (w:web) (zas:(Sl (Sl Tab))) (S5:Int→Bool→(Sl step)→Int→(Sl (Sl Tab))→(Sl step)) (zaU:Int) (zaG:Bool) (zaX:(Sl step)) (za0:Int) (zbk:(Sl (Sl Tab))):(Sl step) :=
  (cond (decide (za0 < (zas.len : Int)))
 (cond (decide ((tL ((zbk.get za0.toNat).get zaU.toNat) za0) ≥ (0:Int)))
 (S5 zaU zaG zaX (w64 (za0+(1:Int))) zbk)
 (zyc S5 w zas zaU zaG zaX za0 za0 (zbk.get za0.toNat) za0 (0:Int) (w64 (zaU - (1:Int))) zbk (⟨0,(fun _=>default)⟩:Sl step)))
 zaX)
def zry (w:web) (zas:(Sl (Sl Tab))) (P5:Int→Bool→(Sl step)→Int→(Sl (Sl Tab))→Bool) (zaU:Int) (zaG:Bool) (zaX:(Sl step)) (za0:Int) (zbk:(Sl (Sl Tab))):Bool :=
  (cond (decide (za0 < (zas.len : Int)))
 (decide ((0≤za0∧za0 < (zbk.len:Int))) &&
 (decide ((za0.toNat < zbk.len)) &&
 (decide ((0≤zaU∧zaU < ((zbk.get za0.toNat).len:Int))) &&
 (decide ((0≤za0∧za0 < (40:Int))) &&
 (cond (decide ((tL ((zbk.get za0.toNat).get zaU.toNat) za0) ≥ (0:Int)))
 (P5 zaU zaG zaX (w64 (za0+(1:Int))) zbk)
 (zyd P5 w zas zaU zaG zaX za0 za0 (zbk.get za0.toNat) za0 (0:Int) (w64 (zaU - (1:Int))) zbk (⟨0,(fun _=>default)⟩:Sl step)))))))
 true)
def zle (w : web) (zas : (Sl (Sl Tab))) : Nat → Int → Bool → (Sl step) → Int → (Sl (Sl Tab)) → (Sl step)
  | 0=>fun _ _ _ _ _=>default
  | k+1=>zrx w zas (zle w zas k)
def zlf (w : web) (zas : (Sl (Sl Tab))) : Nat → Int → Bool → (Sl step) → Int → (Sl (Sl Tab)) → Bool
  | 0=>fun _ _ _ _ _=>false
  | k+1=>zry w zas (zlf w zas k)
def zye (w:web) (zas:(Sl (Sl Tab))) (zaU:Int) (zaG:Bool) (zaX:(Sl step)) (za0:Int) (zbk:(Sl (Sl Tab))):(Sl step):=zle w zas Fuel zaU zaG zaX za0 zbk
def zyf (w:web) (zas:(Sl (Sl Tab))) (zaU:Int) (zaG:Bool) (zaX:(Sl step)) (za0:Int) (zbk:(Sl (Sl Tab))):Bool:=zlf w zas Fuel zaU zaG zaX za0 zbk
theorem zEW (K:List PA→Prop) (w:web) (zas:(Sl (Sl Tab))) (zaU:Int) (zaG:Bool) (zaX:(Sl step)) (za0:Int) (zbk:(Sl (Sl Tab))) (zbs:Nat→List PV) (zeF:zbs=fun i=>zaf (zaX.get i)) (zbS:Nat→List PV) (zf2:zbS=fun i=>zaH (zbk.get i)) (hs:zyf w zas zaU zaG zaX za0 zbk=true) (hk:K (e89 (zye w zas zaU zaG zaX za0 zbk))):zk6 K w zas zaU zaG zaX.len zbs za0 zbk.len zbS:=by
  refine zx7 K w zas zaU zaG zaX.len zbs za0 zbk.len zbS ?_
  intro X5 hstep
  have key:∀ (k:Nat) (zaU:Int) (zaG:Bool) (zaX:(Sl step)) (za0:Int) (zbk:(Sl (Sl Tab))) (zbs:Nat→List PV) (zeF:zbs=fun i=>zaf (zaX.get i)) (zbS:Nat→List PV) (zf2:zbS=fun i=>zaH (zbk.get i)),zlf w zas k zaU zaG zaX za0 zbk=true→K (e89 (zle w zas k zaU zaG zaX za0 zbk))→X5 (zfq w zas zaU zaG zaX.len zbs za0 zbk.len zbS):=by
    intro k
    induction k with
    | zero=>intro zaU zaG zaX za0 zbk zbs zeF zbS zf2 hs;exact absurd hs Bool.false_ne_true
    | succ k ih =>
      intro zaU zaG zaX za0 zbk zbs zeF zbS zf2 hs hk
      subst zeF
      subst zf2
      refine hstep zaU zaG zaX za0 zbk ?_
      have hs:zry w zas (zlf w zas k) zaU zaG zaX za0 zbk=true:=hs
      have hk:K (e89 (zrx w zas (zle w zas k) zaU zaG zaX za0 zbk)):=hk
      unfold zry at hs
      unfold zrx at hk
      generalize zle w zas k=S5 at hk ih
      generalize zlf w zas k=P5 at hs ih
      have hX5:=ih
      exact (zaZ (K := fun r => K (e89 r))
 (fun hs hk => (za2 hs fun hc hs => ⟨hc, (za2 hs fun hc hs => ⟨hc, (za2 hs fun hc hs => ⟨hc, (za2 hs fun hc hs => ⟨hc, (zaZ (K := fun r => K (e89 r))
 (fun hs hk=>(hX5 zaU zaG zaX (w64 (za0+(1:Int))) zbk (fun i=>zaf (zaX.get i)) rfl (fun i=>zaH (zbk.get i)) rfl hs hk))
 (fun hs hk=>(zEV K w zas X5 P5 S5 hX5 zaU zaG zaX za0 za0 (zbk.get za0.toNat) za0 (0:Int) (w64 (zaU - (1:Int))) zbk (⟨0,(fun _=>default)⟩:Sl step) (fun i=>zaf (zaX.get i)) rfl (fun i=>zae ((zbk.get za0.toNat).get i)) rfl (fun i=>zaH (zbk.get i)) rfl (fun i=>zaf ((fun _=>default) i)) rfl hs hk)) hs hk)⟩)⟩)⟩)⟩))
 (fun hs hk=>hk) hs hk)
  exact key _ zaU zaG zaX za0 zbk zbs zeF zbS zf2 hs hk
def zn1 (w:web) (zdK:Int) (zas:(Sl (Sl Tab))):(Sl step) :=
  (zye w zas zdK true (⟨0,(fun _=>default)⟩:Sl step) (0:Int) zas)
def zn2 (w:web) (zdK:Int) (zas:(Sl (Sl Tab))):Bool :=
  (zyf w zas zdK true (⟨0,(fun _=>default)⟩:Sl step) (0:Int) zas)
theorem zyg (K:List PA→Prop) (w:web) (zdK:Int) (zas:(Sl (Sl Tab))) (ziF:Nat→List PV) (zEX:ziF=fun i=>zaH (zas.get i)) (hs:zn2 w zdK zas=true) (hk:K (e89 (zn1 w zdK zas))):zk5 K w zdK zas.len ziF:=by
  subst zEX
  refine zbd (zER K w zdK zas) ?_
  unfold zn2 at hs
  unfold zn1 at hk
  exact (zEW K w zas zdK true (⟨0,(fun _=>default)⟩:Sl step) (0:Int) zas (fun i=>zaf ((fun _=>default) i)) rfl (fun i=>zaH (zas.get i)) rfl hs hk)
def zrz (S2:Int→(Sl step)) (w:web) (zaM:(Sl (Sl Tab))) (S3:Int→Int→(Sl step)) (za6:Int) (zbE:Int):(Sl step) :=
  (cond (decide (zbE < (zaM.len : Int)))
 (cond (decide ((tL ((zaM.get zbE.toNat).get za6.toNat) zbE) < (0:Int)))
 (zn1 w za6 zaM)
 (S3 za6 (w64 (zbE+(1:Int)))))
 (S2 (w64 (za6+(1:Int)))))
def zrA (P2:Int→Bool) (w:web) (zaM:(Sl (Sl Tab))) (P3:Int→Int→Bool) (za6:Int) (zbE:Int):Bool :=
  (cond (decide (zbE < (zaM.len : Int)))
 (decide ((0≤zbE∧zbE < (zaM.len:Int))) &&
 (decide ((zbE.toNat < zaM.len)) &&
 (decide ((0≤za6∧za6 < ((zaM.get zbE.toNat).len:Int))) &&
 (decide ((0≤zbE∧zbE < (40:Int))) &&
 (cond (decide ((tL ((zaM.get zbE.toNat).get za6.toNat) zbE) < (0:Int)))
 (zn2 w za6 zaM)
 (P3 za6 (w64 (zbE+(1:Int)))))))))
 (P2 (w64 (za6+(1:Int)))))
def zlg (S2 : Int → (Sl step)) (w : web) (zaM : (Sl (Sl Tab))) : Nat → Int → Int → (Sl step)
  | 0=>fun _ _=>default
  | k+1=>zrz S2 w zaM (zlg S2 w zaM k)
def zlh (P2 : Int → Bool) (w : web) (zaM : (Sl (Sl Tab))) : Nat → Int → Int → Bool
  | 0=>fun _ _=>false
  | k+1=>zrA P2 w zaM (zlh P2 w zaM k)
def zyh (S2:Int→(Sl step)) (w:web) (zaM:(Sl (Sl Tab))) (za6:Int) (zbE:Int):(Sl step):=zlg S2 w zaM Fuel za6 zbE
def zyi (P2:Int→Bool) (w:web) (zaM:(Sl (Sl Tab))) (za6:Int) (zbE:Int):Bool:=zlh P2 w zaM Fuel za6 zbE
theorem zEY (K : List PA → Prop) (w : web) (zaM : (Sl (Sl Tab)))
  (X2:St→Prop) (P2:Int→Bool) (S2:Int→(Sl step))
  (hX2:∀ (zbc:Int),P2 zbc=true→K (e89 (S2 zbc))→X2 (zjn w zaM zbc)) (za6:Int) (zbE:Int) (hs:zyi P2 w zaM za6 zbE=true) (hk:K (e89 (zyh S2 w zaM za6 zbE))):zk4 K X2 w zaM za6 zbE:=by
  refine zx6 K X2 w zaM za6 zbE ?_
  intro X3 hstep
  have key:∀ (k:Nat) (za6:Int) (zbE:Int),zlh P2 w zaM k za6 zbE=true→K (e89 (zlg S2 w zaM k za6 zbE))→X3 (zk3 w zaM za6 zbE):=by
    intro k
    induction k with
    | zero=>intro za6 zbE hs;exact absurd hs Bool.false_ne_true
    | succ k ih =>
      intro za6 zbE hs hk
      refine hstep za6 zbE ?_
      have hs:zrA P2 w zaM (zlh P2 w zaM k) za6 zbE=true:=hs
      have hk:K (e89 (zrz S2 w zaM (zlg S2 w zaM k) za6 zbE)):=hk
      unfold zrA at hs
      unfold zrz at hk
      generalize zlg S2 w zaM k=S3 at hk ih
      generalize zlh P2 w zaM k=P3 at hs ih
      have hX3:=ih
      exact (zaZ (K := fun r => K (e89 r))
 (fun hs hk => (za2 hs fun hc hs => ⟨hc, (za2 hs fun hc hs => ⟨hc, (za2 hs fun hc hs => ⟨hc, (za2 hs fun hc hs => ⟨hc, (zaZ (K := fun r => K (e89 r))
 (fun hs hk=>(zyg K w za6 zaM (fun i=>zaH (zaM.get i)) rfl hs hk))
 (fun hs hk=>(hX3 za6 (w64 (zbE+(1:Int))) hs hk)) hs hk)⟩)⟩)⟩)⟩))
 (fun hs hk=>(hX2 (w64 (za6+(1:Int))) hs hk)) hs hk)
  exact key _ za6 zbE hs hk
def zrB (w:web) (zaM:(Sl (Sl Tab))) (S2:Int→(Sl step)) (zbc:Int):(Sl step) :=
  (cond (decide (zbc < w.Net.Nodes))
 (zyh S2 w zaM zbc (0:Int))
 (zn1 w zbc zaM))
def zrC (w:web) (zaM:(Sl (Sl Tab))) (P2:Int→Bool) (zbc:Int):Bool :=
  (cond (decide (zbc < w.Net.Nodes))
 (zyi P2 w zaM zbc (0:Int))
 (zn2 w zbc zaM))
def zli (w : web) (zaM : (Sl (Sl Tab))) : Nat → Int → (Sl step)
  | 0=>fun _=>default
  | k+1=>zrB w zaM (zli w zaM k)
def zlj (w : web) (zaM : (Sl (Sl Tab))) : Nat → Int → Bool
  | 0=>fun _=>false
  | k+1=>zrC w zaM (zlj w zaM k)
def zyj (w:web) (zaM:(Sl (Sl Tab))) (zbc:Int):(Sl step):=zli w zaM Fuel zbc
def zyk (w:web) (zaM:(Sl (Sl Tab))) (zbc:Int):Bool:=zlj w zaM Fuel zbc
theorem zEZ (K:List PA→Prop) (w:web) (zaM:(Sl (Sl Tab))) (zbc:Int) (hs:zyk w zaM zbc=true) (hk:K (e89 (zyj w zaM zbc))):zk2 K w zaM zbc:=by
  refine zx5 K w zaM zbc ?_
  intro X2 hstep
  have key:∀ (k:Nat) (zbc:Int),zlj w zaM k zbc=true→K (e89 (zli w zaM k zbc))→X2 (zjn w zaM zbc):=by
    intro k
    induction k with
    | zero=>intro zbc hs;exact absurd hs Bool.false_ne_true
    | succ k ih =>
      intro zbc hs hk
      refine hstep zbc ?_
      have hs:zrC w zaM (zlj w zaM k) zbc=true:=hs
      have hk:K (e89 (zrB w zaM (zli w zaM k) zbc)):=hk
      unfold zrC at hs
      unfold zrB at hk
      generalize zli w zaM k=S2 at hk ih
      generalize zlj w zaM k=P2 at hs ih
      have hX2:=ih
      exact (zaZ (K := fun r => K (e89 r))
 (fun hs hk=>(zEY K w zaM X2 P2 S2 hX2 zbc (0:Int) hs hk))
 (fun hs hk=>(zyg K w zbc zaM (fun i=>zaH (zaM.get i)) rfl hs hk)) hs hk)
  exact key _ zbc hs hk
def zrD (w:web) (zaM:(Sl (Sl Tab))):(Sl step) :=
  (zyj w zaM (1:Int))
def zrE (w:web) (zaM:(Sl (Sl Tab))):Bool :=
  (zyk w zaM (1:Int))
theorem zE0 (K:List PA→Prop) (w:web) (zaM:(Sl (Sl Tab))) (ziE:Nat→List PV) (zE1:ziE=fun i=>zaH (zaM.get i)) (hs:zrE w zaM=true) (hk:K (e89 (zrD w zaM))):znW K w zaM.len ziE:=by
  subst zE1
  refine zbd (zEQ K w zaM) ?_
  unfold zrE at hs
  unfold zrD at hk
  exact (zEZ K w zaM (1:Int) hs hk)
def zrF (w:web) (S0:Int→(Sl (Sl Tab))→(Sl step)) (zbx:Int) (zb1:(Sl (Sl Tab))):(Sl step) :=
  (cond (decide (zbx < (w.Net.Nodes.toNat : Int)))
 (S0 (w64 (zbx+(1:Int))) (⟨zb1.len,(setT zbx.toNat (zxO w zbx w.Net.Nodes) zb1.get)⟩:Sl (Sl Tab)))
 (zrD w zb1))
def zrG (w:web) (P0:Int→(Sl (Sl Tab))→Bool) (zbx:Int) (zb1:(Sl (Sl Tab))):Bool :=
  (cond (decide (zbx < (w.Net.Nodes.toNat : Int)))
 (decide ((zIM w zbx w.Net.Nodes=true)) &&
 (decide ((0≤zbx∧zbx < (zb1.len:Int))) &&
 (decide ((zbx.toNat < zb1.len)) &&
 (P0 (w64 (zbx+(1:Int))) (⟨zb1.len,(setT zbx.toNat (zxO w zbx w.Net.Nodes) zb1.get)⟩:Sl (Sl Tab))))))
 (zrE w zb1))
def zlk (w : web) : Nat → Int → (Sl (Sl Tab)) → (Sl step)
  | 0=>fun _ _=>default
  | k+1=>zrF w (zlk w k)
def zll (w : web) : Nat → Int → (Sl (Sl Tab)) → Bool
  | 0=>fun _ _=>false
  | k+1=>zrG w (zll w k)
def zyl (w:web) (zbx:Int) (zb1:(Sl (Sl Tab))):(Sl step):=zlk w Fuel zbx zb1
def zym (w:web) (zbx:Int) (zb1:(Sl (Sl Tab))):Bool:=zll w Fuel zbx zb1
theorem zE2 (K:List PA→Prop) (w:web) (zbx:Int) (zb1:(Sl (Sl Tab))) (zcJ:Nat→List PV) (zlm:zcJ=fun i=>zaH (zb1.get i)) (hs:zym w zbx zb1=true) (hk:K (e89 (zyl w zbx zb1))):zk1 K w zbx zb1.len zcJ:=by
  refine zx4 K w zbx zb1.len zcJ ?_
  intro X0 hstep
  have key:∀ (k:Nat) (zbx:Int) (zb1:(Sl (Sl Tab))) (zcJ:Nat→List PV) (zlm:zcJ=fun i=>zaH (zb1.get i)),zll w k zbx zb1=true→K (e89 (zlk w k zbx zb1))→X0 (zk0 w zbx zb1.len zcJ):=by
    intro k
    induction k with
    | zero=>intro zbx zb1 zcJ zlm hs;exact absurd hs Bool.false_ne_true
    | succ k ih =>
      intro zbx zb1 zcJ zlm hs hk
      subst zlm
      refine hstep zbx zb1 ?_
      have hs:zrG w (zll w k) zbx zb1=true:=hs
      have hk:K (e89 (zrF w (zlk w k) zbx zb1)):=hk
      unfold zrG at hs
      unfold zrF at hk
      generalize zlk w k=S0 at hk ih
      generalize zll w k=P0 at hs ih
      have hX0:=ih
      exact (zaZ (K := fun r => K (e89 r))
 (fun hs hk=>(za2 hs fun hc hs=>⟨⟨isE,rfl,hc⟩,(za2 hs fun hc hs=>⟨hc,(za2 hs fun hc hs=>⟨hc,(hX0 (w64 (zbx+(1:Int))) (⟨zb1.len,(setT zbx.toNat (zxO w zbx w.Net.Nodes) zb1.get)⟩:Sl (Sl Tab)) (zjx zbx.toNat 0 (fun i=>zaH (zb1.get i)) (zaH (zxO w zbx w.Net.Nodes))) (zmE (enc:=zaH) (i:=zbx.toNat) (k:=0) (f:=zb1.get) (new:=(zaH (zxO w zbx w.Net.Nodes))) (v:=(zxO w zbx w.Net.Nodes)) rfl rfl) hs hk)⟩)⟩)⟩))
 (fun hs hk=>(zE0 K w zb1 (fun i=>zaH (zb1.get i)) rfl hs hk)) hs hk)
  exact key _ zbx zb1 zcJ zlm hs hk
def s89 (w:web):(Sl step) :=
  (zyl w (0:Int) (⟨w.Net.Nodes.toNat,(fun _=>(⟨0,fun _=>(fun _=>(0:Int))⟩:(Sl Tab)))⟩:Sl (Sl Tab)))
def p89 (w:web):Bool :=
  (decide ((0≤w.Net.Nodes∧w.Net.Nodes=w.Net.Nodes∧w.Net.Nodes≤1000000)) &&
 (zym w (0:Int) (⟨w.Net.Nodes.toNat,(fun _=>(⟨0,fun _=>(fun _=>(0:Int))⟩:(Sl Tab)))⟩:Sl (Sl Tab))))
theorem q89 (w:web) (K:List PA→Prop) (hs:p89 w=true) (hk:K (e89 (s89 w))):vcFun Tryd.prog G89 zaW 89 [.one (.fp (zaD w) 0)] K:=by
  refine zbd (zEP w K) ?_
  unfold p89 at hs
  unfold s89 at hk
  exact (za2 hs fun hc hs=>⟨hc,(zE2 K w (0:Int) (⟨w.Net.Nodes.toNat,(fun _=>(⟨0,fun _=>(fun _=>(0:Int))⟩:(Sl Tab)))⟩:Sl (Sl Tab)) (fun _=>(zaH (⟨0,fun _=>(fun _=>(0:Int))⟩:(Sl Tab)))) rfl hs hk)⟩)
def zCh : List PA → COut
  | [.one (.fp [.int .i64 zau,.sl zan zaP zao,.fm zbK zaR zaS] 0)]=>.det (IsE enc_40 4 zaP zao∧zbK=(false,1,false,[none])∧p89 (⟨(⟨zau,(⟨zan,zal zao⟩:(Sl Tie))⟩:Net),(⟨zaR,zaS⟩:Mp)⟩:web)=true) [.one (.sl ((s89 (⟨(⟨zau,(⟨zan,zal zao⟩:(Sl Tie))⟩:Net),(⟨zaR,zaS⟩:Mp)⟩:web)).len) 5 (fun i=>zaf ((s89 (⟨(⟨zau,(⟨zan,zal zao⟩:(Sl Tie))⟩:Net),(⟨zaR,zaS⟩:Mp)⟩:web)).get i)))]
  | _=>.no
theorem zIZ:zaw Tryd.prog 89:=⟨_,rfl,rfl,by kernel_rfl⟩
theorem zMB:Ok Tryd.prog 89 zCh:=zbF zLo zIZ fun args K h=>by
  unfold zCh at h
  split at h
  · rename_i zau zan zaP zao zbK zaR zaS
    obtain ⟨⟨⟨rfl,zaC,rfl⟩,rfl,hs⟩,hk⟩:=h
    try rw [zam zaC] at hs
    try rw [zam zaC] at hk
    exact ⟨(fun _ _=>[]),(fun _=>false),zaW,q89 (⟨(⟨zau,(⟨zan,zaC⟩:(Sl Tie))⟩:Net),(⟨zaR,zaS⟩:Mp)⟩:web) K hs hk⟩
  · exact h.elim
end Go.Proofs
/-
  DERIVED: THE SHELF's CONTRACTS AT THIS DUMP,IN PLAIN WORDS (tools/lay-plain.mjs out of 'YtedhjaaikeakoaaDoorPmLk.lean',which tools/lay-shelf.mjs wrote): THE SAME DECLARATIONS UNDER THE SAME NAMES: 'import','namespace','open','def','theorem' AND NOTHING ELSE: no command of the shelf's: FOR A HAND-IN. Each laying: the table of numbers ('.._ren') and one theorem,a field a fact of the dump's own or the kernel's comparison;each contract: ONE APPLICATION.
-/
namespace Go.Proofs
open Go.Shelf
def Tryd.keysA_ren:Go.Shelf.Ren:=⟨fun | 7=>103 | 10=>117 | n=>n,fun | 23=>103 | 26=>3 | 3=>4 | 28=>152 | 0=>0 | 27=>151 | 33=>169 | 4=>4 | n=>n,fun | n=>n⟩
theorem Tryd.keysA : Go.Proofs.SlLaysZI.n7 Tryd.prog Tryd.keysA_ren := {
  mixed:=by kernel_rfl
  f7:=⟨Tryd.f103.name,by decide,Tryd.func103.trans (congrArg some (by kernel_rfl))⟩
  f10:=⟨Tryd.f117.name,by decide,Tryd.func117.trans (congrArg some (by kernel_rfl))⟩
  t0:=Tryd.underlying0
  a0:=Tryd.isAgg0
  z0:=Tryd.sizeOf0
  v0:=Tryd.zeroValue0
  t4:=Tryd.underlying4
  a4:=Tryd.isAgg4
  z4:=Tryd.sizeOf4
  v4:=Tryd.zeroValue4
  t23:=Tryd.underlying103
  a23:=Tryd.isAgg103
  z23:=Tryd.sizeOf103
  v23:=Tryd.zeroValue103
  t26:=Tryd.underlying3
  a26:=Tryd.isAgg3
  z26:=Tryd.sizeOf3
  v26:=Tryd.zeroValue3
  t27:=Tryd.underlying151
  a27:=Tryd.isAgg151
  z27:=Tryd.sizeOf151
  v27:=Tryd.zeroValue151
  t28:=Tryd.underlying152
  a28:=Tryd.isAgg152
  z28:=Tryd.sizeOf152
  v28:=Tryd.zeroValue152
  t33:=Tryd.underlying169
  a33:=Tryd.isAgg169
  z33:=Tryd.sizeOf169
  v33:=Tryd.zeroValue169 }
def Tryd.sortedA_ren:Go.Shelf.Ren:=⟨fun | 6=>102 | 8=>115 | 9=>116 | 11=>129 | 13=>113 | 12=>130 | 23=>127 | 24=>128 | 14=>136 | 15=>137 | 16=>138 | 17=>139 | 18=>140 | 19=>141 | 20=>142 | 21=>143 | 22=>144 | 25=>146 | 26=>132 | 27=>133 | 28=>147 | 29=>148 | 30=>114 | 31=>149 | n=>n,fun | 26=>3 | 28=>152 | 24=>27 | 0=>0 | 3=>3 | 37=>168 | 48=>182 | 50=>184 | 4=>4 | 40=>175 | 39=>174 | 45=>179 | 5=>5 | 9=>9 | 51=>187 | 55=>191 | 57=>199 | 58=>200 | 33=>169 | n=>n,fun | n=>n⟩
theorem Tryd.sortedA : Go.Proofs.SlLaysZI.n6 Tryd.prog Tryd.sortedA_ren := {
  mixed:=by kernel_rfl
  f6:=⟨Tryd.f102.name,by decide,Tryd.func102.trans (congrArg some (by kernel_rfl))⟩
  f8:=⟨Tryd.f115.name,by decide,Tryd.func115.trans (congrArg some (by kernel_rfl))⟩
  f11:=⟨Tryd.f129.name,by decide,Tryd.func129.trans (congrArg some (by kernel_rfl))⟩
  t0:=Tryd.underlying0
  a0:=Tryd.isAgg0
  z0:=Tryd.sizeOf0
  v0:=Tryd.zeroValue0
  t24:=Tryd.underlying27
  a24:=Tryd.isAgg27
  z24:=Tryd.sizeOf27
  v24:=Tryd.zeroValue27
  t26:=Tryd.underlying3
  a26:=Tryd.isAgg3
  z26:=Tryd.sizeOf3
  v26:=Tryd.zeroValue3
  t28:=Tryd.underlying152
  a28:=Tryd.isAgg152
  z28:=Tryd.sizeOf152
  v28:=Tryd.zeroValue152
  i26:=by kernel_rfl }
def Tryd.sortA_ren:Go.Shelf.Ren:=⟨fun | 5=>116 | 8=>113 | 7=>130 | 19=>127 | 20=>128 | 10=>136 | 11=>137 | 12=>138 | 13=>139 | 14=>140 | 15=>141 | 16=>142 | 17=>143 | 18=>144 | 30=>146 | 31=>132 | 32=>133 | 33=>147 | 34=>148 | 35=>114 | 40=>149 | n=>n,fun | 23=>27 | 25=>3 | 3=>3 | 32=>168 | 22=>27 | 0=>0 | 44=>182 | 46=>184 | 4=>4 | 36=>175 | 35=>174 | 41=>179 | 5=>5 | 9=>9 | 53=>187 | 57=>191 | 63=>199 | 64=>200 | n=>n,fun | n=>n⟩
theorem Tryd.sortA : Go.Proofs.SlLaysM.n5 Tryd.prog Tryd.sortA_ren := {
  mixed:=by kernel_rfl
  f5:=⟨Tryd.f116.name,by decide,Tryd.func116.trans (congrArg some (by kernel_rfl))⟩
  f7:=⟨Tryd.f130.name,by decide,Tryd.func130.trans (congrArg some (by kernel_rfl))⟩
  f8:=Tryd.func113.trans (congrArg some (by kernel_rfl))
  f10:=⟨Tryd.f136.name,by decide,Tryd.func136.trans (congrArg some (by kernel_rfl))⟩
  f11:=⟨Tryd.f137.name,by decide,Tryd.func137.trans (congrArg some (by kernel_rfl))⟩
  f12:=⟨Tryd.f138.name,by decide,Tryd.func138.trans (congrArg some (by kernel_rfl))⟩
  f13:=⟨Tryd.f139.name,by decide,Tryd.func139.trans (congrArg some (by kernel_rfl))⟩
  f14:=⟨Tryd.f140.name,by decide,Tryd.func140.trans (congrArg some (by kernel_rfl))⟩
  f15:=⟨Tryd.f141.name,by decide,Tryd.func141.trans (congrArg some (by kernel_rfl))⟩
  f16:=⟨Tryd.f142.name,by decide,Tryd.func142.trans (congrArg some (by kernel_rfl))⟩
  f17:=⟨Tryd.f143.name,by decide,Tryd.func143.trans (congrArg some (by kernel_rfl))⟩
  f18:=⟨Tryd.f144.name,by decide,Tryd.func144.trans (congrArg some (by kernel_rfl))⟩
  f19:=Tryd.func127.trans (congrArg some (by kernel_rfl))
  f20:=Tryd.func128.trans (congrArg some (by kernel_rfl))
  f30:=⟨Tryd.f146.name,by decide,Tryd.func146.trans (congrArg some (by kernel_rfl))⟩
  f31:=Tryd.func132.trans (congrArg some (by kernel_rfl))
  f32:=Tryd.func133.trans (congrArg some (by kernel_rfl))
  f33:=⟨Tryd.f147.name,by decide,Tryd.func147.trans (congrArg some (by kernel_rfl))⟩
  f34:=⟨Tryd.f148.name,by decide,Tryd.func148.trans (congrArg some (by kernel_rfl))⟩
  f35:=⟨Tryd.f114.name,by decide,Tryd.func114.trans (congrArg some (by kernel_rfl))⟩
  f40:=⟨Tryd.f149.name,by decide,Tryd.func149.trans (congrArg some (by kernel_rfl))⟩
  t0:=Tryd.underlying0
  a0:=Tryd.isAgg0
  z0:=Tryd.sizeOf0
  v0:=Tryd.zeroValue0
  t3:=Tryd.underlying3
  a3:=Tryd.isAgg3
  z3:=Tryd.sizeOf3
  v3:=Tryd.zeroValue3
  t4:=Tryd.underlying4
  a4:=Tryd.isAgg4
  z4:=Tryd.sizeOf4
  v4:=Tryd.zeroValue4
  t5:=Tryd.underlying5
  a5:=Tryd.isAgg5
  z5:=Tryd.sizeOf5
  v5:=Tryd.zeroValue5
  t9:=Tryd.underlying9
  a9:=Tryd.isAgg9
  z9:=Tryd.sizeOf9
  v9:=Tryd.zeroValue9
  t22:=Tryd.underlying27
  a22:=Tryd.isAgg27
  z22:=Tryd.sizeOf27
  v22:=Tryd.zeroValue27
  t23:=Tryd.underlying27
  a23:=Tryd.isAgg27
  z23:=Tryd.sizeOf27
  v23:=Tryd.zeroValue27
  t25:=Tryd.underlying3
  a25:=Tryd.isAgg3
  z25:=Tryd.sizeOf3
  v25:=Tryd.zeroValue3
  t32:=Tryd.underlying168
  a32:=Tryd.isAgg168
  z32:=Tryd.sizeOf168
  v32:=Tryd.zeroValue168
  t35:=Tryd.underlying174
  a35:=Tryd.isAgg174
  z35:=Tryd.sizeOf174
  v35:=Tryd.zeroValue174
  t36:=Tryd.underlying175
  a36:=Tryd.isAgg175
  z36:=Tryd.sizeOf175
  v36:=Tryd.zeroValue175
  t41:=Tryd.underlying179
  a41:=Tryd.isAgg179
  z41:=Tryd.sizeOf179
  v41:=Tryd.zeroValue179
  t44:=Tryd.underlying182
  a44:=Tryd.isAgg182
  z44:=Tryd.sizeOf182
  v44:=Tryd.zeroValue182
  t46:=Tryd.underlying184
  a46:=Tryd.isAgg184
  z46:=Tryd.sizeOf184
  v46:=Tryd.zeroValue184
  t53:=Tryd.underlying187
  a53:=Tryd.isAgg187
  z53:=Tryd.sizeOf187
  v53:=Tryd.zeroValue187
  t57:=Tryd.underlying191
  a57:=Tryd.isAgg191
  z57:=Tryd.sizeOf191
  v57:=Tryd.zeroValue191
  t63:=Tryd.underlying199
  a63:=Tryd.isAgg199
  z63:=Tryd.sizeOf199
  v63:=Tryd.zeroValue199
  t64:=Tryd.underlying200
  a64:=Tryd.isAgg200
  z64:=Tryd.sizeOf200
  v64:=Tryd.zeroValue200 }
end Go.Proofs
namespace Go.Pm
open Go.RowKit Go.Maps Go.Sort Go.Shelf Go.Proofs
set_option maxRecDepth 100000

theorem zln {F : List Int → Option (List Int)} : ∀ (f : Nat) (i : Int) (n : Nat) (l : List Int), zvT F f i n = some l → l.length = n ∧ (∀ x ∈ l, F [x] ≠ none ∧ i ≤ x ∧ x < i + f) ∧ l.Pairwise (· < ·)
  | _,_,0,l,h=>by simp [zvT] at h;subst h;exact ⟨rfl,fun x hx=>by simp at hx,List.Pairwise.nil⟩
  | 0,_,n+1,l,h=>by simp [zvT] at h
  | f+1,i,n+1,l,h=>by
    simp only [zvT] at h
    split at h
    · rename_i v hv
      split at h
      · rename_i r hr
        simp only [Option.some.injEq] at h;subst h
        obtain ⟨h1,h2,h3⟩:=zln f (i+1) n r hr
        refine ⟨by simp [h1],fun x hx=>?_,List.pairwise_cons.2 ⟨fun x hx=>by have:=h2 x hx;omega,h3⟩⟩
        rcases List.mem_cons.1 hx with rfl | hx
        · exact ⟨by rw [hv];simp,by omega,by omega⟩
        · have:=h2 x hx;exact ⟨this.1,by omega,by omega⟩
      · cases h
    · obtain ⟨h1, h2, h3⟩ := zln f (i + 1) (n + 1) l h
      exact ⟨h1,fun x hx=>by have:=h2 x hx;exact ⟨this.1,by omega,by omega⟩,h3⟩
theorem zlo {α : Type} [DecidableEq α] : ∀ {l m : List α}, l.Nodup → (∀ x ∈ l, x ∈ m) → m.length ≤ l.length → l.Perm m
  | [],m,_,_,h=>by
    have:m=[]:=List.eq_nil_of_length_eq_zero (by simpa using h)
    subst this;exact .refl _
  | a :: l,m,hn,hs,h=>by
    obtain ⟨h1,h2⟩:=List.nodup_cons.1 hn
    have ha:=hs a List.mem_cons_self
    have hp:=List.perm_cons_erase ha
    refine (List.Perm.cons a (zlo h2 (fun x hx=>?_) ?_)).trans hp.symm
    · exact (List.mem_erase_of_ne (fun e=>h1 (by rw [← e];exact hx))).2 (hs x (List.mem_cons_of_mem _ hx))
    · have := hp.length_eq
      simp at this h
      omega

theorem zCi:zoD Tryd.prog 103 (.keys 117):=fun w mb=>by
 refine ⟨⟨_,rfl,rfl,by kernel_rfl⟩,?_⟩
 have c:CallsIn Fence.wide 5 Tryd.prog 103 #[.map (some mb)] w fun e w'=>e=.returned (.func (.func 117) #[] #[.pointer (some ⟨w.heap.size,0,none⟩)])∧w'=w.alloc (.cells #[.map (some mb)] 103):=AnyZI.keys_in Tryd.keysA Fence.wide 5 trivial rfl (some mb) w
 refine ((callsIn_wide (n:=5)).1 c).mono ?_
 rintro e w' ⟨rfl,rfl⟩
 exact ⟨rfl,_,rfl⟩
theorem sortsA (m:Nat):AnyZI.SortsIn Tryd.prog Tryd.sortedA_ren Fence.wide m :=
  ⟨fun blk off cap ss W hH hblk hsz=>callsIn_wide.2 (AnyM.slices_Sort_int Tryd.sortA blk off cap ss W hH hblk hsz),
   fun p cap W=>callsIn_wide.2 (AnyM.slices_Sort_int_none Tryd.sortA p cap W)⟩

def rdN:Value→Option (DataW Unit×List MemPlace):=fun _=>some (.nil,[])
theorem zvH:zoD Tryd.prog 102 (.sorted 117):=fun w h k mb C ty fr es clock vt q n F hw hk hC hb hE hm hn hky=>by
 refine ⟨⟨_,rfl,rfl,by kernel_rfl⟩,?_⟩
 obtain ⟨en,M⟩:=hm
 have E:=zgO hE
 have hq1:q.1=false:=by
  have e:=E.kag
  rw [show zeL Tryd.prog 3=some false by kernel_rfl] at e
  exact (Option.some.inj e).symm
 have hq2:q.2.1=1:=by
  have e:=E.key
  rw [show zdO Tryd.prog 8 3=some 1 by kernel_rfl] at e
  exact (Option.some.inj e).symm
 obtain ⟨l,hl⟩:=Option.isSome_iff_exists.1 hky
 have hll:zvU F n=l:=by unfold zvU;rw [hl];rfl
 obtain ⟨l1,l2,l3⟩:=zln _ _ _ _ hl
 rw [hll]
 have one:∀ x∈en,x.1=[x.1.headD 0]:=fun x hx=>by
  have:=(M.len x hx).1
  rw [hq2] at this
  match x.1,this with
  | [a],_=>rfl
 have hkeys:es.toList.map (·.key)=(en.map fun x=>x.1.headD 0).map encZ:=by
  have:=congrArg (List.map Prod.fst) M.ents
  simp only [List.map_map] at this ⊢
  refine (show es.toList.map (·.key)=_ from this).trans (List.map_congr_left fun x hx=>?_)
  show zbL q.1 x.1=encZ (x.1.headD 0)
  rw [hq1];rfl
 have hkn:(en.map fun x=>x.1.headD 0).Nodup:=by
  have:(en.map (·.1))=(en.map fun x=>x.1.headD 0).map fun a=>[a]:=by
   rw [List.map_map];exact List.map_congr_left fun x hx=>one x hx
  have hd:=M.nodup
  rw [this] at hd
  exact (List.pairwise_map.1 hd).imp fun h e=>h (by rw [e])
 have hperm:l.Perm (en.map fun x=>x.1.headD 0):=by
  refine zlo (l3.imp fun h=>Int.ne_of_lt h) (fun x hx=>?_) (by rw [List.length_map,← M.size,l1];exact Nat.le_refl _)
  have h1:=(l2 x hx).1
  rw [M.find [x] (by rw [hq2];rfl)] at h1
  by_cases hex:∃ y∈en,y.1=[x]
  ·obtain ⟨y, hy, e⟩ := hex
   exact List.mem_map.2 ⟨y,hy,by rw [e];rfl⟩
  ·exact absurd (zgq fun y hy e=>hex ⟨y,hy,e⟩) h1
 have hread:∀ x∈es.toList,∃ a:Int,x.key=encZ a∧keyOf Tryd.prog 3 x.key=some (.int .i64 a):=fun x hx=>by
  have hm:x.key∈es.toList.map (·.key):=List.mem_map.2 ⟨x,hx,rfl⟩
  rw [hkeys] at hm
  obtain ⟨a,ha,e⟩:=List.mem_map.1 hm
  have hb:=(l2 a (hperm.mem_iff.2 ha)).2
  refine ⟨a,e.symm,?_⟩
  rw [← e]
  have hu:Tryd.prog.underlying 3=some (.int .i64):=Tryd.underlying3
  have hwf:(Lit.int .i64 a).wf=true:=by
   simp only [Lit.wf,Bool.and_eq_true,decide_eq_true_eq]
   have e1:IntKind.i64.min = -9223372036854775808:=by decide
   have e2:IntKind.i64.max=9223372036854775807:=by decide
   rw [e1,e2]
   have:=hb.2
   omega
  simp [keyOf,mapKey,hu,hwf]
 have hsize:es.size=n:=by
  have:=congrArg List.length M.ents
  simp at this
  rw [this,M.size]
 have hst:MapKept.Stamped es clock:=⟨M.born,M.bornN,by rw [hkeys];exact List.pairwise_map.2 (hkn.imp fun h e=>h (encZ_inj e))⟩
 have hown:w.ownsMap Tryd.prog 3 rdN mb n (.map ((es.toList.map (WideElems.rg Tryd.prog 3 rdN)).foldr DataW.insert [])) :=
  ⟨es,clock,hb,⟨by rw [hsize];exact Nat.le_trans hn (by decide),hst,fun x hx=>by
   obtain ⟨a,e1,e2⟩:=hread x hx
   exact ⟨(.int .i64 a,.nil),by simp only [WideElems.rd,e2,rdN,Option.bind_some,Option.map_some]⟩⟩,by omega,rfl⟩
 have hik:(intKeys (.map ((es.toList.map (WideElems.rg Tryd.prog 3 rdN)).foldr DataW.insert []))).Perm l:=by
  show (((es.toList.map (WideElems.rg Tryd.prog 3 rdN)).foldr DataW.insert []).map fun p=>intOf p.1).Perm l
  refine ((WideShapes.sorted_perm _).map _).trans (List.Perm.trans (List.Perm.of_eq ?_) hperm.symm)
  rw [List.map_map]
  have e:(en.map fun x=>x.1.headD 0)=es.toList.map fun x=>intOf ((keyOf Tryd.prog 3 x.key).getD (.bool false)):=by
   have h1:(en.map fun x=>x.1.headD 0)=((en.map fun x=>x.1.headD 0).map encZ).map fun v=>match v with | .int _ a=>a | _=>0:=by
    rw [List.map_map];exact (List.map_id _).symm
   rw [h1,← hkeys,List.map_map]
   refine List.map_congr_left fun x hx=>?_
   obtain ⟨a,e1,e2⟩:=hread x hx
   simp only [Function.comp,e2]
   rw [e1];rfl
  rw [e]
  refine List.map_congr_left fun x hx=>?_
  obtain ⟨a,e1,e2⟩:=hread x hx
  simp only [Function.comp,WideElems.rg,WideElems.rd,e2,rdN,Option.bind_some,Option.map_some,Option.getD_some]
 have hsz:Maps.size (DataW.map ((es.toList.map (WideElems.rg Tryd.prog 3 rdN)).foldr DataW.insert []):DataW Unit)=n:=by
  show List.length _=n
  rw [(WideShapes.sorted_perm _).length_eq];simp [hsize]
 have hlt:k < w.heap.size:=hw.lt hk
 have hcell:w.cell? ⟨k,0,none⟩=some (.map (some mb)):=by
  have:=hw.fz hk
  simp [World.cell?,this,hC]
 have hseq:SeqGives Fence.wide 2 Tryd.prog 117 #[.pointer (some ⟨k,0,none⟩)] encZ (fun ss=>ss.Perm (intKeys _)) (Maps.size _) w :=
  AnyZI.keys_gives (ρ:=Tryd.keysA_ren) { Tryd.keysA with } Fence.wide _ trivial rfl (by omega) k mb n _ w hlt hcell hown
 have cS:=AnyZI.sorted_in Tryd.sortedA Fence.wide 5 trivial trivial trivial trivial rfl (by omega) (sortsA _) (enters_of Tryd.func116 (by kernel_rfl) rfl) 117 #[.pointer (some ⟨k,0,none⟩)] trivial (enters_of Tryd.func117 (by kernel_rfl) rfl) _ _ (by rw [hsz];exact Nat.le_trans hn (by decide)) (by rw [hsz];omega) _ hseq
 change CallsIn _ _ Tryd.prog 102 _ _ _ at cS
 refine ((callsIn_wide (n:=5)).1 cS).mono ?_
 rintro e w' ⟨v,ss,rfl,hS,hrow,_,hbel⟩
 refine ⟨v,rfl,?_,⟨hbel,Nat.zero_le _⟩⟩
 have hsl:ss.mergeSort (fun x y=>decide (x≤y))=l:=by
  rw [show ss.mergeSort (fun x y=>decide (x≤y))=l.mergeSort leI from mergeSort_of_perm_i (hS.trans hik)]
  exact List.mergeSort_of_pairwise (l3.imp fun h=>by simp only [leI,decide_eq_true_eq];exact Int.le_of_lt h)
 have hlen:ss.length=n:=by rw [(hS.trans hik).length_eq,l1]
 rw [hsl,hlen] at hrow
 exact hrow
end Go.Pm
namespace Go.Proofs
open Go Go.Pm
set_option maxRecDepth 100000
set_option linter.unusedVariables false
attribute [local irreducible] Go.Pm.vcFun Go.Pm.vc Go.Pm.vcIter
abbrev zDc:OwnK:=.sorted 117
theorem zLp:zoD Tryd.prog 102 zDc:=zvH
abbrev zDd:OwnK:=.keys 117
theorem zLq:zoD Tryd.prog 103 zDd:=zCi
structure Rec69 where
  S:web→Int→((Sl (Sl Int))×web)
  P:web→Int→Bool
class Slf69 where
  r:Rec69
section
variable [Slf69]
def zyn : MK
  | [.box 105 [.p (.int .i64 b0_Net_Nodes),.p (.sl b0_Net_Ties_n b0_Net_Ties_s b0_Net_Ties_g),.mo 3 4 b0_out_q b0_out_n b0_out_F],.d (.one (.int .i64 b1))]=>some (IsE enc_40 4 b0_Net_Ties_s b0_Net_Ties_g∧b0_out_q=(false,1,false,[none])∧Slf69.r.P (⟨(⟨b0_Net_Nodes,(⟨b0_Net_Ties_n,zal b0_Net_Ties_g⟩:(Sl Tie))⟩:Net),(⟨b0_out_n,b0_out_F⟩:Mp)⟩:web) b1=true,[.one (.sl (((Slf69.r.S (⟨(⟨b0_Net_Nodes,(⟨b0_Net_Ties_n,zal b0_Net_Ties_g⟩:(Sl Tie))⟩:Net),(⟨b0_out_n,b0_out_F⟩:Mp)⟩:web) b1).1).len) 1 (fun i=>zcl (((Slf69.r.S (⟨(⟨b0_Net_Nodes,(⟨b0_Net_Ties_n,zal b0_Net_Ties_g⟩:(Sl Tie))⟩:Net),(⟨b0_out_n,b0_out_F⟩:Mp)⟩:web) b1).1).get i)))],[.box 105 [.p (.int .i64 (((Slf69.r.S (⟨(⟨b0_Net_Nodes,(⟨b0_Net_Ties_n,zal b0_Net_Ties_g⟩:(Sl Tie))⟩:Net),(⟨b0_out_n,b0_out_F⟩:Mp)⟩:web) b1).2).Net.Nodes)),.p (.sl (((Slf69.r.S (⟨(⟨b0_Net_Nodes,(⟨b0_Net_Ties_n,zal b0_Net_Ties_g⟩:(Sl Tie))⟩:Net),(⟨b0_out_n,b0_out_F⟩:Mp)⟩:web) b1).2).Net.Ties.len) 4 (fun i=>enc_40 (((Slf69.r.S (⟨(⟨b0_Net_Nodes,(⟨b0_Net_Ties_n,zal b0_Net_Ties_g⟩:(Sl Tie))⟩:Net),(⟨b0_out_n,b0_out_F⟩:Mp)⟩:web) b1).2).Net.Ties.get i))),.mo 3 4 (false,1,false,[none]) ((((Slf69.r.S (⟨(⟨b0_Net_Nodes,(⟨b0_Net_Ties_n,zal b0_Net_Ties_g⟩:(Sl Tie))⟩:Net),(⟨b0_out_n,b0_out_F⟩:Mp)⟩:web) b1).2).out).n) ((((Slf69.r.S (⟨(⟨b0_Net_Nodes,(⟨b0_Net_Ties_n,zal b0_Net_Ties_g⟩:(Sl Tie))⟩:Net),(⟨b0_out_n,b0_out_F⟩:Mp)⟩:web) b1).2).out).F)],.d (.one (.int .i64 b1))])
  | _=>none
abbrev T69:Tabs:=(((((Tabs.nil.addF 88 zxI).addF 89 zCh).addO 102 zDc).addO 103 zDd).addM 69 zyn)
theorem zLr (hself:zju Tryd.prog 69 zyn):TabsOk Tryd.prog T69:=(((((TabsOk.nil.addF zLc).addF zMB).addO zLp).addO zLq).addM hself)
abbrev zCj:Ctrs:=csm T69 (fun _ _=>[]) (fun _=>false)
def zfs:Ann:=⟨57,[(0,zK [0,1] [0,12288]),(1,zK [0,1,10] [0,12288]),(2,zK [0,4] [0,17,12288]),(3,zK [0,1,19] [0,12288]),(4,zK [0,4] [0,12288]),(5,zK [0,1,5] [0,12288]),(6,zK [0,1,5,21,22,23] [0,12288]),(7,zK [0,1,5,21,22,23,24] [0,47,12288]),(8,zK [0,1,5,7,21,22,23] [0,7,47,12288]),(9,zK [0,1,5,7,21,22,23,34] [0,7,47,12288]),(10,zK [0,1,5,7,21,22,23] [0,7,47,12288]),(11,zK [0,1,5,7,21,22,23] [0,7,47,12288]),(12,zK [0,1,5,21,22,23] [0,47,12288]),(13,zK [0,1,5,21,22,23] [0,47,12288]),(14,zK [0,4] [0,47,12288])],
 [(7,⟨[0,1,5,21,22,23],[0,47,12288],[(5,47,27,fun _=>zcl default)],[],[],[],[]⟩)],
 [],
 [],[]⟩
def zf3 (w:web) (left:Int) (zaI:Int) (za9:Int) (zf4:Nat) (zcM:Nat→List PV) (zf5:Nat) (zcN:Nat→List PV) (zai:Nat) (zaa:(List Int→Option (List Int))):St:=⟨[(0,.one (.c (.ptr 0 0))),(1,.one (.c (.p (.int .i64 left)))),(5,.one (.c (.vec 47))),(21,.one (.c (.p (.sl ((s89 w).len) 5 (fun i=>zaf ((s89 w).get i)))))),(22,.one (.c (.p (.int .i64 ((s89 w).len:Int))))),(23,.one (.c (.p (.int .i64 zaI))))],[(0,.box 105 [.p (.int .i64 za9),.p (.sl zf4 4 zcM),.mo 12288]),(47,.vec 27 1 24 zf5 zcN),(12288,.mo 3 4 (false,1,false,[none]) zai zaa)],[]⟩
def zh5 (K:List PA×List XA→Prop) (w:web) (left:Int) (zaI:Int) (za9:Int) (zf4:Nat) (zcM:Nat→List PV) (zf5:Nat) (zcN:Nat→List PV) (zai:Nat) (zaa:(List Int→Option (List Int))):Prop:=vc Tryd.prog zCj zfs (cdF Tryd.f69 [1,1,1,1,0,1,0]) (zak 0 (sqK Tryd.prog zCj zfs (cdF Tryd.f69 [1,1,1,1,1]) (zl5 Tryd.prog Tryd.f69 [.box 105 [.p (.int .i64 w.Net.Nodes),.p (.sl w.Net.Ties.len 4 (fun i=>enc_40 (w.Net.Ties.get i))),.mo 3 4 (false,1,false,[none]) w.out.n w.out.F],.d (.one (.int .i64 left))] (fun a b=>K (a,b))))) (zf3 w left zaI za9 zf4 zcM zf5 zcN zai zaa)
theorem zCk (w : web) (left : Int) (K : List PA × List XA → Prop) :
  zkJ Tryd.prog zCj zfs 69 [.box 105 [.p (.int .i64 w.Net.Nodes),.p (.sl w.Net.Ties.len 4 (fun i=>enc_40 (w.Net.Ties.get i))),.mo 3 4 (false,1,false,[none]) w.out.n w.out.F],.d (.one (.int .i64 left))] (fun a b=>K (a,b)) =
  ((IsE enc_40 4 4 (fun i=>enc_40 (w.Net.Ties.get i))∧((false,1,false,[none]):MQ)=(false,1,false,[none])∧(p88 w=true)) ∧
 (zbR (!(s88 w))
 (((w.out.n≤1000000∧(zvT w.out.F 9223372036854775808 0 w.out.n).isSome=true)) ∧
 (K ([.one (.sl 1 1 (fun _=>(zcl (⟨w.out.n,(fun i=>(zvU w.out.F w.out.n).getD i 0)⟩:(Sl Int)))))],[.box 105 [.p (.int .i64 w.Net.Nodes),.p (.sl w.Net.Ties.len 4 (fun i=>enc_40 (w.Net.Ties.get i))),.mo 3 4 (false,1,false,[none]) w.out.n w.out.F],.d (.one (.int .i64 left))])))
 (zbR (left == (0:Int))
 (K ([.one (.nils)],[.box 105 [.p (.int .i64 w.Net.Nodes),.p (.sl w.Net.Ties.len 4 (fun i=>enc_40 (w.Net.Ties.get i))),.mo 3 4 (false,1,false,[none]) w.out.n w.out.F],.d (.one (.int .i64 left))]))
 (((∀ i,sc2 ((fun i=>zaf ((s89 w).get i)) i)=true)∧IsE enc_40 4 4 (fun i=>enc_40 (w.Net.Ties.get i))∧((false,1,false,[none]):MQ)=(false,1,false,[none])∧(p89 w=true)) ∧
 (zh5 K w left (0:Int) w.Net.Nodes w.Net.Ties.len (fun i=>enc_40 (w.Net.Ties.get i)) 0 (fun i=>zcl ((fun _=>default) i)) w.out.n w.out.F))))):=by kernel_rfl
def zmM (K:List PA×List XA→Prop) (X0:St→Prop) (w:web) (left:Int) (zaI:Int) (za9:Int) (zbb:(Sl Tie)) (zbH:(Sl (Sl Int))) (zai:Nat) (zaa:(List Int→Option (List Int))):Prop :=
  (zbR (decide (zaI < ((s89 w).len : Int)))
 (((0≤zaI∧zaI < ((s89 w).len:Int))) ∧
 (zbR ((zu1 (zaa [((s89 w).get zaI.toNat).Use.Tie]) 0) != 0)
 (X0 (zf3 w left (w64 (zaI+(1:Int))) za9 zbb.len (fun i=>enc_40 (zbb.get i)) zbH.len (fun i=>zcl (zbH.get i)) zai zaa))
 ((IsE enc_40 4 4 (fun i=>enc_40 (zbb.get i))∧((false,1,false,[none]):MQ)=(false,1,false,[none])∧(Slf69.r.P (⟨(⟨za9,zbb⟩:Net),(⟨(addN (zaa [((s89 w).get zaI.toNat).Use.Tie]) zai),(zdX [((s89 w).get zaI.toNat).Use.Tie] [1] zaa)⟩:Mp)⟩:web) (w64 (left - (1:Int)))=true)) ∧
 ((((zbH.len+((Slf69.r.S (⟨(⟨za9,zbb⟩:Net),(⟨(addN (zaa [((s89 w).get zaI.toNat).Use.Tie]) zai),(zdX [((s89 w).get zaI.toNat).Use.Tie] [1] zaa)⟩:Mp)⟩:web) (w64 (left - (1:Int)))).1).len) * 24≤140737488355328∧zbH.len+((Slf69.r.S (⟨(⟨za9,zbb⟩:Net),(⟨(addN (zaa [((s89 w).get zaI.toNat).Use.Tie]) zai),(zdX [((s89 w).get zaI.toNat).Use.Tie] [1] zaa)⟩:Mp)⟩:web) (w64 (left - (1:Int)))).1).len≤9223372036854775807)) ∧
 (X0 (zf3 w left (w64 (zaI+(1:Int))) (((Slf69.r.S (⟨(⟨za9,zbb⟩:Net),(⟨(addN (zaa [((s89 w).get zaI.toNat).Use.Tie]) zai),(zdX [((s89 w).get zaI.toNat).Use.Tie] [1] zaa)⟩:Mp)⟩:web) (w64 (left - (1:Int)))).2).Net.Nodes) (((Slf69.r.S (⟨(⟨za9,zbb⟩:Net),(⟨(addN (zaa [((s89 w).get zaI.toNat).Use.Tie]) zai),(zdX [((s89 w).get zaI.toNat).Use.Tie] [1] zaa)⟩:Mp)⟩:web) (w64 (left - (1:Int)))).2).Net.Ties.len) (fun i=>enc_40 (((Slf69.r.S (⟨(⟨za9,zbb⟩:Net),(⟨(addN (zaa [((s89 w).get zaI.toNat).Use.Tie]) zai),(zdX [((s89 w).get zaI.toNat).Use.Tie] [1] zaa)⟩:Mp)⟩:web) (w64 (left - (1:Int)))).2).Net.Ties.get i)) (zbH.len+((Slf69.r.S (⟨(⟨za9,zbb⟩:Net),(⟨(addN (zaa [((s89 w).get zaI.toNat).Use.Tie]) zai),(zdX [((s89 w).get zaI.toNat).Use.Tie] [1] zaa)⟩:Mp)⟩:web) (w64 (left - (1:Int)))).1).len) (appG zbH.len (fun i=>zcl (zbH.get i)) (fun i=>zcl (((Slf69.r.S (⟨(⟨za9,zbb⟩:Net),(⟨(addN (zaa [((s89 w).get zaI.toNat).Use.Tie]) zai),(zdX [((s89 w).get zaI.toNat).Use.Tie] [1] zaa)⟩:Mp)⟩:web) (w64 (left - (1:Int)))).1).get i))) (zCK (((((Slf69.r.S (⟨(⟨za9,zbb⟩:Net),(⟨(addN (zaa [((s89 w).get zaI.toNat).Use.Tie]) zai),(zdX [((s89 w).get zaI.toNat).Use.Tie] [1] zaa)⟩:Mp)⟩:web) (w64 (left - (1:Int)))).2).out).F) [((s89 w).get zaI.toNat).Use.Tie]) ((((Slf69.r.S (⟨(⟨za9,zbb⟩:Net),(⟨(addN (zaa [((s89 w).get zaI.toNat).Use.Tie]) zai),(zdX [((s89 w).get zaI.toNat).Use.Tie] [1] zaa)⟩:Mp)⟩:web) (w64 (left - (1:Int)))).2).out).n)) (zA1 [((s89 w).get zaI.toNat).Use.Tie] ((((Slf69.r.S (⟨(⟨za9,zbb⟩:Net),(⟨(addN (zaa [((s89 w).get zaI.toNat).Use.Tie]) zai),(zdX [((s89 w).get zaI.toNat).Use.Tie] [1] zaa)⟩:Mp)⟩:web) (w64 (left - (1:Int)))).2).out).F))))))))
 (K ([.one (.sl zbH.len 1 (fun i=>zcl (zbH.get i)))],[.box 105 [.p (.int .i64 za9),.p (.sl zbb.len 4 (fun i=>enc_40 (zbb.get i))),.mo 3 4 (false,1,false,[none]) zai zaa],.d (.one (.int .i64 left))])))
theorem zpQ (K : List PA × List XA → Prop) (X0 : St → Prop) (w : web) (left : Int) (zaI : Int) (za9 : Int) (zbb : (Sl Tie)) (zbH : (Sl (Sl Int))) (zai : Nat) (zaa : (List Int → Option (List Int))) :
  vc Tryd.prog zCj zfs (cd (cdF Tryd.f69 [1,1,1,1,0,1,0]) [0]) (zbn Tryd.prog zfs 7 X0 (zak 0 (sqK Tryd.prog zCj zfs (cdF Tryd.f69 [1,1,1,1,1]) (zl5 Tryd.prog Tryd.f69 [.box 105 [.p (.int .i64 w.Net.Nodes),.p (.sl w.Net.Ties.len 4 (fun i=>enc_40 (w.Net.Ties.get i))),.mo 3 4 (false,1,false,[none]) w.out.n w.out.F],.d (.one (.int .i64 left))] (fun a b=>K (a,b)))))) (zf3 w left zaI za9 zbb.len (fun i=>enc_40 (zbb.get i)) zbH.len (fun i=>zcl (zbH.get i)) zai zaa) =
  zmM K X0 w left zaI za9 zbb zbH zai zaa:=by kernel_rfl
theorem zvI (K : List PA × List XA → Prop) (w : web) (left : Int) (zaI : Int) (za9 : Int) (zf4 : Nat) (zcM : Nat → List PV) (zf5 : Nat) (zcN : Nat → List PV) (zai : Nat) (zaa : (List Int → Option (List Int)))
  (h:∀ X0:St→Prop,(∀ (zaI:Int) (za9:Int) (zbb:(Sl Tie)) (zbH:(Sl (Sl Int))) (zai:Nat) (zaa:(List Int→Option (List Int))),zmM K X0 w left zaI za9 zbb zbH zai zaa→X0 (zf3 w left zaI za9 zbb.len (fun i=>enc_40 (zbb.get i)) zbH.len (fun i=>zcl (zbH.get i)) zai zaa))→X0 (zf3 w left zaI za9 zf4 zcM zf5 zcN zai zaa)) :
  zh5 K w left zaI za9 zf4 zcM zf5 zcN zai zaa:=by
  have e:zh5 K w left zaI za9 zf4 zcM zf5 zcN zai zaa=(∀ X:St→Prop,(∀ s,vc Tryd.prog zCj zfs (cd (cdF Tryd.f69 [1,1,1,1,0,1,0]) [0]) (zbn Tryd.prog zfs 7 X (zak 0 (sqK Tryd.prog zCj zfs (cdF Tryd.f69 [1,1,1,1,1]) (zl5 Tryd.prog Tryd.f69 [.box 105 [.p (.int .i64 w.Net.Nodes),.p (.sl w.Net.Ties.len 4 (fun i=>enc_40 (w.Net.Ties.get i))),.mo 3 4 (false,1,false,[none]) w.out.n w.out.F],.d (.one (.int .i64 left))] (fun a b=>K (a,b)))))) s→X s)→X (zf3 w left zaI za9 zf4 zcM zf5 zcN zai zaa)):=by kernel_rfl
  refine zbd e ?_
  intro X hX
  refine h X ?_
  intro zaI za9 zbb zbH zai zaa hs
  refine hX _ ?_
  have e2:=zpQ K X w left zaI za9 zbb zbH zai zaa
  rw [e2]
  exact hs
abbrev zDe (left:Int) (r:((Sl (Sl Int))×web)):List PA×List XA:=([.one (.sl r.1.len 1 (fun i=>zcl (r.1.get i)))],[.box 105 [.p (.int .i64 r.2.Net.Nodes),.p (.sl r.2.Net.Ties.len 4 (fun i=>enc_40 (r.2.Net.Ties.get i))),.mo 3 4 (false,1,false,[none]) r.2.out.n r.2.out.F],.d (.one (.int .i64 left))])
attribute [irreducible] zh5
def zn3 (w:web) (left:Int) (S0:Int→Int→(Sl Tie)→(Sl (Sl Int))→Nat→(List Int→Option (List Int))→((Sl (Sl Int))×web)) (zaI:Int) (za9:Int) (zbb:(Sl Tie)) (zbH:(Sl (Sl Int))) (zai:Nat) (zaa:(List Int→Option (List Int))):((Sl (Sl Int))×web) :=
  (cond (decide (zaI < ((s89 w).len : Int)))
 (cond ((zu1 (zaa [((s89 w).get zaI.toNat).Use.Tie]) 0) != 0)
 (S0 (w64 (zaI+(1:Int))) za9 zbb zbH zai zaa)
 (S0 (w64 (zaI+(1:Int))) (((Slf69.r.S (⟨(⟨za9,zbb⟩:Net),(⟨(addN (zaa [((s89 w).get zaI.toNat).Use.Tie]) zai),(zdX [((s89 w).get zaI.toNat).Use.Tie] [1] zaa)⟩:Mp)⟩:web) (w64 (left - (1:Int)))).2).Net.Nodes) (((Slf69.r.S (⟨(⟨za9,zbb⟩:Net),(⟨(addN (zaa [((s89 w).get zaI.toNat).Use.Tie]) zai),(zdX [((s89 w).get zaI.toNat).Use.Tie] [1] zaa)⟩:Mp)⟩:web) (w64 (left - (1:Int)))).2).Net.Ties) (⟨(zbH.len+((Slf69.r.S (⟨(⟨za9,zbb⟩:Net),(⟨(addN (zaa [((s89 w).get zaI.toNat).Use.Tie]) zai),(zdX [((s89 w).get zaI.toNat).Use.Tie] [1] zaa)⟩:Mp)⟩:web) (w64 (left - (1:Int)))).1).len),(zg8 zbH.len zbH.get ((Slf69.r.S (⟨(⟨za9,zbb⟩:Net),(⟨(addN (zaa [((s89 w).get zaI.toNat).Use.Tie]) zai),(zdX [((s89 w).get zaI.toNat).Use.Tie] [1] zaa)⟩:Mp)⟩:web) (w64 (left - (1:Int)))).1).get)⟩:Sl (Sl Int)) (zCK (((((Slf69.r.S (⟨(⟨za9,zbb⟩:Net),(⟨(addN (zaa [((s89 w).get zaI.toNat).Use.Tie]) zai),(zdX [((s89 w).get zaI.toNat).Use.Tie] [1] zaa)⟩:Mp)⟩:web) (w64 (left - (1:Int)))).2).out).F) [((s89 w).get zaI.toNat).Use.Tie]) ((((Slf69.r.S (⟨(⟨za9,zbb⟩:Net),(⟨(addN (zaa [((s89 w).get zaI.toNat).Use.Tie]) zai),(zdX [((s89 w).get zaI.toNat).Use.Tie] [1] zaa)⟩:Mp)⟩:web) (w64 (left - (1:Int)))).2).out).n)) (zA1 [((s89 w).get zaI.toNat).Use.Tie] ((((Slf69.r.S (⟨(⟨za9,zbb⟩:Net),(⟨(addN (zaa [((s89 w).get zaI.toNat).Use.Tie]) zai),(zdX [((s89 w).get zaI.toNat).Use.Tie] [1] zaa)⟩:Mp)⟩:web) (w64 (left - (1:Int)))).2).out).F))))
 (zbH,(⟨(⟨za9,zbb⟩:Net),(⟨zai,zaa⟩:Mp)⟩:web)))
def zn4 (w:web) (left:Int) (P0:Int→Int→(Sl Tie)→(Sl (Sl Int))→Nat→(List Int→Option (List Int))→Bool) (zaI:Int) (za9:Int) (zbb:(Sl Tie)) (zbH:(Sl (Sl Int))) (zai:Nat) (zaa:(List Int→Option (List Int))):Bool :=
  (cond (decide (zaI < ((s89 w).len : Int)))
 (decide ((0≤zaI∧zaI < ((s89 w).len:Int))) &&
 (cond ((zu1 (zaa [((s89 w).get zaI.toNat).Use.Tie]) 0) != 0)
 (P0 (w64 (zaI+(1:Int))) za9 zbb zbH zai zaa)
 (decide ((Slf69.r.P (⟨(⟨za9,zbb⟩:Net),(⟨(addN (zaa [((s89 w).get zaI.toNat).Use.Tie]) zai),(zdX [((s89 w).get zaI.toNat).Use.Tie] [1] zaa)⟩:Mp)⟩:web) (w64 (left - (1:Int)))=true)) &&
 (decide (((zbH.len+((Slf69.r.S (⟨(⟨za9,zbb⟩:Net),(⟨(addN (zaa [((s89 w).get zaI.toNat).Use.Tie]) zai),(zdX [((s89 w).get zaI.toNat).Use.Tie] [1] zaa)⟩:Mp)⟩:web) (w64 (left - (1:Int)))).1).len) * 24≤140737488355328∧zbH.len+((Slf69.r.S (⟨(⟨za9,zbb⟩:Net),(⟨(addN (zaa [((s89 w).get zaI.toNat).Use.Tie]) zai),(zdX [((s89 w).get zaI.toNat).Use.Tie] [1] zaa)⟩:Mp)⟩:web) (w64 (left - (1:Int)))).1).len≤9223372036854775807)) &&
 (P0 (w64 (zaI+(1:Int))) (((Slf69.r.S (⟨(⟨za9,zbb⟩:Net),(⟨(addN (zaa [((s89 w).get zaI.toNat).Use.Tie]) zai),(zdX [((s89 w).get zaI.toNat).Use.Tie] [1] zaa)⟩:Mp)⟩:web) (w64 (left - (1:Int)))).2).Net.Nodes) (((Slf69.r.S (⟨(⟨za9,zbb⟩:Net),(⟨(addN (zaa [((s89 w).get zaI.toNat).Use.Tie]) zai),(zdX [((s89 w).get zaI.toNat).Use.Tie] [1] zaa)⟩:Mp)⟩:web) (w64 (left - (1:Int)))).2).Net.Ties) (⟨(zbH.len+((Slf69.r.S (⟨(⟨za9,zbb⟩:Net),(⟨(addN (zaa [((s89 w).get zaI.toNat).Use.Tie]) zai),(zdX [((s89 w).get zaI.toNat).Use.Tie] [1] zaa)⟩:Mp)⟩:web) (w64 (left - (1:Int)))).1).len),(zg8 zbH.len zbH.get ((Slf69.r.S (⟨(⟨za9,zbb⟩:Net),(⟨(addN (zaa [((s89 w).get zaI.toNat).Use.Tie]) zai),(zdX [((s89 w).get zaI.toNat).Use.Tie] [1] zaa)⟩:Mp)⟩:web) (w64 (left - (1:Int)))).1).get)⟩:Sl (Sl Int)) (zCK (((((Slf69.r.S (⟨(⟨za9,zbb⟩:Net),(⟨(addN (zaa [((s89 w).get zaI.toNat).Use.Tie]) zai),(zdX [((s89 w).get zaI.toNat).Use.Tie] [1] zaa)⟩:Mp)⟩:web) (w64 (left - (1:Int)))).2).out).F) [((s89 w).get zaI.toNat).Use.Tie]) ((((Slf69.r.S (⟨(⟨za9,zbb⟩:Net),(⟨(addN (zaa [((s89 w).get zaI.toNat).Use.Tie]) zai),(zdX [((s89 w).get zaI.toNat).Use.Tie] [1] zaa)⟩:Mp)⟩:web) (w64 (left - (1:Int)))).2).out).n)) (zA1 [((s89 w).get zaI.toNat).Use.Tie] ((((Slf69.r.S (⟨(⟨za9,zbb⟩:Net),(⟨(addN (zaa [((s89 w).get zaI.toNat).Use.Tie]) zai),(zdX [((s89 w).get zaI.toNat).Use.Tie] [1] zaa)⟩:Mp)⟩:web) (w64 (left - (1:Int)))).2).out).F)))))))
 true)
def zh6 (w : web) (left : Int) : Nat → Int → Int → (Sl Tie) → (Sl (Sl Int)) → Nat → (List Int → Option (List Int)) → ((Sl (Sl Int)) × web)
  | 0=>fun _ _ _ _ _ _=>default
  | k+1=>zn3 w left (zh6 w left k)
def zh7 (w : web) (left : Int) : Nat → Int → Int → (Sl Tie) → (Sl (Sl Int)) → Nat → (List Int → Option (List Int)) → Bool
  | 0=>fun _ _ _ _ _ _=>false
  | k+1=>zn4 w left (zh7 w left k)
def zuL (w:web) (left:Int) (zaI:Int) (za9:Int) (zbb:(Sl Tie)) (zbH:(Sl (Sl Int))) (zai:Nat) (zaa:(List Int→Option (List Int))):((Sl (Sl Int))×web):=zh6 w left Fuel zaI za9 zbb zbH zai zaa
def zuM (w:web) (left:Int) (zaI:Int) (za9:Int) (zbb:(Sl Tie)) (zbH:(Sl (Sl Int))) (zai:Nat) (zaa:(List Int→Option (List Int))):Bool:=zh7 w left Fuel zaI za9 zbb zbH zai zaa
theorem zCl (K:List PA×List XA→Prop) (w:web) (left:Int) (zaI:Int) (za9:Int) (zbb:(Sl Tie)) (zbH:(Sl (Sl Int))) (zai:Nat) (zaa:(List Int→Option (List Int))) (zcM:Nat→List PV) (zlp:zcM=fun i=>enc_40 (zbb.get i)) (zcN:Nat→List PV) (zlq:zcN=fun i=>zcl (zbH.get i)) (hs:zuM w left zaI za9 zbb zbH zai zaa=true) (hk:K (zDe left (zuL w left zaI za9 zbb zbH zai zaa))):zh5 (WkM K) w left zaI za9 zbb.len zcM zbH.len zcN zai zaa:=by
  refine zvI (WkM K) w left zaI za9 zbb.len zcM zbH.len zcN zai zaa ?_
  intro X0 hstep
  have key:∀ (k:Nat) (zaI:Int) (za9:Int) (zbb:(Sl Tie)) (zbH:(Sl (Sl Int))) (zai:Nat) (zaa:(List Int→Option (List Int))) (zcM:Nat→List PV) (zlp:zcM=fun i=>enc_40 (zbb.get i)) (zcN:Nat→List PV) (zlq:zcN=fun i=>zcl (zbH.get i)),zh7 w left k zaI za9 zbb zbH zai zaa=true→K (zDe left (zh6 w left k zaI za9 zbb zbH zai zaa))→X0 (zf3 w left zaI za9 zbb.len zcM zbH.len zcN zai zaa):=by
    intro k
    induction k with
    | zero=>intro zaI za9 zbb zbH zai zaa zcM zlp zcN zlq hs;exact absurd hs Bool.false_ne_true
    | succ k ih =>
      intro zaI za9 zbb zbH zai zaa zcM zlp zcN zlq hs hk
      subst zlp
      subst zlq
      refine hstep zaI za9 zbb zbH zai zaa ?_
      have hs:zn4 w left (zh7 w left k) zaI za9 zbb zbH zai zaa=true:=hs
      have hk:K (zDe left (zn3 w left (zh6 w left k) zaI za9 zbb zbH zai zaa)):=hk
      unfold zn4 at hs
      unfold zn3 at hk
      generalize zh6 w left k=S0 at hk ih
      generalize zh7 w left k=P0 at hs ih
      have hX0:=ih
      exact (zaZ (K := fun r => K (zDe left r))
 (fun hs hk => (za2 hs fun hc hs => ⟨hc, (zaZ (K := fun r => K (zDe left r))
 (fun hs hk=>(hX0 (w64 (zaI+(1:Int))) za9 zbb zbH zai zaa (fun i=>enc_40 (zbb.get i)) rfl (fun i=>zcl (zbH.get i)) rfl hs hk))
 (fun hs hk=>(za2 hs fun hc hs=>⟨⟨isE,rfl,hc⟩,(za2 hs fun hc hs=>⟨hc,(hX0 (w64 (zaI+(1:Int))) (((Slf69.r.S (⟨(⟨za9,zbb⟩:Net),(⟨(addN (zaa [((s89 w).get zaI.toNat).Use.Tie]) zai),(zdX [((s89 w).get zaI.toNat).Use.Tie] [1] zaa)⟩:Mp)⟩:web) (w64 (left - (1:Int)))).2).Net.Nodes) (((Slf69.r.S (⟨(⟨za9,zbb⟩:Net),(⟨(addN (zaa [((s89 w).get zaI.toNat).Use.Tie]) zai),(zdX [((s89 w).get zaI.toNat).Use.Tie] [1] zaa)⟩:Mp)⟩:web) (w64 (left - (1:Int)))).2).Net.Ties) (⟨(zbH.len+((Slf69.r.S (⟨(⟨za9,zbb⟩:Net),(⟨(addN (zaa [((s89 w).get zaI.toNat).Use.Tie]) zai),(zdX [((s89 w).get zaI.toNat).Use.Tie] [1] zaa)⟩:Mp)⟩:web) (w64 (left - (1:Int)))).1).len),(zg8 zbH.len zbH.get ((Slf69.r.S (⟨(⟨za9,zbb⟩:Net),(⟨(addN (zaa [((s89 w).get zaI.toNat).Use.Tie]) zai),(zdX [((s89 w).get zaI.toNat).Use.Tie] [1] zaa)⟩:Mp)⟩:web) (w64 (left - (1:Int)))).1).get)⟩:Sl (Sl Int)) (zCK (((((Slf69.r.S (⟨(⟨za9,zbb⟩:Net),(⟨(addN (zaa [((s89 w).get zaI.toNat).Use.Tie]) zai),(zdX [((s89 w).get zaI.toNat).Use.Tie] [1] zaa)⟩:Mp)⟩:web) (w64 (left - (1:Int)))).2).out).F) [((s89 w).get zaI.toNat).Use.Tie]) ((((Slf69.r.S (⟨(⟨za9,zbb⟩:Net),(⟨(addN (zaa [((s89 w).get zaI.toNat).Use.Tie]) zai),(zdX [((s89 w).get zaI.toNat).Use.Tie] [1] zaa)⟩:Mp)⟩:web) (w64 (left - (1:Int)))).2).out).n)) (zA1 [((s89 w).get zaI.toNat).Use.Tie] ((((Slf69.r.S (⟨(⟨za9,zbb⟩:Net),(⟨(addN (zaa [((s89 w).get zaI.toNat).Use.Tie]) zai),(zdX [((s89 w).get zaI.toNat).Use.Tie] [1] zaa)⟩:Mp)⟩:web) (w64 (left - (1:Int)))).2).out).F)) (fun i=>enc_40 (((Slf69.r.S (⟨(⟨za9,zbb⟩:Net),(⟨(addN (zaa [((s89 w).get zaI.toNat).Use.Tie]) zai),(zdX [((s89 w).get zaI.toNat).Use.Tie] [1] zaa)⟩:Mp)⟩:web) (w64 (left - (1:Int)))).2).Net.Ties.get i)) rfl (appG zbH.len (fun i=>zcl (zbH.get i)) (fun i=>zcl (((Slf69.r.S (⟨(⟨za9,zbb⟩:Net),(⟨(addN (zaa [((s89 w).get zaI.toNat).Use.Tie]) zai),(zdX [((s89 w).get zaI.toNat).Use.Tie] [1] zaa)⟩:Mp)⟩:web) (w64 (left - (1:Int)))).1).get i))) (zkN (enc:=zcl) (f:=zbH.get) (h:=((Slf69.r.S (⟨(⟨za9,zbb⟩:Net),(⟨(addN (zaa [((s89 w).get zaI.toNat).Use.Tie]) zai),(zdX [((s89 w).get zaI.toNat).Use.Tie] [1] zaa)⟩:Mp)⟩:web) (w64 (left - (1:Int)))).1).get) rfl rfl) hs hk)⟩)⟩)) hs hk)⟩))
 (fun hs hk=>(zxw hk)) hs hk)
  exact key _ zaI za9 zbb zbH zai zaa zcM zlp zcN zlq hs hk
def zAX (w:web) (left:Int):((Sl (Sl Int))×web) :=
  (cond (!(s88 w))
 ((⟨1,fun _=>(⟨w.out.n,(fun i=>(zvU w.out.F w.out.n).getD i 0)⟩:(Sl Int))⟩:(Sl (Sl Int))),w)
 (cond (left == (0:Int))
 ((⟨0,fun _=>default⟩:(Sl (Sl Int))),w)
 (zuL w left (0:Int) w.Net.Nodes w.Net.Ties (⟨0,(fun _=>default)⟩:Sl (Sl Int)) w.out.n w.out.F)))
def zKG (w:web) (left:Int):Bool :=
  (decide ((p88 w=true)) &&
 (cond (!(s88 w))
 (decide ((w.out.n≤1000000∧(zvT w.out.F 9223372036854775808 0 w.out.n).isSome=true)) &&
 true)
 (cond (left == (0:Int))
 true
 (decide ((p89 w=true)) &&
 (zuM w left (0:Int) w.Net.Nodes w.Net.Ties (⟨0,(fun _=>default)⟩:Sl (Sl Int)) w.out.n w.out.F)))))
theorem zNd (w:web) (left:Int) (K:List PA×List XA→Prop) (hs:zKG w left=true) (hk:K (zDe left (zAX w left))):zkJ Tryd.prog zCj zfs 69 [.box 105 [.p (.int .i64 w.Net.Nodes),.p (.sl w.Net.Ties.len 4 (fun i=>enc_40 (w.Net.Ties.get i))),.mo 3 4 (false,1,false,[none]) w.out.n w.out.F],.d (.one (.int .i64 left))] (fun a b=>(WkM K) (a,b)):=by
  refine zbd (zCk w left (WkM K)) ?_
  unfold zKG at hs
  unfold zAX at hk
  exact (za2 hs fun hc hs => ⟨⟨isE, rfl, hc⟩, (zaZ (K := fun r => K (zDe left r))
 (fun hs hk=>(za2 hs fun hc hs=>⟨hc,(zxw hk)⟩))
 (fun hs hk => (zaZ (K := fun r => K (zDe left r))
 (fun hs hk=>(wkM hk (zib (.one (.nil _ _)) zow)))
 (fun hs hk=>(za2 hs fun hc hs=>⟨⟨(fun _=>rfl),isE,rfl,hc⟩,(zCl K w left (0:Int) w.Net.Nodes w.Net.Ties (⟨0,(fun _=>default)⟩:Sl (Sl Int)) w.out.n w.out.F (fun i=>enc_40 (w.Net.Ties.get i)) rfl (fun i=>zcl ((fun _=>default) i)) rfl hs hk)⟩)) hs hk)) hs hk)⟩)
def zI0 : MK
  | [.box 105 [.p (.int .i64 b0_Net_Nodes),.p (.sl b0_Net_Ties_n b0_Net_Ties_s b0_Net_Ties_g),.mo 3 4 b0_out_q b0_out_n b0_out_F],.d (.one (.int .i64 b1))]=>some (IsE enc_40 4 b0_Net_Ties_s b0_Net_Ties_g∧b0_out_q=(false,1,false,[none])∧zKG (⟨(⟨b0_Net_Nodes,(⟨b0_Net_Ties_n,zal b0_Net_Ties_g⟩:(Sl Tie))⟩:Net),(⟨b0_out_n,b0_out_F⟩:Mp)⟩:web) b1=true,[.one (.sl (((zAX (⟨(⟨b0_Net_Nodes,(⟨b0_Net_Ties_n,zal b0_Net_Ties_g⟩:(Sl Tie))⟩:Net),(⟨b0_out_n,b0_out_F⟩:Mp)⟩:web) b1).1).len) 1 (fun i=>zcl (((zAX (⟨(⟨b0_Net_Nodes,(⟨b0_Net_Ties_n,zal b0_Net_Ties_g⟩:(Sl Tie))⟩:Net),(⟨b0_out_n,b0_out_F⟩:Mp)⟩:web) b1).1).get i)))],[.box 105 [.p (.int .i64 (((zAX (⟨(⟨b0_Net_Nodes,(⟨b0_Net_Ties_n,zal b0_Net_Ties_g⟩:(Sl Tie))⟩:Net),(⟨b0_out_n,b0_out_F⟩:Mp)⟩:web) b1).2).Net.Nodes)),.p (.sl (((zAX (⟨(⟨b0_Net_Nodes,(⟨b0_Net_Ties_n,zal b0_Net_Ties_g⟩:(Sl Tie))⟩:Net),(⟨b0_out_n,b0_out_F⟩:Mp)⟩:web) b1).2).Net.Ties.len) 4 (fun i=>enc_40 (((zAX (⟨(⟨b0_Net_Nodes,(⟨b0_Net_Ties_n,zal b0_Net_Ties_g⟩:(Sl Tie))⟩:Net),(⟨b0_out_n,b0_out_F⟩:Mp)⟩:web) b1).2).Net.Ties.get i))),.mo 3 4 (false,1,false,[none]) ((((zAX (⟨(⟨b0_Net_Nodes,(⟨b0_Net_Ties_n,zal b0_Net_Ties_g⟩:(Sl Tie))⟩:Net),(⟨b0_out_n,b0_out_F⟩:Mp)⟩:web) b1).2).out).n) ((((zAX (⟨(⟨b0_Net_Nodes,(⟨b0_Net_Ties_n,zal b0_Net_Ties_g⟩:(Sl Tie))⟩:Net),(⟨b0_out_n,b0_out_F⟩:Mp)⟩:web) b1).2).out).F)],.d (.one (.int .i64 b1))])
  | _=>none
theorem zI1:zaw Tryd.prog 69:=⟨_,rfl,rfl,by kernel_rfl⟩
theorem zLs (hself:zju Tryd.prog 69 zyn):zju Tryd.prog 69 zI0:=zBT (zLr hself) zI1 fun xs safe rs ys h hs K hk=>by
  unfold zI0 at h
  split at h
  · rename_i b0_Net_Nodes b0_Net_Ties_n b0_Net_Ties_s b0_Net_Ties_g b0_out_q b0_out_n b0_out_F b1
    simp only [Option.some.injEq,Prod.mk.injEq] at h
    obtain ⟨rfl,rfl,rfl⟩:=h
    obtain ⟨⟨rfl,b0_Net_Ties_f,rfl⟩,rfl,hs⟩:=hs
    try rw [zam b0_Net_Ties_f] at hs
    try rw [zam b0_Net_Ties_f] at hk
    refine ⟨fun _ _=>[],fun _=>false,zfs,?_⟩
    show zkJ Tryd.prog zCj zfs 69 _ _
    exact zNd (⟨(⟨b0_Net_Nodes,(⟨b0_Net_Ties_n,b0_Net_Ties_f⟩:(Sl Tie))⟩:Net),(⟨b0_out_n,b0_out_F⟩:Mp)⟩:web) b1 (fun x=>K x.1 x.2) hs hk
  · cases h
end
def zvJ : Nat → Rec69
  | 0=>⟨fun _ _=>default,fun _ _=>false⟩
  | k+1=>⟨@zAX ⟨zvJ k⟩,@zKG ⟨zvJ k⟩⟩
theorem zI2 : ∀ k, zju Tryd.prog 69 (@zyn ⟨zvJ k⟩)
  | 0=>fun xs ys safe rs h hs=>by
    unfold zyn at h
    split at h
    · simp only [Option.some.injEq, Prod.mk.injEq] at h
      obtain ⟨rfl,rfl,rfl⟩:=h
      exact absurd hs.2.2 Bool.false_ne_true
    · cases h
  | k+1=>@zLs ⟨zvJ k⟩ (zI2 k)
def s69 (w:web) (left:Int):((Sl (Sl Int))×web):=(zvJ 64).S w left
def p69 (w:web) (left:Int):Bool:=(zvJ 64).P w left
def zI3 : MK
  | [.box 105 [.p (.int .i64 b0_Net_Nodes),.p (.sl b0_Net_Ties_n b0_Net_Ties_s b0_Net_Ties_g),.mo 3 4 b0_out_q b0_out_n b0_out_F],.d (.one (.int .i64 b1))]=>some (IsE enc_40 4 b0_Net_Ties_s b0_Net_Ties_g∧b0_out_q=(false,1,false,[none])∧p69 (⟨(⟨b0_Net_Nodes,(⟨b0_Net_Ties_n,zal b0_Net_Ties_g⟩:(Sl Tie))⟩:Net),(⟨b0_out_n,b0_out_F⟩:Mp)⟩:web) b1=true,[.one (.sl (((s69 (⟨(⟨b0_Net_Nodes,(⟨b0_Net_Ties_n,zal b0_Net_Ties_g⟩:(Sl Tie))⟩:Net),(⟨b0_out_n,b0_out_F⟩:Mp)⟩:web) b1).1).len) 1 (fun i=>zcl (((s69 (⟨(⟨b0_Net_Nodes,(⟨b0_Net_Ties_n,zal b0_Net_Ties_g⟩:(Sl Tie))⟩:Net),(⟨b0_out_n,b0_out_F⟩:Mp)⟩:web) b1).1).get i)))],[.box 105 [.p (.int .i64 (((s69 (⟨(⟨b0_Net_Nodes,(⟨b0_Net_Ties_n,zal b0_Net_Ties_g⟩:(Sl Tie))⟩:Net),(⟨b0_out_n,b0_out_F⟩:Mp)⟩:web) b1).2).Net.Nodes)),.p (.sl (((s69 (⟨(⟨b0_Net_Nodes,(⟨b0_Net_Ties_n,zal b0_Net_Ties_g⟩:(Sl Tie))⟩:Net),(⟨b0_out_n,b0_out_F⟩:Mp)⟩:web) b1).2).Net.Ties.len) 4 (fun i=>enc_40 (((s69 (⟨(⟨b0_Net_Nodes,(⟨b0_Net_Ties_n,zal b0_Net_Ties_g⟩:(Sl Tie))⟩:Net),(⟨b0_out_n,b0_out_F⟩:Mp)⟩:web) b1).2).Net.Ties.get i))),.mo 3 4 (false,1,false,[none]) ((((s69 (⟨(⟨b0_Net_Nodes,(⟨b0_Net_Ties_n,zal b0_Net_Ties_g⟩:(Sl Tie))⟩:Net),(⟨b0_out_n,b0_out_F⟩:Mp)⟩:web) b1).2).out).n) ((((s69 (⟨(⟨b0_Net_Nodes,(⟨b0_Net_Ties_n,zal b0_Net_Ties_g⟩:(Sl Tie))⟩:Net),(⟨b0_out_n,b0_out_F⟩:Mp)⟩:web) b1).2).out).F)],.d (.one (.int .i64 b1))])
  | _=>none
theorem zNe:zju Tryd.prog 69 zI3:=zI2 64
abbrev T71:Tabs:=(Tabs.nil.addF 101 zuz)
theorem zLt:TabsOk Tryd.prog T71:=(TabsOk.nil.addF zIR)
abbrev G71:Ctrs:=csm T71 (fun _ _=>[]) (fun _=>false)
def zE3:Ann:=⟨36,[(0,zK [0,1] []),(1,zK [0,1,9,10,11] []),(2,zK [0,1,9,10,11,12] []),(3,zK [0,1,5,6,9,10,11] []),(4,zK [0,1,5,6,9,10,11,19] []),(5,zK [4] []),(6,zK [0,1,6,7,9,10,11] []),(7,zK [0,1,8,9,10,11] []),(8,zK [0,1,8,9,10,11,28] []),(9,zK [4] []),(10,zK [0,1,9,10,11] []),(11,zK [35] []),(12,zK [4] []),(13,zK [4] [])],
 [(2,zK [0,1,9,10,11] [])],
 [(6,zK [0,1,5,6,9,10,11] []),(8,zK [0,1,8,9,10,11] [])],
 [],[]⟩
abbrev R71:=Int
abbrev e71 (r:R71):List PA:=[.one (.int .i64 r)]
@[irreducible] def z71:=ptF Tryd.prog G71 zE3 Tryd.f71
def zDf (zeH:(Sl Int)) (zee:(Sl Int)) (zhc:(Sl Int)) (zaL:Int) (za1:Int) (zdt:Nat→List PV) (zdu:Nat→List PV) (zjo:Nat→List PV):St:=⟨[(0,zP (.sl zeH.len 1 zdt)),(1,zP (.sl zee.len 1 zdu)),(9,zP (.sl zhc.len 1 zjo)),(10,zI zaL),(11,zI za1)],[],[]⟩
abbrev zCm (K:List PA→Prop) (X:St→Prop) (P:(Sl Int)→(Sl Int)→(Sl Int)→Int→Int→Bool) (S:(Sl Int)→(Sl Int)→(Sl Int)→Int→Int→Int):Prop:=∀ ⦃zeH:(Sl Int)⦄ ⦃zee:(Sl Int)⦄ ⦃zhc:(Sl Int)⦄ ⦃zaL:Int⦄ ⦃za1:Int⦄ ⦃zdt:Nat→List PV⦄ ⦃zdu:Nat→List PV⦄ ⦃zjo:Nat→List PV⦄,P zeH zee zhc zaL za1=true→K (e71 (S zeH zee zhc zaL za1))→zdt=zg enc_3 zeH→zdu=zg enc_3 zee→zjo=zg enc_3 zhc→X (zDf zeH zee zhc zaL za1 zdt zdu zjo)
section
variable {K:List PA→Prop} {s1_a0:(Sl Int)} {s2_a1:(Sl Int)} {zeH:(Sl Int)} {zee:(Sl Int)} {zhc:(Sl Int)} {zaL:Int} {za1:Int} {zdt:Nat→List PV} {zdu:Nat→List PV} {zjo:Nat→List PV} {X0:St→Prop} {P0:(Sl Int)→(Sl Int)→(Sl Int)→Int→Int→Bool} {S0:(Sl Int)→(Sl Int)→(Sl Int)→Int→Int→Int} {zpA:(Sl Int)} {zjN:(Sl Int)} {iv1:Int} {zE4:Int} {zrH:(Sl Int)} {zh8:Int} {zcY:Int} {zpB:Nat→List PV} {zpC:Nat→List PV} {zDg:Nat→List PV} {zpD:(Sl Int)} {zpE:(Sl Int)} {cv2:Int} {zrI:Int} {zpF:Nat→List PV} {zpG:Nat→List PV}
def zyo (S0:(Sl Int)→(Sl Int)→(Sl Int)→Int→Int→Int) (zrH:(Sl Int)) (zh8:Int) (zpD:(Sl Int)) (zpE:(Sl Int)) (cv2:Int) (zrI:Int):Int :=
  (cond (cv2 != (0:Int))
 cv2
 (S0 zpD zpE zrH zh8 (w64 (zrI+(1:Int)))))
def zyp (P0:(Sl Int)→(Sl Int)→(Sl Int)→Int→Int→Bool) (zrH:(Sl Int)) (zh8:Int) (zpD:(Sl Int)) (zpE:(Sl Int)) (cv2:Int) (zrI:Int):Bool :=
  (cond (cv2 != (0:Int))
 true
 (P0 zpD zpE zrH zh8 (w64 (zrI+(1:Int)))))
theorem zE5 (hX0:zCm K X0 P0 S0) (hs:zyp P0 zrH zh8 zpD zpE cv2 zrI=true) (hk:K (e71 (zyo S0 zrH zh8 zpD zpE cv2 zrI))) (zxZ:zpF=zg enc_3 zpD) (zx0:zpG=zg enc_3 zpE):z71 K [1,0,1,0,0,1,1,0,0,1,1,1,1] [X0] ⟨[(0,zP (.sl zpD.len 1 zpF)),(1,zP (.sl zpE.len 1 zpG)),(8,zI cv2),(9,zS enc_3 1 zrH),(10,zI zh8),(11,zI zrI)],[],[]⟩:=by subst zxZ;subst zx0;exact zbd (by kernel_rfl) (zc hs hk (fun hs hk=>hk) (fun hs hk=>(hX0 hs hk rfl rfl rfl)))
def zyq (S0:(Sl Int)→(Sl Int)→(Sl Int)→Int→Int→Int) (zpA:(Sl Int)) (zjN:(Sl Int)) (iv1:Int) (zE4:Int) (zrH:(Sl Int)) (zh8:Int) (zcY:Int):Int :=
  (zyo S0 zrH zh8 zpA zjN (zAW zE4 (zjN.get iv1.toNat)) zcY)
def zyr (P0:(Sl Int)→(Sl Int)→(Sl Int)→Int→Int→Bool) (zpA:(Sl Int)) (zjN:(Sl Int)) (iv1:Int) (zE4:Int) (zrH:(Sl Int)) (zh8:Int) (zcY:Int):Bool :=
  (decide ((0≤iv1∧iv1 < (zjN.len:Int))) &&
 (zyp P0 zrH zh8 zpA zjN (zAW zE4 (zjN.get iv1.toNat)) zcY))
theorem zE6 (hX0:zCm K X0 P0 S0) (hs:zyr P0 zpA zjN iv1 zE4 zrH zh8 zcY=true) (hk:K (e71 (zyq S0 zpA zjN iv1 zE4 zrH zh8 zcY))) (zx1:zpB=zg enc_3 zpA) (zx2:zpC=zg enc_3 zjN) (zI4:zDg=zg enc_3 zrH):z71 K [1,0,1,0,0,1,1,0,0,1,1] [X0] ⟨[(0,zP (.sl zpA.len 1 zpB)),(1,zP (.sl zjN.len 1 zpC)),(5,zI iv1),(6,zI zE4),(9,zP (.sl zrH.len 1 zDg)),(10,zI zh8),(11,zI zcY)],[],[]⟩:=by subst zx1;subst zx2;subst zI4;exact zbd (by kernel_rfl) (za2 hs fun hc hs=>And.intro hc (zE5 hX0 hs hk rfl rfl))
def zys (S0:(Sl Int)→(Sl Int)→(Sl Int)→Int→Int→Int) (zeH:(Sl Int)) (zee:(Sl Int)) (zhc:(Sl Int)) (zaL:Int) (za1:Int):Int :=
  (cond (decide (za1 < zaL))
 (cond (decide (za1 ≥ (zee.len : Int)))
 (1:Int)
 (zyq S0 zeH zee za1 (zhc.get za1.toNat) zhc zaL za1))
 (cond (decide ((zeH.len : Int) < (zee.len : Int)))
 (-1:Int)
 (0:Int)))
def zyt (P0:(Sl Int)→(Sl Int)→(Sl Int)→Int→Int→Bool) (zeH:(Sl Int)) (zee:(Sl Int)) (zhc:(Sl Int)) (zaL:Int) (za1:Int):Bool :=
  (cond (decide (za1 < zaL))
 (decide ((0≤za1∧za1 < (zhc.len:Int))) &&
 (cond (decide (za1 ≥ (zee.len : Int)))
 true
 (zyr P0 zeH zee za1 (zhc.get za1.toNat) zhc zaL za1)))
 true)
def zyu:Nat→(Sl Int)→(Sl Int)→(Sl Int)→Int→Int→Int:=lpO (fun _ _ _ _ _=>default) (zys)
def zyv:Nat→(Sl Int)→(Sl Int)→(Sl Int)→Int→Int→Bool:=lpO (fun _ _ _ _ _=>false) (zyt)
def zyw (zeH:(Sl Int)) (zee:(Sl Int)) (zhc:(Sl Int)) (zaL:Int) (za1:Int):Int:=zyu Fuel zeH zee zhc zaL za1
def zyx (zeH:(Sl Int)) (zee:(Sl Int)) (zhc:(Sl Int)) (zaL:Int) (za1:Int):Bool:=zyv Fuel zeH zee zhc zaL za1
theorem zE7 (hs:zyx zeH zee zhc zaL za1=true) (hk:K (e71 (zyw zeH zee zhc zaL za1))) (zkY:zdt=zg enc_3 zeH) (zkZ:zdu=zg enc_3 zee) (zyy:zjo=zg enc_3 zhc):z71 K [1,0,1,0] [] (zDf zeH zee zhc zaL za1 zdt zdu zjo) :=
  zl (fun X=>z71 K [1,0,1,0,0] [X]) (by kernel_rfl) fun X0 hX =>
  (show ∀ k, zCm K X0 (zyv k) (zyu k) from zjH _ _ (zyt) (zys) (zCm K X0)
 (by intro _ _ _ _ _ _ _ _ hs;exact absurd hs Bool.false_ne_true)
 (by intro P0 S0 hX0 zeH zee zhc zaL za1 zdt zdu zjo hs hk zkY zkZ zyy;subst zkY;subst zkZ;subst zyy;exact hX _ (zbd (by kernel_rfl) (zc hs hk (fun hs hk=>(za2 hs fun hc hs=>And.intro hc (zc hs hk (fun hs hk=>hk) (fun hs hk=>(zE6 hX0 hs hk rfl rfl rfl))))) (fun hs hk=>(zt hk (fun hk=>hk) (fun hk=>hk))))))) _ hs hk zkY zkZ zyy
def s71 (s1_a0:(Sl Int)) (s2_a1:(Sl Int)):Int :=
  (zyw s1_a0 s2_a1 s1_a0 (s1_a0.len:Int) (0:Int))
def p71 (s1_a0:(Sl Int)) (s2_a1:(Sl Int)):Bool :=
  (zyx s1_a0 s2_a1 s1_a0 (s1_a0.len:Int) (0:Int))
end
theorem q71 (s1_a0:(Sl Int)) (s2_a1:(Sl Int)) (K:List PA→Prop) (hs:p71 s1_a0 s2_a1=true) (hk:K (e71 (s71 s1_a0 s2_a1))):vcFun Tryd.prog G71 zE3 71 [.one (.sl s1_a0.len 1 (fun i=>enc_3 (s1_a0.get i))),.one (.sl s2_a1.len 1 (fun i=>enc_3 (s2_a1.get i)))] K :=
  zbd (by kernel_rfl) (zE7 hs hk rfl rfl rfl)
def zE8 : List PA → COut
  | [.one (.sl zfU zmL zfV),.one (.sl zd2 ziD zdU)]=>.det (IsE enc_3 1 zmL zfV∧IsE enc_3 1 ziD zdU∧p71 (⟨zfU,zar zfV⟩:(Sl Int)) (⟨zd2,zar zdU⟩:(Sl Int))=true) [.one (.int .i64 (s71 (⟨zfU,zar zfV⟩:(Sl Int)) (⟨zd2,zar zdU⟩:(Sl Int))))]
  | _=>.no
theorem zI5:zaw Tryd.prog 71:=⟨_,rfl,rfl,by kernel_rfl⟩
theorem zNf:Ok Tryd.prog 71 zE8:=zbF zLt zI5 fun args K h=>by
  unfold zE8 at h
  split at h
  · rename_i zfU zmL zfV zd2 ziD zdU
    obtain ⟨⟨⟨rfl,ziC,rfl⟩,⟨rfl,zfX,rfl⟩,hs⟩,hk⟩:=h
    try rw [zbm ziC] at hs
    try rw [zbm ziC] at hk
    try rw [zbm zfX] at hs
    try rw [zbm zfX] at hk
    exact ⟨(fun _ _=>[]),(fun _=>false),zE3,q71 (⟨zfU,ziC⟩:(Sl Int)) (⟨zd2,zfX⟩:(Sl Int)) K hs hk⟩
  · exact h.elim
abbrev T70:Tabs:=(Tabs.nil.addF 71 zE8)
theorem zLu:TabsOk Tryd.prog T70:=(TabsOk.nil.addF zNf)
abbrev G70:Ctrs:=csm T70 (fun _ _=>[]) (fun _=>false)
def zE9:Ann:=⟨33,[(0,zK [0,1] []),(1,zK [0,1,9] []),(3,zK [0,1,5] []),(4,zK [0,1,5,6] []),(5,zK [0,1,5,6,17] []),(6,zK [0,1,5,6] []),(7,zK [0,1,5,6,27] []),(8,zK [0,1,5,6] []),(9,zK [4] [])],
 [(5,zK [0,1,5,6] [])],
 [(3,zK [0,1] []),(8,zK [0,1,5,6,27] [])],
 [],[]⟩
abbrev R70:=(Sl Int)
abbrev e70 (r:R70):List PA:=[.one (.sl r.len 1 (fun i=>enc_3 (r.get i)))]
@[irreducible] def z70:=ptF Tryd.prog G70 zE9 Tryd.f70
def zDh (x:(Sl (Sl Int))) (mv1:(Sl Int)) (iv1:Int) (zpR:Nat→List PV):St:=⟨[(0,zS zcl 1 x),(1,zP (.fn 71 [] [])),(5,zP (.sl mv1.len 1 zpR)),(6,zI iv1)],[],[]⟩
abbrev zFa (K:List PA→Prop) (x:(Sl (Sl Int))) (X:St→Prop) (P:(Sl Int)→Int→Bool) (S:(Sl Int)→Int→(Sl Int)):Prop:=∀ ⦃mv1:(Sl Int)⦄ ⦃iv1:Int⦄ ⦃zpR:Nat→List PV⦄,P mv1 iv1=true→K (e70 (S mv1 iv1))→zpR=zg enc_3 mv1→X (zDh x mv1 iv1 zpR)
section
variable {K:List PA→Prop} {x:(Sl (Sl Int))} {mv1:(Sl Int)} {iv1:Int} {zpR:Nat→List PV} {X1:St→Prop} {P1:(Sl Int)→Int→Bool} {S1:(Sl Int)→Int→(Sl Int)} {mv2:(Sl Int)} {iv2:Int} {zrJ:Bool} {zI6:Nat→List PV}
def zyz (S1:(Sl Int)→Int→(Sl Int)) (x:(Sl (Sl Int))) (mv2:(Sl Int)) (iv2:Int) (zrJ:Bool):(Sl Int) :=
  (cond zrJ
 (S1 (x.get iv2.toNat) (w64 (iv2+(1:Int))))
 (S1 mv2 (w64 (iv2+(1:Int)))))
def zyA (P1:(Sl Int)→Int→Bool) (x:(Sl (Sl Int))) (mv2:(Sl Int)) (iv2:Int) (zrJ:Bool):Bool :=
  (cond zrJ
 (decide ((0≤iv2∧iv2 < (x.len:Int))) &&
 (P1 (x.get iv2.toNat) (w64 (iv2+(1:Int)))))
 (P1 mv2 (w64 (iv2+(1:Int)))))
theorem zFb (hX1:zFa K x X1 P1 S1) (hs:zyA P1 x mv2 iv2 zrJ=true) (hk:K (e70 (zyz S1 x mv2 iv2 zrJ))) (zLv:zI6=zg enc_3 mv2):z70 K [1,1,1,0,1,0,0,1,0,0,1] [X1] ⟨[(0,zS zcl 1 x),(1,zP (.fn 71 [] [])),(5,zP (.sl mv2.len 1 zI6)),(6,zI iv2),(27,zB zrJ)],[],[]⟩:=by subst zLv;exact zbd (by kernel_rfl) (zc hs hk (fun hs hk=>(za2 hs fun hc hs=>And.intro hc (hX1 hs hk rfl))) (fun hs hk=>(hX1 hs hk rfl)))
def zyB (x:(Sl (Sl Int))) (S1:(Sl Int)→Int→(Sl Int)) (mv1:(Sl Int)) (iv1:Int):(Sl Int) :=
  (cond (decide (iv1 < (x.len : Int)))
 (zyz S1 x mv1 iv1 (decide ((s71 (x.get iv1.toNat) mv1) < (0:Int))))
 mv1)
def zyC (x:(Sl (Sl Int))) (P1:(Sl Int)→Int→Bool) (mv1:(Sl Int)) (iv1:Int):Bool :=
  (cond (decide (iv1 < (x.len : Int)))
 (decide ((0≤iv1∧iv1 < (x.len:Int))) &&
 (decide ((p71 (x.get iv1.toNat) mv1=true)) &&
 (zyA P1 x mv1 iv1 (decide ((s71 (x.get iv1.toNat) mv1) < (0:Int))))))
 true)
def zyD (x:(Sl (Sl Int))):Nat→(Sl Int)→Int→(Sl Int):=lpO (fun _ _=>default) (zyB x)
def zyE (x:(Sl (Sl Int))):Nat→(Sl Int)→Int→Bool:=lpO (fun _ _=>false) (zyC x)
def zyF (x:(Sl (Sl Int))) (mv1:(Sl Int)) (iv1:Int):(Sl Int):=zyD x Fuel mv1 iv1
def zyG (x:(Sl (Sl Int))) (mv1:(Sl Int)) (iv1:Int):Bool:=zyE x Fuel mv1 iv1
theorem zFc (hs:zyG x mv1 iv1=true) (hk:K (e70 (zyF x mv1 iv1))) (zFd:zpR=zg enc_3 mv1):z70 K [1,1,1,0,1,0] [] (zDh x mv1 iv1 zpR) :=
  zl (fun X=>z70 K [1,1,1,0,1,0,0] [X]) (by kernel_rfl) fun X1 hX =>
  (show ∀ k, zFa K x X1 (zyE x k) (zyD x k) from zjH _ _ (zyC x) (zyB x) (zFa K x X1)
 (by intro _ _ _ hs;exact absurd hs Bool.false_ne_true)
 (by intro P1 S1 hX1 mv1 iv1 zpR hs hk zFd;subst zFd;exact hX _ (zbd (by kernel_rfl) (zc hs hk (fun hs hk=>(za2 hs fun hc hs=>And.intro hc (za2 hs fun hc hs=>And.intro (And.intro (zE enc_3 1 ((x.get iv1.toNat).get)) (And.intro (zE enc_3 1 mv1.get) hc)) (zFb hX1 hs hk rfl)))) (fun hs hk=>hk))))) _ hs hk zFd
def zyH (x:(Sl (Sl Int))):(Sl Int) :=
  (zyF x (x.get 0) (1:Int))
def zyI (x:(Sl (Sl Int))):Bool :=
  (decide ((0≤(0:Int)∧(0:Int) < (x.len:Int))) &&
 (zyG x (x.get 0) (1:Int)))
theorem zFe (hs:zyI x=true) (hk:K (e70 (zyH x))):z70 K [1,1] [] ⟨[(0,zS zcl 1 x),(1,zP (.fn 71 [] []))],[],[]⟩:=zbd (by kernel_rfl) (za2 hs fun hc hs=>And.intro hc (zFc hs hk rfl))
def s70 (x:(Sl (Sl Int))):(Sl Int) :=
  (cond (decide ((x.len : Int) < (1:Int)))
 default
 (zyH x))
def p70 (x:(Sl (Sl Int))):Bool :=
  (cond (decide ((x.len : Int) < (1:Int)))
 false
 (zyI x))
end
theorem q70 (x:(Sl (Sl Int))) (K:List PA→Prop) (hs:p70 x=true) (hk:K (e70 (s70 x))):vcFun Tryd.prog G70 zE9 70 [.one (.sl x.len 1 (fun i=>zcl (x.get i))),.one (.fn 71 [] [])] K :=
  zbd (by kernel_rfl) (zc hs hk (fun hs hk=>(absurd hs Bool.false_ne_true:False)) (fun hs hk=>(zFe hs hk)))
def zFf : List PA → COut
  | [.one (.sl zfU zmL zfV),.one (.fn 71 [] [])]=>.det (IsE zcl 1 zmL zfV∧p70 (⟨zfU,znB zfV⟩:(Sl (Sl Int)))=true) [.one (.sl ((s70 (⟨zfU,znB zfV⟩:(Sl (Sl Int)))).len) 1 (fun i=>enc_3 ((s70 (⟨zfU,znB zfV⟩:(Sl (Sl Int)))).get i)))]
  | _=>.no
theorem zI7:zaw Tryd.prog 70:=⟨_,rfl,rfl,by kernel_rfl⟩
theorem zNg:Ok Tryd.prog 70 zFf:=zbF zLu zI7 fun args K h=>by
  unfold zFf at h
  split at h
  · rename_i zfU zmL zfV
    obtain ⟨⟨⟨rfl,ziC,rfl⟩,hs⟩,hk⟩:=h
    try rw [zkO ziC] at hs
    try rw [zkO ziC] at hk
    exact ⟨(fun _ _=>[]),(fun _=>false),zE9,q70 (⟨zfU,ziC⟩:(Sl (Sl Int))) K hs hk⟩
  · exact h.elim
end Go.Proofs
