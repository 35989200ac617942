/- Part 5 of what the proof rests on: a machine that runs functions of the program on pure values, proved sound; the functions that the law reaches, and what they compute. -/
import Derived.Test.YtedhjaaikeakoaaDoorQ4
import Derived.Sort.OwnSortedInts
import Derived.Lib.SlicesCompact
import Derived.Test.YtedhjaaikeakoaaDoorProg
import Derived.ProofKit
import Derived.Deep.Slices
import Derived.OpenShut
import Derived.Shelf.SlIterI.Nil
import Derived.Shelf.SortM.Plain
import Derived.Shelf.SortM.SortNone
import Derived.Ground.GgzProg
import Derived.Ground.SlgmProg
set_option linter.all false
namespace Go.Pm

structure Tabs where
  fn:List (Nat×(List PA→COut))
  own:List (Nat×OwnK)
  it:List (Nat×(List PA→Option (Prop×List (List PA))))
  mt:List (Nat×MK)
def zun : List (Nat × (List PA → COut)) → Nat → List PA → COut
  | [],_=>fun _=>.no
  | (k,c) :: r,n=>match Nat.beq k n with | true=>c | false=>zun r n
def zuo (l:List (Nat×OwnK)) (f:Nat):OwnK:=match lk l f with | some c=>c | none=>.none
def zA6 (l:List (Nat×(List PA→Option (Prop×List (List PA))))) (f:Nat):List PA→Option (Prop×List (List PA)):=match lk l f with | some c=>c | none=>fun _=>none
def csm (T:Tabs) (memo:Nat→Int→List Int) (vv:Nat→Bool):Ctrs:=⟨zun T.fn,zuo T.own,zA6 T.it,memo,vv,lk T.mt⟩
abbrev cs (T:Tabs):Ctrs:=csm T (fun _ _=>[]) (fun _=>false)
def Tabs.nil:Tabs:=⟨[],[],[],[]⟩
def Tabs.addF (T:Tabs) (f:Nat) (c:List PA→COut):Tabs:=⟨(f,c) :: T.fn,T.own,T.it,T.mt⟩
def Tabs.addO (T:Tabs) (f:Nat) (c:OwnK):Tabs:=⟨T.fn,(f,c) :: T.own,T.it,T.mt⟩
def Tabs.addI (T:Tabs) (f:Nat) (c:List PA→Option (Prop×List (List PA))):Tabs:=⟨T.fn,T.own,(f,c) :: T.it,T.mt⟩
def Tabs.addM (T:Tabs) (f:Nat) (c:MK):Tabs:=⟨T.fn,T.own,T.it,(f,c) :: T.mt⟩

theorem zGr {P:Program} {f:Nat} : Ok P f (fun _=>.no):=fun _ _ h=>h.elim
theorem zGs {P:Program} {f:Nat} : zzJ P f (fun _=>none):=fun _ _ _ h=>by cases h

structure TabsOk (P : Program) (T : Tabs) : Prop where
  fn:∀ x∈T.fn,Ok P x.1 x.2
  own:∀ x∈T.own,zms P x.1 x.2
  it:∀ x∈T.it,zzJ P x.1 x.2
  mt:∀ x∈T.mt,zhP P x.1 x.2
theorem TabsOk.nil {P:Program} : TabsOk P .nil:=⟨fun _ h=>(by cases h),fun _ h=>(by cases h),fun _ h=>(by cases h),fun _ h=>(by cases h)⟩
theorem TabsOk.addF {P:Program} {T:Tabs} (h:TabsOk P T) {f:Nat} {c:List PA→COut} (hc:Ok P f c):TabsOk P (T.addF f c) :=
 ⟨fun x hx=>(List.mem_cons.1 hx).elim (fun e=>by rw [e];exact hc) (fun hx=>h.fn x hx),h.own,h.it,h.mt⟩
theorem TabsOk.addO {P:Program} {T:Tabs} (h:TabsOk P T) {f:Nat} {c:OwnK} (hc:zms P f c):TabsOk P (T.addO f c) :=
 ⟨h.fn,fun x hx=>(List.mem_cons.1 hx).elim (fun e=>by rw [e];exact hc) (fun hx=>h.own x hx),h.it,h.mt⟩
theorem TabsOk.addI {P:Program} {T:Tabs} (h:TabsOk P T) {f:Nat} {c:List PA→Option (Prop×List (List PA))} (hc:zzJ P f c):TabsOk P (T.addI f c) :=
 ⟨h.fn,h.own,fun x hx=>(List.mem_cons.1 hx).elim (fun e=>by rw [e];exact hc) (fun hx=>h.it x hx),h.mt⟩
theorem TabsOk.addM {P:Program} {T:Tabs} (h:TabsOk P T) {f:Nat} {c:MK} (hc:zhP P f c):TabsOk P (T.addM f c) :=
 ⟨h.fn,h.own,h.it,fun x hx=>(List.mem_cons.1 hx).elim (fun e=>by rw [e];exact hc) (fun hx=>h.mt x hx)⟩
theorem TabsOk.all {P:Program} {T:Tabs} (h:TabsOk P T) (memo:Nat→Int→List Int) (vv:Nat→Bool):OkAll P (csm T memo vv):=by
 refine ⟨fun f C hC=>h.mt _ (zbM hC),fun f=>?_,fun f=>?_,fun f=>?_⟩
 ·show Ok P f (zun T.fn f)
  have key:∀ l:List (Nat×(List PA→COut)),(∀ x∈l,Ok P x.1 x.2)→Ok P f (zun l f):=by
   intro l
   induction l with
   | nil=>intro _;exact zGr
   | cons x l ih =>
    intro hl
    obtain ⟨k,c⟩:=x
    simp only [zun]
    split
    ·rename_i e
     have:=hl (k,c) List.mem_cons_self
     rw [← Nat.eq_of_beq_eq_true e];exact this
    ·exact ih fun x hx=>hl x (List.mem_cons_of_mem _ hx)
  exact key T.fn h.fn
 ·show zms P f (zuo T.own f)
  unfold zuo
  split
  ·rename_i c hc;exact h.own _ (zbM hc)
  ·trivial
 ·show zzJ P f (zA6 T.it f)
  unfold zA6
  split
  ·rename_i c hc;exact h.it _ (zbM hc)
  ·exact zGs

theorem zbJ {P : Program} {T : Tabs} (hT : TabsOk P T) {f : FuncId} {C : List PA → COut} (hc : zas P f)
    (h:∀ args K,(C args).wp K→∃ memo vv ann,vcFun P (csm T memo vv) ann f args K):Ok P f C :=
  zyO (hT.all (fun _ _=>[]) (fun _=>false)) hc h
theorem zA7 {P : Program} {T : Tabs} (hT : TabsOk P T) {f : FuncId} {C : MK} (hc : zas P f)
    (h:∀ xs safe rs ys,C xs=some (safe,rs,ys)→safe→∀ K:List PA→List XA→Prop,K rs ys→∃ memo vv ann,ziZ P (csm T memo vv) ann f xs K):zhP P f C :=
  zum (hT.all (fun _ _=>[]) (fun _=>false)) hc h
theorem zEo {P : Program} {T : Tabs} (hT : TabsOk P T) {f : FuncId} {C : List PA → Option (Prop × List (List PA))} (hc : zas P f)
    (h:∀ l caps safe ys,C caps=some (safe,ys)→safe→∃ memo vv ann,vcIter P (csm T memo vv) ann f l caps ys):zzJ P f C :=
  zyS (hT.all (fun _ _=>[]) (fun _=>false)) hc h
structure Sl (α : Type) where
  len:Nat
  get:Nat→α
instance {α:Type} [Inhabited α]:Inhabited (Sl α):=⟨⟨0,fun _=>default⟩⟩
abbrev w64 (x:Int):Int:=IntKind.i64.wrap x

def IsE {α:Type} (enc:α→List PV) (size s:Nat) (g:Nat→List PV):Prop:=s=size∧∃ f:Nat→α,g=fun i=>enc (f i)
theorem isE {α:Type} {enc:α→List PV} {size:Nat} {f:Nat→α} : IsE enc size size (fun i=>enc (f i)):=⟨rfl,f,rfl⟩
theorem zup {α:Type} {enc:α→List PV} {size:Nat} {x:α} : IsE enc size size (fun _=>enc x):=⟨rfl,fun _=>x,rfl⟩
def zkP {α:Type} (n:Nat) (get new:Nat→α):Nat→α:=fun j=>match Nat.ble n j with | true=>new (j - n) | false=>get j
theorem zyW {α:Type} {enc:α→List PV} {n:Nat} {f h:Nat→α} : appG n (fun i=>enc (f i)) (fun i=>enc (h i))=fun i=>enc (zkP n f h i):=by
 funext j;simp only [appG,zkP];cases Nat.ble n j <;> rfl
def zn8 {α : Type} (x : α) : List α → Nat → α
  | [],_=>x
  | y :: _,0=>y
  | _ :: r,i+1=>zn8 x r i
theorem zra {α:Type} {enc:α→List PV} {x y:α} {r:List α} : zbz (enc x :: enc y :: r.map enc)=fun i=>enc (zn8 x (x :: y :: r) i):=by
 have key:∀ (l:List α) (i:Nat),(match (l.map enc)[i]? with | some z=>z | none=>enc x)=enc (zn8 x l i):=by
  intro l
  induction l with
  | nil=>intro i;rfl
  | cons a l ih =>
   intro i
   cases i with
   | zero=>rfl
   | succ i=>simpa [zn8] using ih i
 funext i
 exact key (x :: y :: r) i
theorem zdS {α:Type} {enc:α→List PV} {size:Nat} {x y:α} (r:List α):IsE enc size size (zbz (enc x :: enc y :: r.map enc)):=⟨rfl,_,zra⟩

theorem zaP {b:Bool} {A B:Prop} {S S':Bool} {α:Type} {K:α→Prop} {x y:α} (h1:S=true→K x→A) (h2:S'=true→K y→B) (hs:cond b S S'=true) (hk:K (cond b x y)):zbA b A B:=by
 cases b
 ·exact h2 hs hk
 ·exact h1 hs hk
theorem zgv {b:Bool} {A B:Prop} {S S':Bool} {α β:Type} {f:α→β} {ys:List β} {x y:List α} (hs:cond b S S'=true) (hk:ys=(cond b x y).map f) (h1:S=true→ys=x.map f→A) (h2:S'=true→ys=y.map f→B):zbA b A B:=by
 cases b
 ·exact h2 hs hk
 ·exact h1 hs hk
theorem itY {α β:Type} {f:α→β} {ys:List β} {p:β} {x r:List α} {l:Nat} {A:List β→Prop} (hk:ys=x.map f) (e:x.map f=p :: r.map f) (h:∀ zs,zs=r.map f→A zs):l=l∧∃ z,ys=p :: z∧A z∧True :=
 ⟨rfl,_,hk.trans e,h _ rfl,trivial⟩
theorem za7 {C A:Prop} [d:Decidable C] {r:Bool} (hs:(decide C && r)=true) (k:C→r=true→A):A:=by
 rw [Bool.and_eq_true] at hs
 exact k (of_decide_eq_true hs.1) hs.2
abbrev Fuel:Nat:=9223372036854775808
def setT {α:Type} (i:Nat) (v:α) (get:Nat→α):Nat→α:=fun j=>match Nat.beq j i with | true=>v | false=>get j
theorem zi3 {α:Type} {enc:α→List PV} {n:Nat} {g g':Nat→List PV} {f h:Nat→α} (h1:g=fun i=>enc (f i)) (h2:g'=fun i=>enc (h i)):appG n g g'=fun i=>enc (zkP n f h i):=by
 subst h1;subst h2;exact zyW
theorem zkQ {α:Type} {enc:α→List PV} {i k:Nat} {g:Nat→List PV} {f:Nat→α} {new:List PV} {v:α} (h1:g=fun i=>enc (f i)) (h2:spl (enc (f i)) k new=enc v):zhT i k g new=fun j=>enc (setT i v f j):=by
 subst h1
 funext j
 simp only [zhT,setT]
 cases e:Nat.beq j i
 ·rfl
 ·have := Nat.eq_of_beq_eq_true e
  subst this;exact h2
def zsL (P:Program) (G:Ctrs) (ann:Ann) (hd:Nat) (ps:List Nat) (assign body:Code) (X:List (List PA)→St→Prop) (K:Exit→St→Prop) (y:List PA) (rest:List (List PA)) (s:St):Prop :=
 match lk ann.head hd with
 | some k=>match zgh ps y s.env with
  | some env=>vc P G ann assign (zzI (vc P G ann body (zko P k (X rest) K)) fun _ _=>False) ⟨env,s.objs,[]⟩
  | none=>False
 | none=>False
end Go.Pm
namespace Go.Pm
open Go Go.Sort

/-! Nil slices are slices of length 0. -/
inductive PVle : PV → PV → Prop
  | rfl (p:PV):PVle p p
  | nil (s:Nat) (g:Nat→List PV):PVle .nils (.sl 0 s g)
  | nilm (q:MQ):PVle .nilm (.fm q 0 (fun _=>none))
inductive PAle : PA → PA → Prop
  | one {p q:PV} : PVle p q→PAle (.one p) (.one q)
  | agg {l m:List PV} : RL PVle l m→PAle (.agg l) (.agg m)
theorem zgw {α β:Type} {R:α→β→Prop} : RL R [] []:=trivial
theorem zc5 {α β:Type} {R:α→β→Prop} {a:α} {b:β} {l:List α} {m:List β} (h:R a b) (h':RL R l m):RL R (a :: l) (b :: m):=⟨h,h'⟩
theorem zec {α : Type} {R : α → α → Prop} (h : ∀ a, R a a) : ∀ l : List α, RL R l l
  | []=>trivial
  | a :: l=>⟨h a,zec h l⟩
theorem zeA (a:PA):PAle a a:=by
 cases a with
 | one p=>exact .one (.rfl p)
 | agg l=>exact .agg (zec .rfl l)
def Wk (K:List PA→Prop) (l:List PA):Prop:=∃ l',RL PAle l l'∧K l'
theorem wk {K:List PA→Prop} {l l':List PA} (hk:K l') (h:RL PAle l l'):Wk K l:=⟨l',h,hk⟩
theorem zeB {K:List PA→Prop} {l:List PA} (hk:K l):Wk K l:=⟨l,zec zeA l,hk⟩
theorem zEp {h:Fz} {p q:PV} {v:Value} (e:PVle p q) (r:Rep h p v):Rep h q v:=by
 cases e with
 | rfl=>exact r
 | nil s g=>cases r;exact .sl0 s g
 | nilm q=>cases r;exact .fmn q _ (fun _ _=>rfl)
theorem zuq {α β γ : Type} {R : α → β → Prop} {S : α → γ → Prop} {T : γ → β → Prop} (h : ∀ a b c, S a c → R a b → T c b) : ∀ (l : List α) (m : List β) (k : List γ), RL S l k → RL R l m → RL T k m
  | [],[],[],_,_=>trivial
  | a :: l,b :: m,c :: k,hs,hr=>⟨h a b c hs.1 hr.1,zuq h l m k hs.2 hr.2⟩
  | [],_ :: _,[],_,hr=>hr.elim
  | [],_,_ :: _,hs,_=>hs.elim
  | _ :: _,_,[],hs,_=>hs.elim
  | _ :: _,[],_ :: _,_,hr=>hr.elim
theorem zyX {h:Fz} {a b:PA} {v:Value} (e:PAle a b) (r:paR h a v):paR h b v:=by
 cases e with
 | one e=>exact zEp e r
 | agg e =>
  obtain ⟨vs,rfl,hv⟩:=r
  exact ⟨vs,rfl,zuq (R:=Rep h) (S:=PVle) (T:=Rep h) (fun _ _ _ e r=>zEp e r) _ _ _ e hv⟩
theorem zur {h:Fz} {l m:List PA} {v:Value} (e:RL PAle l m) (r:zml h l v):zml h m v:=by
 match l,m,e,r with
 | [a],[b],e,r=>exact zyX e.1 r
 | [],[],_,r=>exact r
 | a :: b :: l,c :: d :: m,e,r =>
  obtain ⟨vs,hv,hr⟩:=r
  exact ⟨vs,hv,zuq (R:=paR h) (S:=PAle) (T:=paR h) (fun _ _ _ e r=>zyX e r) _ _ _ e hr⟩
 | [_],_ :: _ :: _,e,_=>exact e.2.elim
 | _ :: _ :: _,[_],e,_=>exact e.2.elim
 | [],_ :: _,e,_=>exact e.elim
 | _ :: _,[],e,_=>exact e.elim
theorem zeW {P : Program} {T : Tabs} (hT : TabsOk P T) {f : FuncId} {C : List PA → COut} (hc : zas P f)
    (h:∀ args K,(C args).wp K→∃ args',RL PAle args args'∧∃ memo vv ann,vcFun P (csm T memo vv) ann f args' (Wk K)):Ok P f C:=by
  intro args K hK w h0 vs hvs hfz hgl
  obtain ⟨args',hle,memo,vv,ann,hv⟩:=h args K hK
  refine ⟨hc,(zuf (hT.all memo vv) hv (zuq (R:=paR h0) (S:=PAle) (T:=paR h0) (fun _ _ _ e r=>zyX e r) _ _ _ hle hvs) hfz hgl).mono ?_⟩
  rintro e w' ⟨h',rs,v,⟨rs',hr,hk⟩,he,hres,rest⟩
  exact ⟨h',rs',v,hk,he,zur hr hres,rest⟩
theorem zyY {P : Program} {T : Tabs} (hT : TabsOk P T) {f : FuncId} {C : MK} (hc : zas P f)
    (h:∀ xs safe rs ys,C xs=some (safe,rs,ys)→safe→∀ K:List PA→List XA→Prop,K rs ys→∃ memo vv ann,ziZ P (csm T memo vv) ann f xs (fun a b=>Wk (fun a'=>K a' b) a)):zhP P f C:=by
  intro xs ys safe rs hC hs w h0 base vs hvs hn hK hw hgl hB
  obtain ⟨memo,vv,ann,hv⟩:=h xs safe rs ys hC hs (fun l zs=>l=rs∧zs=ys) ⟨rfl,rfl⟩
  refine ⟨hc,(zul (hT.all memo vv) hv hvs hn hK hw hgl hB).mono ?_⟩
  rintro e w' ⟨h',v,rs',ys',⟨rs2,hr,rfl,rfl⟩,he,hres,r⟩
  exact ⟨h',v,he,zur hr hres,r⟩
def WkM (K:List PA×List XA→Prop) (p:List PA×List XA):Prop:=Wk (fun a=>K (a,p.2)) p.1
theorem wkM {K:List PA×List XA→Prop} {l l':List PA} {b:List XA} (hk:K (l',b)) (h:RL PAle l l'):WkM K (l,b):=⟨l',h,hk⟩
theorem zus {K:List PA×List XA→Prop} {p:List PA×List XA} (hk:K p):WkM K p:=⟨p.1,zec zeA p.1,hk⟩
/-! Maps, as typed values; the keys of a map. -/
structure Mp where
  n:Nat
  F:List Int→Option (List Int)
instance:Inhabited Mp:=⟨⟨0,fun _=>none⟩⟩

end Go.Pm
namespace Go.Pm

abbrev zI (x:Int):DV:=.one (.c (.p (.int .i64 x)))
abbrev zB (x:Bool):DV:=.one (.c (.p (.bool x)))
abbrev zP (x:PV):DV:=.one (.c (.p x))
abbrev zp (L k:Nat):DV:=.one (.c (.ptr L k))
abbrev zv (L:Nat):DV:=.one (.c (.vec L))
abbrev zs {α:Type} (enc:α→List PV) (s:Nat) (x:Sl α):PV:=.sl x.len s (fun i=>enc (x.get i))
abbrev zS {α:Type} (enc:α→List PV) (s:Nat) (x:Sl α):DV:=zP (zs enc s x)
abbrev zm (l:List PV):List Cl:=l.map Cl.p
abbrev zi (x:Int):Cl:=.p (.int .i64 x)
abbrev zg {α:Type} (enc:α→List PV) (x:Sl α):Nat→List PV:=fun i=>enc (x.get i)
abbrev zK (a b:List Nat):Keep:=⟨a,b,[],[],[],[],[]⟩
theorem zE {α:Type} (enc:α→List PV) (size:Nat) (f:Nat→α):IsE enc size size (fun i=>enc (f i)):=⟨rfl,f,rfl⟩

theorem zut {α : Type} : ∀ (new l pre : List α), l.length = new.length → spl (pre ++ l) pre.length new = pre ++ new
  | [],l,pre,h=>by
    have:l=[]:=List.eq_nil_of_length_eq_zero h
    subst this;rfl
  | x :: r,[],pre,h=>by simp at h
  | x :: r,y :: l,pre,h=>by
    have e:=zut r l (pre ++ [x]) (by simpa using h)
    simp only [spl,List.append_assoc,List.singleton_append,List.length_append,List.length_singleton] at e ⊢
    rw [List.set_append_right _ _ (Nat.le_refl _),Nat.sub_self,List.set_cons_zero]
    exact e
theorem zlM {n:Nat} {F G:Nat→Int} : spl (zgT 0 n F) 0 (zgT 0 n G)=zgT 0 n G:=by
 have h:=zut (zgT 0 n G) (zgT 0 n F) [] (by rw [zei,zei])
 simpa using h
theorem zlN {n:Nat} {F:Nat→Int} : zgT 0 n F=zgT 0 n (zk5 (zm (zgT 0 n F))):=by
 refine List.ext_getElem? fun k=>?_
 by_cases hk:k < n
 ·rw [zgk n 0 F k hk, zgk n 0 _ k hk, Nat.zero_add]
  congr 2
  have h:(zm (zgT 0 n F))[k]? = some (.p (.int .i64 (F k))):=by
   rw [zm,List.getElem?_map,zgk n 0 F k hk,Nat.zero_add];rfl
  unfold zk5
  rw [h]
 ·rw [List.getElem?_eq_none (by rw [zei];omega),List.getElem?_eq_none (by rw [zei];omega)]

@[reducible] def lpO {A : Type} (d : A) (st : A → A) : Nat → A
  | 0=>d
  | k+1=>st (lpO d st k)
theorem zkR {A B : Type} (a : A) (b : B) (p : A → A) (s : B → B) (M : A → B → Prop) (h0 : M a b) (h1 : ∀ P S, M P S → M (p P) (s S)) : ∀ k, M (lpO a p k) (lpO b s k)
  | 0=>h0
  | k+1=>h1 _ _ (zkR a b p s M h0 h1 k)
def xcm (l:List PV):List XC:=l.map .p
def unX : List XC → List PV
  | []=>[]
  | .p v :: r=>v :: unX r
  | _ :: r=>.nilp :: unX r
theorem zuu : ∀ l : List PV, unX (xcm l) = l
  | []=>rfl
  | v :: r=>by show v :: unX (xcm r)=v :: r;rw [zuu r]
theorem zA8 {n:Nat} {F:Nat→Int} : xcm (zgT 0 n F)=xcm (zgT 0 n (zk5 (zm (unX (xcm (zgT 0 n F)))))):=by
 rw [zuu,← zlN]

section
variable (P:Program) (Γ:Ctrs) (ann:Ann)
def pt : Code → (Exit → St → Prop) → List Nat → List (St → Prop) → St → Prop
  | .seq a b,K,i :: r,X=>match i with | 0=>pt a (sqK P Γ ann b K) r X | _=>pt b K r X
  | .cond _ a b,K,i :: r,X=>match i with | 0=>pt a K r X | _=>pt b K r X
  | .block id b,K,_ :: r,X=>pt b (zak id K) r X
  | .loop b,K,_ :: r,x :: X=>pt b (zbb P ann (zkn b) x K) r X
  | .scope b,K,_ :: r,X=>pt b (zca K) r X
  | c,K,_,_=>vc P Γ ann c K
def ptF (fn:Func) (K:List PA→Prop) (l:List Nat) (X:List (St→Prop)):St→Prop :=
 match fn.body with
 | some c=>pt P Γ ann c (zba P fn K) l X
 | none=>fun _=>False
end

theorem zc {b:Bool} {A B:Prop} {S S':Bool} {α:Type} {e:α→List PA} {K:List PA→Prop} {x y:α} (hs:cond b S S'=true) (hk:K (e (cond b x y))) (h1:S=true→K (e x)→A) (h2:S'=true→K (e y)→B):zbA b A B:=by
 cases b
 ·exact h2 hs hk
 ·exact h1 hs hk
theorem zt {b:Bool} {A B:Prop} {α:Type} {e:α→List PA} {K:List PA→Prop} {x y:α} (hk:K (e (cond b x y))) (h1:K (e x)→A) (h2:K (e y)→B):zbA b A B:=by
 cases b
 ·exact h2 hk
 ·exact h1 hk
theorem zEq {b:Bool} {s:Prop} {r1 r2:List PA} {K:List PA→Prop} (h:(COut.alt b s r1 s r2).wp K):s∧K (cond b r1 r2):=by
 cases b
 ·exact h.2 rfl
 ·exact h.1 rfl
theorem zl {at_:Prop} {g:St} (B:(St→Prop)→St→Prop) (e:at_ = ∀ X:St→Prop,(∀ s,B X s→X s)→X g) (h:∀ X:St→Prop,(∀ s,B X s→X s)→X g):at_:=e ▸ h
end Go.Pm
namespace Go.Proofs
open Go Go.Pm
set_option maxRecDepth 100000
set_option linter.unusedVariables false
attribute [local irreducible] Go.Pm.vcFun Go.Pm.vc Go.Pm.vcIter
abbrev Tab:=Nat→Int
def tg (n:Nat) (F:Tab) (k:Nat):Int:=zk5 (zm (zgT 0 n F)) k
def ts (n:Nat) (F:Tab) (k:Nat) (vs:List Int):Tab:=zzD k vs (zk5 (zm (zgT 0 n F)))
abbrev zai (x:Int):List PV:=[.int .i64 x]
def zGt : List PV → Int
  | [.int .i64 x]=>x
  | _=>default
def zat (g:Nat→List PV):Nat→Int:=fun i=>zGt (g i)
theorem zbR (f:Nat→Int):zat (fun i=>zai (f i))=f:=rfl
structure Tie where
  From:Int
  To:Int
  Low:Int
  High:Int
deriving Inhabited
abbrev zaj (x:Tie):List PV:=[.int .i64 x.From,.int .i64 x.To,.int .i64 x.Low,.int .i64 x.High]
def zEr : List PV → Tie
  | [.int .i64 x_From,.int .i64 x_To,.int .i64 x_Low,.int .i64 x_High]=>(⟨x_From,x_To,x_Low,x_High⟩:Tie)
  | _=>default
def zaa (g:Nat→List PV):Nat→Tie:=fun i=>zEr (g i)
theorem zar (f:Nat→Tie):zaa (fun i=>zaj (f i))=f:=rfl
structure Net where
  Nodes:Int
  Ties:(Sl Tie)
deriving Inhabited
abbrev zcn (x:Net):List PV:=[.int .i64 x.Nodes,.sl x.Ties.len 4 (fun i=>zaj (x.Ties.get i))]
abbrev zb0 (x:(Sl Int)):List PV:=[.sl x.len 1 (fun i=>zai (x.get i))]
def zEs : List PV → (Sl Int)
  | [.sl x_n _ x_g]=>(⟨x_n,zat x_g⟩:(Sl Int))
  | _=>default
def zlO (g:Nat→List PV):Nat→(Sl Int):=fun i=>zEs (g i)
theorem zi4 (f:Nat→(Sl Int)):zlO (fun i=>zb0 (f i))=f:=rfl
structure Span where
  Low:Int
  High:Int
deriving Inhabited
abbrev zbu (x:Span):List PV:=[.int .i64 x.Low,.int .i64 x.High]
def zEt : List PV → Span
  | [.int .i64 x_Low,.int .i64 x_High]=>(⟨x_Low,x_High⟩:Span)
  | _=>default
def zeX (g:Nat→List PV):Nat→Span:=fun i=>zEt (g i)
theorem zes (f:Nat→Span):zeX (fun i=>zbu (f i))=f:=rfl
structure Pulse where
  A:Int
  B:Int
  TimeA:Int
  TimeB:Int
  Flight:Span
  Jitter:Int
deriving Inhabited
abbrev enc_85 (x:Pulse):List PV:=[.int .i64 x.A,.int .i64 x.B,.int .i64 x.TimeA,.int .i64 x.TimeB,.int .i64 x.Flight.Low,.int .i64 x.Flight.High,.int .i64 x.Jitter]
def zEu : List PV → Pulse
  | [.int .i64 x_A,.int .i64 x_B,.int .i64 x_TimeA,.int .i64 x_TimeB,.int .i64 x_Flight_Low,.int .i64 x_Flight_High,.int .i64 x_Jitter]=>(⟨x_A,x_B,x_TimeA,x_TimeB,(⟨x_Flight_Low,x_Flight_High⟩:Span),x_Jitter⟩:Pulse)
  | _=>default
def zcR (g:Nat→List PV):Nat→Pulse:=fun i=>zEu (g i)
theorem zcS (f:Nat→Pulse):zcR (fun i=>enc_85 (f i))=f:=rfl
abbrev zEv (x:(Sl Pulse)):List PV:=[.sl x.len 7 (fun i=>enc_85 (x.get i))]
structure Use where
  Tie:Int
  Back:Bool
deriving Inhabited
abbrev zaR (x:Use):List PV:=[.int .i64 x.Tie,.bool x.Back]
def zEw : List PV → Use
  | [.int .i64 x_Tie,.bool x_Back]=>(⟨x_Tie,x_Back⟩:Use)
  | _=>default
def zcT (g:Nat→List PV):Nat→Use:=fun i=>zEw (g i)
theorem zcU (f:Nat→Use):zcT (fun i=>zaR (f i))=f:=rfl
structure Flash where
  A:Int
  B:Int
  Time:Int
  Flight:Int
  Wrong:Int
deriving Inhabited
structure web where
  Net:Net
  out:Mp
deriving Inhabited
abbrev zaw (x:web):List PV:=[.int .i64 x.Net.Nodes,.sl x.Net.Ties.len 4 (fun i=>zaj (x.Net.Ties.get i)),.fm (false,1,false,[none]) x.out.n x.out.F]
structure far where
  length:Int
  uses:Int
deriving Inhabited
abbrev zb9 (x:far):List PV:=[.int .i64 x.length,.int .i64 x.uses]
def zA9 : List PV → far
  | [.int .i64 x_length,.int .i64 x_uses]=>(⟨x_length,x_uses⟩:far)
  | _=>default
def zh3 (g:Nat→List PV):Nat→far:=fun i=>zA9 (g i)
theorem zhA (f:Nat→far):zh3 (fun i=>zb9 (f i))=f:=rfl
abbrev zad (x:Tab):List PV:=zgT 0 80 x
def za6 (l:List PV):Tab:=zk5 (zm l)
structure Step where
  From:Int
  To:Int
  Length:Int
  Use:Use
deriving Inhabited
structure step where
  Use:Use
  from_:Int
  to:Int
  length:Int
deriving Inhabited
abbrev zae (x:step):List PV:=[.int .i64 x.Use.Tie,.bool x.Use.Back,.int .i64 x.from_,.int .i64 x.to,.int .i64 x.length]
def zBa : List PV → step
  | [.int .i64 x_Use_Tie,.bool x_Use_Back,.int .i64 x_from_,.int .i64 x_to,.int .i64 x_length]=>(⟨(⟨x_Use_Tie,x_Use_Back⟩:Use),x_from_,x_to,x_length⟩:step)
  | _=>default
def zgx (g:Nat→List PV):Nat→step:=fun i=>zBa (g i)
theorem zdT (f:Nat→step):zgx (fun i=>zae (f i))=f:=rfl
structure tie where
  Tie:Tie
  index:Int
deriving Inhabited
abbrev zuv (x:tie):List PV:=[.int .i64 x.Tie.From,.int .i64 x.Tie.To,.int .i64 x.Tie.Low,.int .i64 x.Tie.High,.int .i64 x.index]
abbrev zuw (x:Tab):List PV:=zgT 0 40 x
abbrev zaA (x:(Sl Tab)):List PV:=[.sl x.len 80 (fun i=>zad (x.get i))]
end Go.Proofs
namespace Go.Pm
open Go Go.Deep

theorem zyZ (b o i j:Nat):((⟨b,o,none⟩:Addr).add i).add j=⟨b,o+i+j,none⟩:=by
 simp only [Addr.add]
 by_cases h1:i=0
 ·subst h1
  by_cases h2:j=0
  ·subst h2;rfl
  ·rw [if_neg h2];rfl
 ·rw [if_neg h1]
  by_cases h2:j=0
  ·subst h2;rfl
  ·rw [if_neg h2]
def H0 (w:World):Fz:=fun b=>(w.heap[b]?).map .fz
theorem hw_H0 (w:World):Hw (H0 w) w:=by
 intro b x h
 unfold H0 at h
 cases e:w.heap[b]? with
 | none=>rw [e] at h;cases h
 | some o=>rw [e] at h;cases h;exact ⟨o,rfl,rfl⟩
def wfI (x:Int):Prop:=-9223372036854775808≤x∧x≤9223372036854775807
section
variable {H:Type} {en:TypeId×Value→H} {P:Program} {w:World} {sp:Nat→Bool} {held:Bool}
def Rd (H:Type) (en:TypeId×Value→H) (P:Program) (w:World) (sp:Nat→Bool) (held:Bool) (t:TypeId) {α:Type} (enc:α→List PV) (wf:α→Prop):Prop :=
 ∀ (fuel:Nat) (cs:List Value) (x:DataW H×List MemPlace),DataW.trod en P w 0 sp held fuel t cs=some x→∃ a:α,RL (Rep (H0 w)) (enc a) cs∧wf a
theorem zEx {t:TypeId} (ht:P.underlying t=some (.int .i64)):Rd H en P w sp held t (fun x=>[.int .i64 x]) wfI:=by
 intro fuel cs x h
 obtain ⟨n,rfl,_,hw⟩:=DataW.trod_int ht h
 refine ⟨n,⟨.int _ _,trivial⟩,?_⟩
 simp only [Lit.wf,Bool.and_eq_true,decide_eq_true_eq] at hw
 exact ⟨hw.1,hw.2⟩
theorem znb {t : TypeId} {fs : Array Field} (ht : P.underlying t = some (.struct fs)) {fuel : Nat} {cs : List Value} {x : DataW H × List MemPlace} (h : DataW.trod en P w 0 sp held fuel t cs = some x) :
  cs.length=P.cellsOf t∧∀ (i:Nat) (f:Field),fs[i]? = some f→∃ n y,DataW.trod en P w 0 sp held n f.type ((cs.drop f.offset).take (P.cellsOf f.type))=some y:=by
 obtain ⟨xs,n,_,_,hl,hx,hf⟩:=DataW.trod_struct ht h
 refine ⟨hl,fun i f hi=>?_⟩
 have hlt:i < xs.length:=by rw [hx];exact (Array.getElem?_eq_some_iff.1 hi).1
 exact ⟨n,xs[i],by rw [hf i f hi,List.getElem?_eq_getElem hlt]⟩
theorem zy0 {t e : TypeId} {α : Type} [Inhabited α] {enc : α → List PV} {wf : α → Prop} {s : Nat} (ht : P.underlying t = some (.slice e)) (hc : P.cellsOf e = s) (hs : 0 < s) (hlen : ∀ a, (enc a).length = s)
    (hel:Rd H en P w sp held e enc wf):Rd H en P w sp held t (fun x:Sl α=>[.sl x.len s (fun i=>enc (x.get i))]) (fun x=>x.len≤9223372036854775807∧∀ i,i < x.len→wf (x.get i)):=by
  intro fuel cs x h
  rcases open_slice ht h with ⟨rfl,_⟩ | ⟨a,len,cap,m,n,D,Pl,rfl,_,hl,hm,hmm,_,hget⟩
  · exact ⟨⟨0,default⟩,⟨.sl0 _ _,trivial⟩,Nat.zero_le _,fun i hi=>absurd hi (Nat.not_lt_zero i)⟩
  · by_cases h0 : len = 0
    · subst h0
      exact ⟨⟨0,default⟩,⟨.sle _ _ _ _,trivial⟩,Nat.zero_le _,fun i hi=>absurd hi (Nat.not_lt_zero i)⟩
    · have hlm : len ≤ m := by rw [hmm]; split <;> omega
      rw [hc] at hget
      have hex:∀ i,i < len→∃ y:α,(∃ cs',w.cells? 0 (a.add (i * s)) s=some cs'∧RL (Rep (H0 w)) (enc y) cs')∧wf y:=by
        intro i hi
        obtain ⟨cs',h1,h2⟩:=hget i (by omega)
        obtain ⟨y,h3,h4⟩:=hel _ _ _ h2
        exact ⟨y,⟨cs',h1,h3⟩,h4⟩
      have hch:∃ f:Nat→α,∀ i,i < len→(∃ cs',w.cells? 0 (a.add (i * s)) s=some cs'∧RL (Rep (H0 w)) (enc (f i)) cs')∧wf (f i):=by
        refine ⟨fun i=>if hi:i < len then Classical.choose (hex i hi) else default,fun i hi=>?_⟩
        simp only [dif_pos hi]
        exact Classical.choose_spec (hex i hi)
      obtain ⟨f,hf⟩:=hch
      -- the block
      have hcell:∀ i,i < len→∀ j,j < s→∃ cs',w.cells? 0 (a.add (i * s)) s=some cs'∧RL (Rep (H0 w)) (enc (f i)) cs'∧w.cell? ((a.add (i * s)).add j)=cs'[j]?∧cs'.length=s:=by
        intro i hi j hj
        obtain ⟨⟨cs',h1,h2⟩,_⟩:=hf i hi
        obtain ⟨_,h3,h4⟩:=World.cells?_some h1
        exact ⟨cs',h1,h2,h4 j hj,h3⟩
      obtain ⟨cs0,_,_,hc0,hl0⟩:=hcell 0 (by omega) 0 hs
      have ha0:w.cell? a=cs0[0]?:=by simpa [Addr.add] using hc0
      rw [List.getElem?_eq_getElem (by omega)] at ha0
      obtain ⟨C,ty,fr,hblk,hspot⟩:∃ C ty fr,w.heap[a.block]? = some (.cells C ty fr)∧a.spot=none:=by
        unfold World.cell? at ha0
        split at ha0
        · rename_i C ty fr hb
          refine ⟨C,ty,fr,hb,?_⟩
          cases hsp:a.spot with
          | none=>rfl
          | some k=>rw [hsp] at ha0;simp at ha0
        · cases ha0
      have ea:a=⟨a.block,a.off,none⟩:=by rw [← hspot]
      have hat:∀ i j,i < len→j < s→∃ cs',RL (Rep (H0 w)) (enc (f i)) cs'∧C[a.off+i * s+j]? = cs'[j]?∧cs'.length=s:=by
        intro i j hi hj
        obtain ⟨cs',_,h2,h3,h4⟩:=hcell i hi j hj
        refine ⟨cs',h2,?_,h4⟩
        rw [← h3]
        have e2:(a.add (i * s)).add j=⟨a.block,a.off+i * s+j,none⟩:=(congrArg (fun z:Addr=>(z.add (i * s)).add j) ea).trans (zyZ _ _ _ _)
        rw [e2]
        simp [World.cell?,hblk]
      refine ⟨⟨len,f⟩,⟨?_,trivial⟩,by simp only [maxLen] at hm;show len≤_;omega,fun i hi=>(hf i hi).2⟩
      rw [ea]
      refine .sl len s _ a.block a.off cap C ty fr (fun i j=>C.getD (a.off+i * s+j) undef) (by simp [H0,hblk]) hl (fun i _=>hlen _) ?_ ?_
      · intro i j x hi hx
        have hj:j < s:=by have:=(List.getElem?_eq_some_iff.1 hx).1;rw [hlen] at this;exact this
        obtain ⟨cs',h1,h2,h3⟩:=hat i j hi hj
        rw [Array.getD_eq_getD_getElem?,h2,List.getElem?_eq_getElem (by omega)]
        rfl
      · intro i j x hi hx
        have hj:j < s:=by have:=(List.getElem?_eq_some_iff.1 hx).1;rw [hlen] at this;exact this
        obtain ⟨cs',h1,h2,h3⟩:=hat i j hi hj
        obtain ⟨v,hv,hr⟩:=h1.get j x hx
        rw [Array.getD_eq_getD_getElem?,h2,hv]
        exact hr
theorem zcG {α:Type} (l:List α) (o s:Nat):l.drop o=(l.drop o).take s ++ l.drop (o+s):=by
 rw [← List.drop_drop]
 exact (List.take_append_drop s (l.drop o)).symm
def zGu : TypeDesc → Bool
  | .struct _=>false
  | .array _ _=>false
  | _=>true
theorem okWide_one {t:TypeId} {d:TypeDesc} {r:Reach} {base:Nat} {v:Value} (ht:P.underlying t=some d) (hd:zGu d=true) (h:Value.okWide P w r base t v):v.cells.toList=[v]:=by
 unfold Value.okWide at h
 rw [ht] at h
 cases v with
 | agg cs =>
  exfalso
  cases d <;> first | (cases hd;done) | (simp only [Cell.okWide,Cell.ok,ht] at h)
 | _=>rfl
theorem pa_one {h:Fz} {p:PV} {v:Value} (hv:v.cells.toList=[v]) (r:RL (Rep h) [p] v.cells.toList):paR h (.one p) v:=by
 rw [hv] at r
 exact r.1
theorem below_H0 {w':World} (b:Bel (H0 w) w.heap.size w w'):Go.RowKit.Below w.heap.size w w' :=
 ⟨b.os,b.tape,b.output,b.size,fun k hk=>b.block k hk fun F e=>by
  unfold H0 at e
  cases hb:w.heap[k]? <;> rw [hb] at e <;> cases e⟩
end
end Go.Pm
namespace Go.Proofs
open Go Go.Pm
set_option maxRecDepth 100000
set_option linter.unusedVariables false
attribute [local irreducible] Go.Pm.vcFun Go.Pm.vc Go.Pm.vcIter
theorem C_3:Tryd.prog.cellsOf 3=1:=by kernel_rfl
theorem zHC:Tryd.prog.cellsOf 43=2:=by kernel_rfl
theorem zHD:Tryd.prog.cellsOf 85=7:=by kernel_rfl
abbrev wf_3 (x:Int):Prop:=wfI x
theorem rd_3 {H:Type} {en:TypeId×Value→H} {w:World} {sp:Nat→Bool} {held:Bool} : Rd H en Tryd.prog w sp held 3 zai wf_3:=zEx Tryd.underlying3
def zEy (x:Span):Prop:=wf_3 x.Low∧wf_3 x.High
theorem zGv {H:Type} {en:TypeId×Value→H} {w:World} {sp:Nat→Bool} {held:Bool} : Rd H en Tryd.prog w sp held 43 zbu zEy:=by
  intro fuel cs x h
  obtain ⟨hl,hf⟩:=znb Tryd.underlying43 h
  rw [zHC] at hl
  obtain ⟨n0,y0,g0⟩:=hf 0 _ rfl
  have g0:DataW.trod en Tryd.prog w 0 sp held n0 3 ((cs.drop 0).take (Tryd.prog.cellsOf 3))=some y0:=g0
  rw [C_3] at g0
  obtain ⟨a0,r0,w0⟩:=rd_3 _ _ _ g0
  obtain ⟨n1,y1,g1⟩:=hf 1 _ rfl
  have g1:DataW.trod en Tryd.prog w 0 sp held n1 3 ((cs.drop 1).take (Tryd.prog.cellsOf 3))=some y1:=g1
  rw [C_3] at g1
  obtain ⟨a1,r1,w1⟩:=rd_3 _ _ _ g1
  have z:cs.drop 2=[]:=List.drop_eq_nil_of_le (by omega)
  have R:=(r0.append (r1.append (show RL (Rep (H0 w)) [] (cs.drop 2) by rw [z];exact zgw)))
  rw [← (show cs.drop 1=(cs.drop 1).take 1 ++ cs.drop 2 from zcG cs 1 1)] at R
  rw [← (show cs.drop 0=(cs.drop 0).take 1 ++ cs.drop 1 from zcG cs 0 1)] at R
  exact ⟨⟨a0,a1⟩,R,⟨w0,w1⟩⟩
def zEz (x:Pulse):Prop:=wf_3 x.A∧wf_3 x.B∧wf_3 x.TimeA∧wf_3 x.TimeB∧zEy x.Flight∧wf_3 x.Jitter
theorem zGw {H:Type} {en:TypeId×Value→H} {w:World} {sp:Nat→Bool} {held:Bool} : Rd H en Tryd.prog w sp held 85 enc_85 zEz:=by
  intro fuel cs x h
  obtain ⟨hl,hf⟩:=znb Tryd.underlying85 h
  rw [zHD] at hl
  obtain ⟨n0,y0,g0⟩:=hf 0 _ rfl
  have g0:DataW.trod en Tryd.prog w 0 sp held n0 3 ((cs.drop 0).take (Tryd.prog.cellsOf 3))=some y0:=g0
  rw [C_3] at g0
  obtain ⟨a0,r0,w0⟩:=rd_3 _ _ _ g0
  obtain ⟨n1,y1,g1⟩:=hf 1 _ rfl
  have g1:DataW.trod en Tryd.prog w 0 sp held n1 3 ((cs.drop 1).take (Tryd.prog.cellsOf 3))=some y1:=g1
  rw [C_3] at g1
  obtain ⟨a1,r1,w1⟩:=rd_3 _ _ _ g1
  obtain ⟨n2,y2,g2⟩:=hf 2 _ rfl
  have g2:DataW.trod en Tryd.prog w 0 sp held n2 3 ((cs.drop 2).take (Tryd.prog.cellsOf 3))=some y2:=g2
  rw [C_3] at g2
  obtain ⟨a2,r2,w2⟩:=rd_3 _ _ _ g2
  obtain ⟨n3,y3,g3⟩:=hf 3 _ rfl
  have g3:DataW.trod en Tryd.prog w 0 sp held n3 3 ((cs.drop 3).take (Tryd.prog.cellsOf 3))=some y3:=g3
  rw [C_3] at g3
  obtain ⟨a3,r3,w3⟩:=rd_3 _ _ _ g3
  obtain ⟨n4,y4,g4⟩:=hf 4 _ rfl
  have g4:DataW.trod en Tryd.prog w 0 sp held n4 43 ((cs.drop 4).take (Tryd.prog.cellsOf 43))=some y4:=g4
  rw [zHC] at g4
  obtain ⟨a4,r4,w4⟩:=zGv _ _ _ g4
  obtain ⟨n5,y5,g5⟩:=hf 5 _ rfl
  have g5:DataW.trod en Tryd.prog w 0 sp held n5 3 ((cs.drop 6).take (Tryd.prog.cellsOf 3))=some y5:=g5
  rw [C_3] at g5
  obtain ⟨a5,r5,w5⟩:=rd_3 _ _ _ g5
  have z:cs.drop 7=[]:=List.drop_eq_nil_of_le (by omega)
  have R:=(r0.append (r1.append (r2.append (r3.append (r4.append (r5.append (show RL (Rep (H0 w)) [] (cs.drop 7) by rw [z];exact zgw)))))))
  rw [← (show cs.drop 6=(cs.drop 6).take 1 ++ cs.drop 7 from zcG cs 6 1)] at R
  rw [← (show cs.drop 4=(cs.drop 4).take 2 ++ cs.drop 6 from zcG cs 4 2)] at R
  rw [← (show cs.drop 3=(cs.drop 3).take 1 ++ cs.drop 4 from zcG cs 3 1)] at R
  rw [← (show cs.drop 2=(cs.drop 2).take 1 ++ cs.drop 3 from zcG cs 2 1)] at R
  rw [← (show cs.drop 1=(cs.drop 1).take 1 ++ cs.drop 2 from zcG cs 1 1)] at R
  rw [← (show cs.drop 0=(cs.drop 0).take 1 ++ cs.drop 1 from zcG cs 0 1)] at R
  exact ⟨⟨a0,a1,a2,a3,a4,a5⟩,R,⟨w0,w1,w2,w3,w4,w5⟩⟩
def wf_58 (x:(Sl Pulse)):Prop:=x.len≤9223372036854775807∧∀ i,i < x.len→zEz (x.get i)
theorem rd_58 {H:Type} {en:TypeId×Value→H} {w:World} {sp:Nat→Bool} {held:Bool} : Rd H en Tryd.prog w sp held 58 zEv wf_58:=zy0 Tryd.underlying58 zHD (by decide) (fun _=>rfl) zGw
end Go.Proofs
namespace Go.Proofs
open Go Go.Pm
set_option maxRecDepth 100000
set_option linter.unusedVariables false
attribute [local irreducible] Go.Pm.vcFun Go.Pm.vc Go.Pm.vcIter
abbrev T81:Tabs:=Tabs.nil
theorem zGx:TabsOk Tryd.prog T81:=TabsOk.nil
abbrev G81:Ctrs:=csm T81 (fun _ _=>[]) (fun _=>false)
def zEA:Ann:=⟨15,[(0,zK [0,1,2] []),(1,zK [6] [])],
 [],
 [],
 [],[]⟩
abbrev R81:=Bool
abbrev e81 (r:R81):List PA:=[.one (.bool r)]
section
variable {K:List PA→Prop} {n:Int} {low:Int} {high:Int}
def s81 (n:Int) (low:Int) (high:Int):Bool :=
  (cond (decide (n ≥ low))
 (decide (n≤high))
 false)
end
theorem q81 (n:Int) (low:Int) (high:Int) (K:List PA→Prop) (hk:K (e81 (s81 n low high))):vcFun Tryd.prog G81 zEA 81 [.one (.int .i64 n),.one (.int .i64 low),.one (.int .i64 high)] K :=
  zbh (by kernel_rfl) (zt hk (fun hk=>hk) (fun hk=>hk))
def zst : List PA → COut
  | [.one (.int .i64 a0),.one (.int .i64 a1),.one (.int .i64 a2)]=>.tot [.one (.bool (s81 a0 a1 a2))]
  | _=>.no
theorem zEB:zas Tryd.prog 81:=⟨_,rfl,rfl,by kernel_rfl⟩
theorem zGc:Ok Tryd.prog 81 zst:=zbJ zGx zEB fun args K h=>by
  unfold zst at h
  split at h
  · rename_i a0 a1 a2
    have hk:=h
    exact ⟨(fun _ _=>[]),(fun _=>false),zEA,q81 a0 a1 a2 K hk⟩
  · exact h.elim
abbrev T78:Tabs:=(Tabs.nil.addF 81 zst)
theorem zGy:TabsOk Tryd.prog T78:=(TabsOk.nil.addF zGc)
abbrev G78:Ctrs:=csm T78 (fun _ _=>[]) (fun _=>false)
def zBb:Ann:=⟨55,[(0,zK [1,2] [2]),(1,zK [1,2,5] [2]),(2,zK [1,2,5,6] [2]),(3,zK [4] [])],
 [],
 [(2,zK [1,2,5] [2]),(3,zK [1,2,5,6] [2])],
 [],[]⟩
abbrev R78:=Bool
abbrev e78 (r:R78):List PA:=[.one (.bool r)]
@[irreducible] def z78:=ptF Tryd.prog G78 zBb Tryd.f78
section
variable {K:List PA→Prop} {t:Tie} {nodes:Int} {zlP:Bool} {zrb:Bool}
def zlQ (t:Tie) (nodes:Int) (zlP:Bool) (zrb:Bool):Bool :=
  (cond (s81 t.From (0:Int) (w64 (nodes - (1:Int))))
 (cond (s81 t.To (0:Int) (w64 (nodes - (1:Int))))
 (cond (t.From != t.To)
 (cond zlP
 (cond zrb
 (decide (t.Low≤t.High))
 false)
 false)
 false)
 false)
 false)
theorem zux (hk:K (e78 (zlQ t nodes zlP zrb))):z78 K [1,1,1] [] ⟨[(1,zI nodes),(2,zp 2 0),(5,zB zlP),(6,zB zrb)],[(2,.box 40 (zm (zaj t)))],[]⟩:=zbh (by kernel_rfl) (zt hk (fun hk=>(zt hk (fun hk=>(zt hk (fun hk=>(zt hk (fun hk=>(zt hk (fun hk=>hk) (fun hk=>hk))) (fun hk=>hk))) (fun hk=>hk))) (fun hk=>hk))) (fun hk=>hk))
def zlR (t:Tie) (nodes:Int) (zlP:Bool):Bool :=
  (cond (t.High == (1000000000000:Int))
 (zlQ t nodes zlP true)
 (zlQ t nodes zlP (s81 t.High (-1000000000:Int) (1000000000:Int))))
theorem zuy (hk:K (e78 (zlR t nodes zlP))):z78 K [1,1] [] ⟨[(1,zI nodes),(2,zp 2 0),(5,zB zlP)],[(2,.box 40 (zm (zaj t)))],[]⟩:=zbh (by kernel_rfl) (zt hk (fun hk=>(zux hk)) (fun hk=>(zux hk)))
def s78 (t:Tie) (nodes:Int):Bool :=
  (cond (t.Low == (-1000000000000:Int))
 (zlR t nodes true)
 (zlR t nodes (s81 t.Low (-1000000000:Int) (1000000000:Int))))
end
theorem q78 (t:Tie) (nodes:Int) (K:List PA→Prop) (hk:K (e78 (s78 t nodes))):vcFun Tryd.prog G78 zBb 78 [.agg (zaj t),.one (.int .i64 nodes)] K :=
  zbh (by kernel_rfl) (zt hk (fun hk=>(zuy hk)) (fun hk=>(zuy hk)))
def zBc : List PA → COut
  | [.agg [.int .i64 a0_From,.int .i64 a0_To,.int .i64 a0_Low,.int .i64 a0_High],.one (.int .i64 a1)]=>.tot [.one (.bool (s78 (⟨a0_From,a0_To,a0_Low,a0_High⟩:Tie) a1))]
  | _=>.no
theorem zEC:zas Tryd.prog 78:=⟨_,rfl,rfl,by kernel_rfl⟩
theorem zHX:Ok Tryd.prog 78 zBc:=zbJ zGy zEC fun args K h=>by
  unfold zBc at h
  split at h
  · rename_i a0_From a0_To a0_Low a0_High a1
    have hk:=h
    exact ⟨(fun _ _=>[]),(fun _=>false),zBb,q78 (⟨a0_From,a0_To,a0_Low,a0_High⟩:Tie) a1 K hk⟩
  · exact h.elim
abbrev T67:Tabs:=((Tabs.nil.addF 78 zBc).addF 81 zst)
theorem zGz:TabsOk Tryd.prog T67:=((TabsOk.nil.addF zHX).addF zGc)
abbrev G67:Ctrs:=csm T67 (fun _ _=>[]) (fun _=>false)
def zy1:Ann:=⟨27,[(0,zK [1] [1]),(1,zK [1,6,7,8] [1]),(2,zK [1,6,7,8,9] [1]),(3,zK [1,4,6,7,8] [1,4]),(4,zK [1,6,7,8,16] [1]),(5,zK [2] []),(6,zK [1,6,7,8] [1]),(7,zK [2] [])],
 [(2,zK [1,6,7,8] [1])],
 [(5,zK [1,6,7,8,16] [1])],
 [],[]⟩
abbrev R67:=Bool
abbrev e67 (r:R67):List PA:=[.one (.bool r)]
@[irreducible] def z67:=ptF Tryd.prog G67 zy1 Tryd.f67
def zz0 (n:Net) (zdc:Int):St:=⟨[(1,zp 1 0),(6,zS zaj 4 n.Ties),(7,zI (n.Ties.len:Int)),(8,zI zdc)],[(1,.box 24 (zm (zcn n)))],[]⟩
abbrev zBd (K:List PA→Prop) (n:Net) (X:St→Prop) (P:Int→Bool) (S:Int→Bool):Prop:=∀ ⦃zdc:Int⦄,P zdc=true→K (e67 (S zdc))→X (zz0 n zdc)
section
variable {K:List PA→Prop} {n:Net} {zdc:Int} {X0:St→Prop} {P0:Int→Bool} {S0:Int→Bool} {zBe:Int} {zfZ:Bool}
def zoI (S0:Int→Bool) (n:Net) (zBe:Int) (zfZ:Bool):Bool :=
  (cond zfZ
 false
 (S0 (w64 (zBe+(1:Int)))))
def zoJ (P0:Int→Bool) (n:Net) (zBe:Int) (zfZ:Bool):Bool :=
  (cond zfZ
 true
 (P0 (w64 (zBe+(1:Int)))))
theorem zBf (hX0:zBd K n X0 P0 S0) (hs:zoJ P0 n zBe zfZ=true) (hk:K (e67 (zoI S0 n zBe zfZ))):z67 K [1,0,1,0,0,1,1,0,0,1,1] [X0] ⟨[(1,zp 1 0),(6,zS zaj 4 n.Ties),(7,zI (n.Ties.len:Int)),(8,zI zBe),(16,zB zfZ)],[(1,.box 24 (zm (zcn n)))],[]⟩:=zbh (by kernel_rfl) (zc hs hk (fun hs hk=>hk) (fun hs hk=>(hX0 hs hk)))
def zg6 (n:Net) (S0:Int→Bool) (zdc:Int):Bool :=
  (cond (decide (zdc < (n.Ties.len : Int)))
 (zoI S0 n zdc (!(s78 (n.Ties.get zdc.toNat) n.Nodes)))
 (cond (s81 n.Nodes (1:Int) (40:Int))
 (decide ((n.Ties.len:Int)≤(200:Int)))
 false))
def zg7 (n:Net) (P0:Int→Bool) (zdc:Int):Bool :=
  (cond (decide (zdc < (n.Ties.len : Int)))
 (decide ((0≤zdc∧zdc < (n.Ties.len:Int))) &&
 (zoJ P0 n zdc (!(s78 (n.Ties.get zdc.toNat) n.Nodes))))
 true)
def zg8 (n:Net):Nat→Int→Bool:=lpO (fun _=>default) (zg6 n)
def zg9 (n:Net):Nat→Int→Bool:=lpO (fun _=>false) (zg7 n)
def zuz (n:Net) (zdc:Int):Bool:=zg8 n Fuel zdc
def zuA (n:Net) (zdc:Int):Bool:=zg9 n Fuel zdc
theorem zBg (hs:zuA n zdc=true) (hk:K (e67 (zuz n zdc))):z67 K [1,0,1,0] [] (zz0 n zdc) :=
  zl (fun X=>z67 K [1,0,1,0,0] [X]) (by kernel_rfl) fun X0 hX =>
  (show ∀ k, zBd K n X0 (zg9 n k) (zg8 n k) from zkR _ _ (zg7 n) (zg6 n) (zBd K n X0)
 (by intro _ hs;exact absurd hs Bool.false_ne_true)
 (by intro P0 S0 hX0 zdc hs hk;exact hX _ (zbh (by kernel_rfl) (zc hs hk (fun hs hk=>(za7 hs fun hc hs=>And.intro hc (zBf hX0 hs hk))) (fun hs hk=>(zt hk (fun hk=>hk) (fun hk=>hk))))))) _ hs hk
def s67 (n:Net):Bool :=
  (zuz n (0:Int))
def p67 (n:Net):Bool :=
  (zuA n (0:Int))
end
theorem q67 (n:Net) (K:List PA→Prop) (hs:p67 n=true) (hk:K (e67 (s67 n))):vcFun Tryd.prog G67 zy1 67 [.agg (zcn n)] K :=
  zbh (by kernel_rfl) (zBg hs hk)
def zsu : List PA → COut
  | [.agg [.int .i64 a0_Nodes,.sl a0_Ties_n a0_Ties_s a0_Ties_g]]=>.det (IsE zaj 4 a0_Ties_s a0_Ties_g∧p67 (⟨a0_Nodes,(⟨a0_Ties_n,zaa a0_Ties_g⟩:(Sl Tie))⟩:Net)=true) [.one (.bool (s67 (⟨a0_Nodes,(⟨a0_Ties_n,zaa a0_Ties_g⟩:(Sl Tie))⟩:Net)))]
  | [.agg [.int .i64 a0_Nodes,.nils]]=>.det (p67 (⟨a0_Nodes,(⟨0,fun _=>default⟩:(Sl Tie))⟩:Net)=true) [.one (.bool (s67 (⟨a0_Nodes,(⟨0,fun _=>default⟩:(Sl Tie))⟩:Net)))]
  | _=>.no
theorem zED:zas Tryd.prog 67:=⟨_,rfl,rfl,by kernel_rfl⟩
theorem zGd:Ok Tryd.prog 67 zsu:=zeW zGz zED fun args K h=>by
  unfold zsu at h
  split at h
  · rename_i a0_Nodes a0_Ties_n a0_Ties_s a0_Ties_g
    obtain ⟨⟨⟨rfl,a0_Ties_f,rfl⟩,hs⟩,hk⟩:=h
    try rw [zar a0_Ties_f] at hs
    try rw [zar a0_Ties_f] at hk
    exact ⟨_,zec zeA _,(fun _ _=>[]),(fun _=>false),zy1,q67 (⟨a0_Nodes,(⟨a0_Ties_n,a0_Ties_f⟩:(Sl Tie))⟩:Net) (Wk K) hs (zeB hk)⟩
  · rename_i a0_Nodes
    obtain ⟨hs,hk⟩:=h
    exact ⟨_,(zc5 (.agg (zc5 (.rfl _) (zc5 (.nil _ _) zgw))) zgw),(fun _ _=>[]),(fun _=>false),zy1,q67 (⟨a0_Nodes,(⟨0,fun _=>default⟩:(Sl Tie))⟩:Net) (Wk K) hs (zeB hk)⟩
  · exact h.elim
abbrev T93:Tabs:=Tabs.nil
theorem zGA:TabsOk Tryd.prog T93:=TabsOk.nil
abbrev G93:Ctrs:=csm T93 (fun _ _=>[]) (fun _=>false)
def zBh:Ann:=⟨4,[(0,⟨[1],[1],[],[],[],[],[]⟩),(1,⟨[2],[],[],[],[],[],[]⟩)],
 [],
 [],
 [],[]⟩
theorem zBi (w : web) (K : List PA → Prop) :
  vcFun Tryd.prog G93 zBh 93 [.one (.fp (zaw w) 0)] K =
  (K [.one (.fn 110 [] [.fp [.fp (zaw w) 0] 0])]):=by kernel_rfl
theorem q93 (w:web) (K:List PA→Prop) (hk:K [.one (.fn 110 [] [.fp [.fp (zaw w) 0] 0])]):vcFun Tryd.prog G93 zBh 93 [.one (.fp (zaw w) 0)] K:=zbh (zBi w K) hk
def znc : List PA → COut
  | [.one (.fp [.int .i64 a0_Net_Nodes,.sl a0_Net_Ties_n a0_Net_Ties_s a0_Net_Ties_g,.fm a0_out_q a0_out_n a0_out_F] 0)]=>.det (IsE zaj 4 a0_Net_Ties_s a0_Net_Ties_g∧a0_out_q=(false,1,false,[none])) [.one (.fn 110 [] [.fp [.fp (zaw (⟨(⟨(⟨a0_Net_Nodes,(⟨a0_Net_Ties_n,zaa a0_Net_Ties_g⟩:(Sl Tie))⟩:Net),(⟨a0_out_n,a0_out_F⟩:Mp)⟩:web).Net,((⟨(⟨a0_Net_Nodes,(⟨a0_Net_Ties_n,zaa a0_Net_Ties_g⟩:(Sl Tie))⟩:Net),(⟨a0_out_n,a0_out_F⟩:Mp)⟩:web).out)⟩:web)) 0] 0])]
  | _=>.no
theorem zEE:zas Tryd.prog 93:=⟨_,rfl,rfl,by kernel_rfl⟩
theorem zDJ:Ok Tryd.prog 93 znc:=zbJ zGA zEE fun args K h=>by
  unfold znc at h
  split at h
  · rename_i a0_Net_Nodes a0_Net_Ties_n a0_Net_Ties_s a0_Net_Ties_g a0_out_q a0_out_n a0_out_F
    obtain ⟨⟨⟨rfl,a0_Net_Ties_f,rfl⟩,rfl⟩,hk⟩:=h
    try rw [zar a0_Net_Ties_f] at hk
    exact ⟨fun _ _=>[],fun _=>false,zBh,q93 (⟨(⟨a0_Net_Nodes,(⟨a0_Net_Ties_n,a0_Net_Ties_f⟩:(Sl Tie))⟩:Net),(⟨a0_out_n,a0_out_F⟩:Mp)⟩:web) K hk⟩
  · exact h.elim
abbrev T94:Tabs:=Tabs.nil
theorem zGB:TabsOk Tryd.prog T94:=TabsOk.nil
abbrev G94:Ctrs:=csm T94 (fun _ _=>[]) (fun _=>false)
def zEF:Ann:=⟨21,[(0,zK [1,2] [1,2]),(1,zK [2,3] [2])],
 [],
 [],
 [],[]⟩
abbrev R94:=(step×Bool)
abbrev e94 (r:R94):List PA:=[.agg [.int .i64 r.1.Use.Tie,.bool r.1.Use.Back,.int .i64 r.1.from_,.int .i64 r.1.to,.int .i64 r.1.length],.one (.bool r.2)]
section
variable {K:List PA→Prop} {t:tie}
def s94 (t:tie):(step×Bool) :=
  ((⟨(⟨t.index,false⟩:Use),t.Tie.From,t.Tie.To,t.Tie.High⟩:step),(t.Tie.High != (1000000000000:Int)))
end
theorem q94 (t:tie) (K:List PA→Prop) (hk:K (e94 (s94 t))):vcFun Tryd.prog G94 zEF 94 [.agg (zuv t)] K :=
  zbh (by kernel_rfl) hk
def zBj : List PA → COut
  | [.agg [.int .i64 a0_Tie_From,.int .i64 a0_Tie_To,.int .i64 a0_Tie_Low,.int .i64 a0_Tie_High,.int .i64 a0_index]]=>.tot [.agg [.int .i64 (((s94 (⟨(⟨a0_Tie_From,a0_Tie_To,a0_Tie_Low,a0_Tie_High⟩:Tie),a0_index⟩:tie)).1).Use.Tie),.bool (((s94 (⟨(⟨a0_Tie_From,a0_Tie_To,a0_Tie_Low,a0_Tie_High⟩:Tie),a0_index⟩:tie)).1).Use.Back),.int .i64 (((s94 (⟨(⟨a0_Tie_From,a0_Tie_To,a0_Tie_Low,a0_Tie_High⟩:Tie),a0_index⟩:tie)).1).from_),.int .i64 (((s94 (⟨(⟨a0_Tie_From,a0_Tie_To,a0_Tie_Low,a0_Tie_High⟩:Tie),a0_index⟩:tie)).1).to),.int .i64 (((s94 (⟨(⟨a0_Tie_From,a0_Tie_To,a0_Tie_Low,a0_Tie_High⟩:Tie),a0_index⟩:tie)).1).length)],.one (.bool ((s94 (⟨(⟨a0_Tie_From,a0_Tie_To,a0_Tie_Low,a0_Tie_High⟩:Tie),a0_index⟩:tie)).2))]
  | _=>.no
theorem zEG:zas Tryd.prog 94:=⟨_,rfl,rfl,by kernel_rfl⟩
theorem zHY:Ok Tryd.prog 94 zBj:=zbJ zGB zEG fun args K h=>by
  unfold zBj at h
  split at h
  · rename_i a0_Tie_From a0_Tie_To a0_Tie_Low a0_Tie_High a0_index
    have hk:=h
    exact ⟨(fun _ _=>[]),(fun _=>false),zEF,q94 (⟨(⟨a0_Tie_From,a0_Tie_To,a0_Tie_Low,a0_Tie_High⟩:Tie),a0_index⟩:tie) K hk⟩
  · exact h.elim
abbrev T95:Tabs:=Tabs.nil
theorem zGC:TabsOk Tryd.prog T95:=TabsOk.nil
abbrev G95:Ctrs:=csm T95 (fun _ _=>[]) (fun _=>false)
def zEH:Ann:=⟨22,[(0,zK [1,2] [1,2]),(1,zK [2,3] [2])],
 [],
 [],
 [],[]⟩
abbrev R95:=(step×Bool)
abbrev e95 (r:R95):List PA:=[.agg [.int .i64 r.1.Use.Tie,.bool r.1.Use.Back,.int .i64 r.1.from_,.int .i64 r.1.to,.int .i64 r.1.length],.one (.bool r.2)]
section
variable {K:List PA→Prop} {t:tie}
def s95 (t:tie):(step×Bool) :=
  ((⟨(⟨t.index,true⟩:Use),t.Tie.To,t.Tie.From,(w64 (0 - t.Tie.Low))⟩:step),(t.Tie.Low != (-1000000000000:Int)))
end
theorem q95 (t:tie) (K:List PA→Prop) (hk:K (e95 (s95 t))):vcFun Tryd.prog G95 zEH 95 [.agg (zuv t)] K :=
  zbh (by kernel_rfl) hk
def zBk : List PA → COut
  | [.agg [.int .i64 a0_Tie_From,.int .i64 a0_Tie_To,.int .i64 a0_Tie_Low,.int .i64 a0_Tie_High,.int .i64 a0_index]]=>.tot [.agg [.int .i64 (((s95 (⟨(⟨a0_Tie_From,a0_Tie_To,a0_Tie_Low,a0_Tie_High⟩:Tie),a0_index⟩:tie)).1).Use.Tie),.bool (((s95 (⟨(⟨a0_Tie_From,a0_Tie_To,a0_Tie_Low,a0_Tie_High⟩:Tie),a0_index⟩:tie)).1).Use.Back),.int .i64 (((s95 (⟨(⟨a0_Tie_From,a0_Tie_To,a0_Tie_Low,a0_Tie_High⟩:Tie),a0_index⟩:tie)).1).from_),.int .i64 (((s95 (⟨(⟨a0_Tie_From,a0_Tie_To,a0_Tie_Low,a0_Tie_High⟩:Tie),a0_index⟩:tie)).1).to),.int .i64 (((s95 (⟨(⟨a0_Tie_From,a0_Tie_To,a0_Tie_Low,a0_Tie_High⟩:Tie),a0_index⟩:tie)).1).length)],.one (.bool ((s95 (⟨(⟨a0_Tie_From,a0_Tie_To,a0_Tie_Low,a0_Tie_High⟩:Tie),a0_index⟩:tie)).2))]
  | _=>.no
theorem zEI:zas Tryd.prog 95:=⟨_,rfl,rfl,by kernel_rfl⟩
theorem zHZ:Ok Tryd.prog 95 zBk:=zbJ zGC zEI fun args K h=>by
  unfold zBk at h
  split at h
  · rename_i a0_Tie_From a0_Tie_To a0_Tie_Low a0_Tie_High a0_index
    have hk:=h
    exact ⟨(fun _ _=>[]),(fun _=>false),zEH,q95 (⟨(⟨a0_Tie_From,a0_Tie_To,a0_Tie_Low,a0_Tie_High⟩:Tie),a0_index⟩:tie) K hk⟩
  · exact h.elim
abbrev zHE:Tabs:=((Tabs.nil.addF 94 zBj).addF 95 zBk)
theorem zEJ:TabsOk Tryd.prog zHE:=((TabsOk.nil.addF zHY).addF zHZ)
abbrev zEK:Ctrs:=csm zHE (fun _ _=>[]) (fun _=>false)
def zhB:Ann:=⟨52,[(0,⟨[0,1,14,15,16],[],[],[],[],[],[]⟩),(1,⟨[0,1,14,15,16,17],[],[],[],[],[],[]⟩),(2,⟨[0,1,3,4,14,15,16],[4],[],[],[],[],[]⟩),(3,⟨[0,1,3,4,14,15,16,26],[4],[],[],[],[],[]⟩),(4,⟨[0,1,5,14,15,16],[5],[],[],[],[],[]⟩),(5,⟨[0,1,14,15,16,34,35],[],[],[],[],[],[]⟩),(6,⟨[0,1,14,15,16,34,35,36],[],[],[],[],[],[]⟩),(7,⟨[0,1,7,14,15,16,34,35],[],[],[],[],[],[]⟩),(8,⟨[0,1,8,9,14,15,16,34,35],[8],[],[],[],[],[]⟩),(9,⟨[0,1,14,15,16,34,35,49],[],[],[],[],[],[]⟩),(10,⟨[0,1,14,15,16,34,35],[],[],[],[],[],[]⟩),(11,⟨[0,1,14,15,16],[],[],[],[],[],[]⟩)],
 [(1,⟨[0,1,14,15,16],[],[],[],[],[],[]⟩)],
 [],
 [(6,3,⟨[0,1,14,15,16,34,35],[],[],[],[],[],[]⟩)],[9]⟩
def zdz (l:Nat) (a:web) (zaG:Int):St:=⟨[(0,.one (.c (.p (.yl l)))),(1,.one (.c (.p (.fp [.fp (zaw a) 0] 0)))),(14,.one (.c (.p (.sl a.Net.Ties.len 4 (fun i=>zaj (a.Net.Ties.get i)))))),(15,.one (.c (.p (.int .i64 (a.Net.Ties.len:Int))))),(16,.one (.c (.p (.int .i64 zaG))))],[],[]⟩
def zgy (l:Nat) (ys:List (List PA)) (a:web) (zaG:Int):Prop:=vcY Tryd.prog zEK zhB l (cdF Tryd.f110 [1,0]) (zmq 0 zyc) ys false (zdz l a zaG)
theorem zy2 (l : Nat) (a : web) (ys : List (List PA)) :
  vcIter Tryd.prog zEK zhB 110 l [.one (.fp [.fp (zaw a) 0] 0)] ys =
  (zgy l ys a (0:Int)):=by kernel_rfl
def zkS (l:Nat) (X0:List (List PA)→Bool→St→Prop) (ys:List (List PA)) (a:web) (zaG:Int):Prop :=
  (zbA (decide (zaG < (a.Net.Ties.len : Int)))
 (((0≤zaG∧zaG < (a.Net.Ties.len:Int))) ∧
 (zbA ((zx0 (a.out.F [zaG]) 0) != 0)
 (X0 ys false (zdz l a (w64 (zaG+(1:Int)))))
 (zbA ((s94 (⟨(a.Net.Ties.get zaG.toNat), zaG⟩ : tie)).2)
 (l=l∧∃ r1,ys=[.agg [.int .i64 (((s94 (⟨(a.Net.Ties.get zaG.toNat),zaG⟩:tie)).1).Use.Tie),.bool (((s94 (⟨(a.Net.Ties.get zaG.toNat),zaG⟩:tie)).1).Use.Back),.int .i64 (((s94 (⟨(a.Net.Ties.get zaG.toNat),zaG⟩:tie)).1).from_),.int .i64 (((s94 (⟨(a.Net.Ties.get zaG.toNat),zaG⟩:tie)).1).to),.int .i64 (((s94 (⟨(a.Net.Ties.get zaG.toNat),zaG⟩:tie)).1).length)]] :: r1 ∧
 (zbA ((s95 (⟨(a.Net.Ties.get zaG.toNat), zaG⟩ : tie)).2)
 (l=l∧∃ r2,r1=[.agg [.int .i64 (((s95 (⟨(a.Net.Ties.get zaG.toNat),zaG⟩:tie)).1).Use.Tie),.bool (((s95 (⟨(a.Net.Ties.get zaG.toNat),zaG⟩:tie)).1).Use.Back),.int .i64 (((s95 (⟨(a.Net.Ties.get zaG.toNat),zaG⟩:tie)).1).from_),.int .i64 (((s95 (⟨(a.Net.Ties.get zaG.toNat),zaG⟩:tie)).1).to),.int .i64 (((s95 (⟨(a.Net.Ties.get zaG.toNat),zaG⟩:tie)).1).length)]] :: r2 ∧
 (X0 r2 false (zdz l a (w64 (zaG+(1:Int)))))∧True)
 (X0 r1 false (zdz l a (w64 (zaG+(1:Int))))))∧True)
 (zbA ((s95 (⟨(a.Net.Ties.get zaG.toNat), zaG⟩ : tie)).2)
 (l=l∧∃ r3,ys=[.agg [.int .i64 (((s95 (⟨(a.Net.Ties.get zaG.toNat),zaG⟩:tie)).1).Use.Tie),.bool (((s95 (⟨(a.Net.Ties.get zaG.toNat),zaG⟩:tie)).1).Use.Back),.int .i64 (((s95 (⟨(a.Net.Ties.get zaG.toNat),zaG⟩:tie)).1).from_),.int .i64 (((s95 (⟨(a.Net.Ties.get zaG.toNat),zaG⟩:tie)).1).to),.int .i64 (((s95 (⟨(a.Net.Ties.get zaG.toNat),zaG⟩:tie)).1).length)]] :: r3 ∧
 (X0 r3 false (zdz l a (w64 (zaG+(1:Int)))))∧True)
 (X0 ys false (zdz l a (w64 (zaG+(1:Int)))))))))
 (ys=[]))
theorem znd (l : Nat) (X0 : List (List PA) → Bool → St → Prop) (ys : List (List PA)) (a : web) (zaG : Int) :
  vcY Tryd.prog zEK zhB l (cd (cdF Tryd.f110 [1,0]) [0]) (zya Tryd.prog zhB 1 X0 (zmq 0 zyc)) ys false (zdz l a zaG) =
  zkS l X0 ys a zaG:=by kernel_rfl
theorem zsv (l : Nat) (ys : List (List PA)) (a : web) (zaG : Int)
  (h:∀ X0:List (List PA)→Bool→St→Prop,(∀ (ys:List (List PA)) (zaG:Int),zkS l X0 ys a zaG→X0 ys false (zdz l a zaG))→X0 ys false (zdz l a zaG)) :
  zgy l ys a zaG:=by
  have e:zgy l ys a zaG=(∀ X:List (List PA)→Bool→St→Prop,(∀ ys q s,vcY Tryd.prog zEK zhB l (cd (cdF Tryd.f110 [1,0]) [0]) (zya Tryd.prog zhB 1 X (zmq 0 zyc)) ys q s→X ys q s)→X ys false (zdz l a zaG)):=by kernel_rfl
  refine zbh e ?_
  intro X hX
  refine h X ?_
  intro ys zaG hs
  refine hX _ _ _ ?_
  have e2:=znd l X ys a zaG
  rw [e2]
  exact hs
attribute [irreducible] zgy
def zlS (a:web) (S0:Int→List step) (zaG:Int):List step :=
  (cond (decide (zaG < (a.Net.Ties.len : Int)))
 (cond ((zx0 (a.out.F [zaG]) 0) != 0)
 (S0 (w64 (zaG+(1:Int))))
 (cond ((s94 (⟨(a.Net.Ties.get zaG.toNat), zaG⟩ : tie)).2)
 (((s94 (⟨(a.Net.Ties.get zaG.toNat), zaG⟩ : tie)).1) :: (cond ((s95 (⟨(a.Net.Ties.get zaG.toNat), zaG⟩ : tie)).2)
 (((s95 (⟨(a.Net.Ties.get zaG.toNat),zaG⟩:tie)).1) :: (S0 (w64 (zaG+(1:Int)))))
 (S0 (w64 (zaG+(1:Int))))))
 (cond ((s95 (⟨(a.Net.Ties.get zaG.toNat), zaG⟩ : tie)).2)
 (((s95 (⟨(a.Net.Ties.get zaG.toNat),zaG⟩:tie)).1) :: (S0 (w64 (zaG+(1:Int)))))
 (S0 (w64 (zaG+(1:Int)))))))
 [])
def zlT (a:web) (P0:Int→Bool) (zaG:Int):Bool :=
  (cond (decide (zaG < (a.Net.Ties.len : Int)))
 (decide ((0≤zaG∧zaG < (a.Net.Ties.len:Int))) &&
 (cond ((zx0 (a.out.F [zaG]) 0) != 0)
 (P0 (w64 (zaG+(1:Int))))
 (cond ((s94 (⟨(a.Net.Ties.get zaG.toNat), zaG⟩ : tie)).2)
 (cond ((s95 (⟨(a.Net.Ties.get zaG.toNat), zaG⟩ : tie)).2)
 (P0 (w64 (zaG+(1:Int))))
 (P0 (w64 (zaG+(1:Int)))))
 (cond ((s95 (⟨(a.Net.Ties.get zaG.toNat), zaG⟩ : tie)).2)
 (P0 (w64 (zaG+(1:Int))))
 (P0 (w64 (zaG+(1:Int))))))))
 true)
def zgz (a : web) : Nat → Int → List step
  | 0=>fun _=>[]
  | k+1=>zlS a (zgz a k)
def zgA (a : web) : Nat → Int → Bool
  | 0=>fun _=>false
  | k+1=>zlT a (zgA a k)
def zrd (a:web) (zaG:Int):List step:=zgz a Fuel zaG
def zre (a:web) (zaG:Int):Bool:=zgA a Fuel zaG
theorem zy3 (l:Nat) (a:web) (ys:List (List PA)) (zaG:Int) (hs:zre a zaG=true) (hk:ys=(zrd a zaG).map (fun y=>[.agg (zae y)])):zgy l ys a zaG:=by
  refine zsv l ys a zaG ?_
  intro X0 hstep
  have key:∀ (k:Nat) (ys:List (List PA)) (zaG:Int),zgA a k zaG=true→ys=(zgz a k zaG).map (fun y=>[.agg (zae y)])→X0 ys false (zdz l a zaG):=by
    intro k
    induction k with
    | zero=>intro ys zaG hs;exact absurd hs Bool.false_ne_true
    | succ k ih =>
      intro ys zaG hs hk
      refine hstep ys zaG ?_
      have hs:zlT a (zgA a k) zaG=true:=hs
      have hk:ys=(zlS a (zgz a k) zaG).map (fun y=>[.agg (zae y)]):=hk
      unfold zlT at hs
      unfold zlS at hk
      generalize zgz a k=S0 at hk ih
      generalize zgA a k=P0 at hs ih
      have hX0:=ih
      exact (zgv hs hk
 (fun hs hk => (za7 hs fun hc hs => ⟨hc, (zgv hs hk
 (fun hs hk=>(hX0 _ (w64 (zaG+(1:Int))) hs hk))
 (fun hs hk => (zgv hs hk
 (fun hs hk => (itY hk rfl (fun _ hk => (zgv hs hk
 (fun hs hk=>(itY hk rfl (fun _ hk=>(hX0 _ (w64 (zaG+(1:Int))) hs hk))))
 (fun hs hk=>(hX0 _ (w64 (zaG+(1:Int))) hs hk))))))
 (fun hs hk => (zgv hs hk
 (fun hs hk=>(itY hk rfl (fun _ hk=>(hX0 _ (w64 (zaG+(1:Int))) hs hk))))
 (fun hs hk=>(hX0 _ (w64 (zaG+(1:Int))) hs hk)))))))⟩))
 (fun hs hk=>hk))
  exact key _ _ zaG hs hk
def zha (a:web):List step :=
  (zrd a (0:Int))
def zkj (a:web):Bool :=
  (zre a (0:Int))
theorem zH0 (l:Nat) (a:web) (ys:List (List PA)) (hs:zkj a=true) (hk:ys=(zha a).map (fun y=>[.agg (zae y)])):vcIter Tryd.prog zEK zhB 110 l [.one (.fp [.fp (zaw a) 0] 0)] ys:=by
  refine zbh (zy2 l a ys) ?_
  unfold zkj at hs
  unfold zha at hk
  exact (zy3 l a _ (0:Int) hs hk)
def zne : List PA → Option (Prop × List (List PA))
  | [.one (.fp [.fp [.int .i64 a_Net_Nodes,.sl a_Net_Ties_n a_Net_Ties_s a_Net_Ties_g,.fm a_out_q a_out_n a_out_F] 0] 0)]=>some (IsE zaj 4 a_Net_Ties_s a_Net_Ties_g∧a_out_q=(false,1,false,[none])∧zkj (⟨(⟨a_Net_Nodes,(⟨a_Net_Ties_n,zaa a_Net_Ties_g⟩:(Sl Tie))⟩:Net),(⟨a_out_n,a_out_F⟩:Mp)⟩:web)=true,(zha (⟨(⟨a_Net_Nodes,(⟨a_Net_Ties_n,zaa a_Net_Ties_g⟩:(Sl Tie))⟩:Net),(⟨a_out_n,a_out_F⟩:Mp)⟩:web)).map fun y=>[.agg (zae y)])
  | _=>none
theorem zBl:zas Tryd.prog 110:=⟨_,rfl,rfl,by kernel_rfl⟩
theorem zsw:zzJ Tryd.prog 110 zne:=zEo zEJ zBl fun l caps safe ys h hs=>by
  unfold zne at h
  split at h
  · rename_i a_Net_Nodes a_Net_Ties_n a_Net_Ties_s a_Net_Ties_g a_out_q a_out_n a_out_F
    cases h
    obtain ⟨⟨rfl,a_Net_Ties_f,rfl⟩,rfl,hs⟩:=hs
    try rw [zar a_Net_Ties_f] at hs
    try rw [zar a_Net_Ties_f]
    exact ⟨fun _ _=>[],fun _=>false,zhB,zH0 l (⟨(⟨a_Net_Nodes,(⟨a_Net_Ties_n,a_Net_Ties_f⟩:(Sl Tie))⟩:Net),(⟨a_out_n,a_out_F⟩:Mp)⟩:web) _ hs rfl⟩
  · cases h
abbrev T88:Tabs:=((Tabs.nil.addF 93 znc).addI 110 zne)
theorem zGD:TabsOk Tryd.prog T88:=((TabsOk.nil.addF zDJ).addI zsw)
abbrev G88:Ctrs:=csm T88 (fun _ _=>[]) (fun _=>false)
def zcu:Ann:=⟨37,[(0,⟨[0],[],[],[],[],[],[]⟩),(1,⟨[0,3],[3],[],[],[],[],[]⟩),(2,⟨[0,3,11,12],[3],[],[],[],[],[]⟩),(3,⟨[0,3,11,12,13],[3],[],[],[],[],[]⟩),(4,⟨[0,3,4,11,12],[3,4],[],[],[],[],[]⟩),(5,⟨[0,3,4,11,12,15],[3,4],[],[],[],[],[]⟩),(6,⟨[0,3,4,5,11,12,15],[3,4,5],[],[],[],[],[]⟩),(7,⟨[0,3,4,5,6,11,12,15],[3,4,5],[],[],[],[],[]⟩),(8,⟨[0,3,4,5,6,11,12,15,29],[3,4,5],[],[],[],[],[]⟩),(9,⟨[0,3,4,11,12,15],[3,4],[],[],[],[],[]⟩),(10,⟨[0,3,4,11,12,15],[3,4],[],[],[],[],[]⟩),(11,⟨[0,3,11,12,35],[3],[],[],[],[],[]⟩),(12,⟨[2],[],[],[],[],[],[]⟩),(13,⟨[0,3,11,12],[3],[],[],[],[],[]⟩),(14,⟨[2],[],[],[],[],[],[]⟩)],
 [(3,⟨[0,3,11,12],[3],[],[],[],[],[]⟩),(6,⟨[0,3,4,11,12,15],[3,4],[],[],[],[],[]⟩)],
 [],
 [],[]⟩
def zhC (w:web) (zbd:Int) (dt0:Tab):St:=⟨[(0,.one (.c (.p (.fp (zaw w) 0)))),(3,.one (.c (.ptr 3 0))),(11,.one (.c (.p (.int .i64 w.Net.Nodes)))),(12,.one (.c (.p (.int .i64 zbd))))],[(3,.box 157 (zm (zuw dt0)))],[]⟩
def zi5 (K:List PA→Prop) (w:web) (zbd:Int) (dt0:Tab):Prop:=vc Tryd.prog G88 zcu (cdF Tryd.f88 [1,1,0,1,0]) (zak 0 (sqK Tryd.prog G88 zcu (cdF Tryd.f88 [1,1,1]) (zba Tryd.prog Tryd.f88 K))) (zhC w zbd dt0)
def zfM (w:web) (za2:Int) (zaq:Bool) (dt1:Tab):St:=⟨[(0,.one (.c (.p (.fp (zaw w) 0)))),(3,.one (.c (.ptr 3 0))),(4,.one (.c (.ptr 4 0))),(11,.one (.c (.p (.int .i64 w.Net.Nodes)))),(12,.one (.c (.p (.int .i64 za2)))),(15,.one (.c (.p (.fn 110 [] [.fp [.fp (zaw w) 0] 0]))))],[(3,.box 157 (zm (zuw dt1))),(4,.box 4 [.p (.bool zaq)])],[]⟩
def zi6 (K:List PA→Prop) (X0:St→Prop) (w:web) (za2:Int) (zaq:Bool) (dt1:Tab):Prop:=vc Tryd.prog G88 zcu (cdF Tryd.f88 [1,1,0,1,0,0,1,1,0,0,1,0,1,0]) (zak 2 (sqK Tryd.prog G88 zcu (cdF Tryd.f88 [1,1,0,1,0,0,1,1,0,0,1,1]) (zak 1 (sqK Tryd.prog G88 zcu (cdF Tryd.f88 [1,1,0,1,0,0,1,1,1]) (zbb Tryd.prog zcu 3 X0 (zak 0 (sqK Tryd.prog G88 zcu (cdF Tryd.f88 [1,1,1]) (zba Tryd.prog Tryd.f88 K)))))))) (zfM w za2 zaq dt1)
theorem zBm (w : web) (K : List PA → Prop) :
  vcFun Tryd.prog G88 zcu 88 [.one (.fp (zaw w) 0)] K =
  (zi5 K w (0:Int) (fun _=>(0:Int))):=by kernel_rfl
def znf (K:List PA→Prop) (X0:St→Prop) (w:web) (zbd:Int) (dt0:Tab):Prop :=
  (zbA (decide (zbd < w.Net.Nodes))
 ((IsE zaj 4 4 (fun i=>zaj (w.Net.Ties.get i))∧((false,1,false,[none]):MQ)=(false,1,false,[none])) ∧
 (zi6 K X0 w zbd false dt0))
 (K [.one (.bool true)]))
theorem zoK (K : List PA → Prop) (X0 : St → Prop) (w : web) (zbd : Int) (dt0 : Tab) :
  vc Tryd.prog G88 zcu (cd (cdF Tryd.f88 [1,1,0,1,0]) [0]) (zbb Tryd.prog zcu 3 X0 (zak 0 (sqK Tryd.prog G88 zcu (cdF Tryd.f88 [1,1,1]) (zba Tryd.prog Tryd.f88 K)))) (zhC w zbd dt0) =
  znf K X0 w zbd dt0:=by kernel_rfl
theorem zuB (K : List PA → Prop) (w : web) (zbd : Int) (dt0 : Tab)
  (h:∀ X0:St→Prop,(∀ (zbd:Int) (dt0:Tab),znf K X0 w zbd dt0→X0 (zhC w zbd dt0))→X0 (zhC w zbd dt0)) :
  zi5 K w zbd dt0:=by
  have e:zi5 K w zbd dt0=(∀ X:St→Prop,(∀ s,vc Tryd.prog G88 zcu (cd (cdF Tryd.f88 [1,1,0,1,0]) [0]) (zbb Tryd.prog zcu 3 X (zak 0 (sqK Tryd.prog G88 zcu (cdF Tryd.f88 [1,1,1]) (zba Tryd.prog Tryd.f88 K)))) s→X s)→X (zhC w zbd dt0)):=by kernel_rfl
  refine zbh e ?_
  intro X hX
  refine h X ?_
  intro zbd dt0 hs
  refine hX _ ?_
  have e2:=zoK K X w zbd dt0
  rw [e2]
  exact hs
def zng (K:List PA→Prop) (X0:St→Prop) (w:web) (za2:Int) (zaq:Bool) (dt1:Tab):Prop :=
  (zbA (!zaq)
 (K [.one (.bool false)])
 (X0 (zhC w (w64 (za2+(1:Int))) dt1)))
def znh (K:List PA→Prop) (X0:St→Prop) (X1:List (List PA)→St→Prop) (y1:step) (rest1:List (List PA)) (w:web) (za2:Int) (zaq:Bool) (dt1:Tab):Prop :=
  (((0≤y1.from_∧y1.from_ < (40:Int))) ∧
 (((0≤y1.to∧y1.to < (40:Int))) ∧
 (zbA (decide ((w64 ((tg 40 dt1 (0 + y1.from_.toNat * 1 + 0)) + y1.length)) < (tg 40 dt1 (0 + y1.to.toNat * 1 + 0))))
 (((0≤y1.to∧y1.to < (40:Int))) ∧
 (X1 rest1 (zfM w za2 true (ts 40 dt1 (0+y1.to.toNat * 1+0) [(w64 ((tg 40 dt1 (0+y1.from_.toNat * 1+0))+y1.length))]))))
 (X1 rest1 (zfM w za2 zaq dt1)))))
theorem zoL (K:List PA→Prop) (X0:St→Prop) (w:web) (za2:Int) (zaq:Bool) (dt1:Tab):(zak 2 (sqK Tryd.prog G88 zcu (cdF Tryd.f88 [1,1,0,1,0,0,1,1,0,0,1,1]) (zak 1 (sqK Tryd.prog G88 zcu (cdF Tryd.f88 [1,1,0,1,0,0,1,1,1]) (zbb Tryd.prog zcu 3 X0 (zak 0 (sqK Tryd.prog G88 zcu (cdF Tryd.f88 [1,1,1]) (zba Tryd.prog Tryd.f88 K)))))))) .normal (zfM w za2 zaq dt1)=zng K X0 w za2 zaq dt1:=by kernel_rfl
theorem zoM (K : List PA → Prop) (X0 : St → Prop) (X1 : List (List PA) → St → Prop) (y1 : step) (rest1 : List (List PA)) (w : web) (za2 : Int) (zaq : Bool) (dt1 : Tab) :
  zsL Tryd.prog G88 zcu 6 [16] (cd (cdF Tryd.f88 [1,1,0,1,0,0,1,1,0,0,1,0,1,0]) [0]) (cd (cdF Tryd.f88 [1,1,0,1,0,0,1,1,0,0,1,0,1,0]) [1]) X1 (zak 2 (sqK Tryd.prog G88 zcu (cdF Tryd.f88 [1,1,0,1,0,0,1,1,0,0,1,1]) (zak 1 (sqK Tryd.prog G88 zcu (cdF Tryd.f88 [1,1,0,1,0,0,1,1,1]) (zbb Tryd.prog zcu 3 X0 (zak 0 (sqK Tryd.prog G88 zcu (cdF Tryd.f88 [1,1,1]) (zba Tryd.prog Tryd.f88 K)))))))) [.agg (zae y1)] rest1 (zfM w za2 zaq dt1)=znh K X0 X1 y1 rest1 w za2 zaq dt1:=by kernel_rfl
theorem zuC (K : List PA → Prop) (X0 : St → Prop) (w : web) (za2 : Int) (zaq : Bool) (dt1 : Tab)
  (hsafe:IsE zaj 4 4 (fun i=>zaj (w.Net.Ties.get i))∧((false,1,false,[none]):MQ)=(false,1,false,[none])∧(zkj w=true)) (h:∀ X1:List (List PA)→St→Prop,(∀ (za2:Int) (zaq:Bool) (dt1:Tab),zng K X0 w za2 zaq dt1→X1 [] (zfM w za2 zaq dt1))→(∀ (y:step) (rest:List (List PA)) (za2:Int) (zaq:Bool) (dt1:Tab),znh K X0 X1 y rest w za2 zaq dt1→X1 ([.agg (zae y)] :: rest) (zfM w za2 zaq dt1))→X1 ((zha w).map fun y=>[.agg (zae y)]) (zfM w za2 zaq dt1)) :
  zi6 K X0 w za2 zaq dt1:=by
  have e:zi6 K X0 w za2 zaq dt1=((IsE zaj 4 4 (fun i=>zaj (w.Net.Ties.get i))∧((false,1,false,[none]):MQ)=(false,1,false,[none])∧(zkj w=true))∧∀ X:List (List PA)→St→Prop,(∀ s,(zak 2 (sqK Tryd.prog G88 zcu (cdF Tryd.f88 [1,1,0,1,0,0,1,1,0,0,1,1]) (zak 1 (sqK Tryd.prog G88 zcu (cdF Tryd.f88 [1,1,0,1,0,0,1,1,1]) (zbb Tryd.prog zcu 3 X0 (zak 0 (sqK Tryd.prog G88 zcu (cdF Tryd.f88 [1,1,1]) (zba Tryd.prog Tryd.f88 K)))))))) .normal s→X [] s)→(∀ y rest s,zsL Tryd.prog G88 zcu 6 [16] (cd (cdF Tryd.f88 [1,1,0,1,0,0,1,1,0,0,1,0,1,0]) [0]) (cd (cdF Tryd.f88 [1,1,0,1,0,0,1,1,0,0,1,0,1,0]) [1]) X (zak 2 (sqK Tryd.prog G88 zcu (cdF Tryd.f88 [1,1,0,1,0,0,1,1,0,0,1,1]) (zak 1 (sqK Tryd.prog G88 zcu (cdF Tryd.f88 [1,1,0,1,0,0,1,1,1]) (zbb Tryd.prog zcu 3 X0 (zak 0 (sqK Tryd.prog G88 zcu (cdF Tryd.f88 [1,1,1]) (zba Tryd.prog Tryd.f88 K)))))))) y rest s→X (y :: rest) s)→X ((zha w).map fun y=>[.agg (zae y)]) (zfM w za2 zaq dt1)):=by kernel_rfl
  refine zbh e ⟨hsafe,?_⟩
  intro X h0 h1
  refine h X (fun za2 zaq dt1 hs=>h0 _ ?_) (fun y rest za2 zaq dt1 hs=>h1 _ rest _ ?_)
  · rw [zoL K X0 w za2 zaq dt1];exact hs
  · have e2 := zoM K X0 X y rest w za2 zaq dt1
    rw [e2];exact hs
abbrev e88 (r:Bool):List PA:=[.one (.bool r)]
attribute [irreducible] zi5 zi6
def zoN (S0:Int→Tab→Bool) (w:web) (za2:Int) (zaq:Bool) (dt1:Tab):Bool :=
  (cond (!zaq)
 false
 (S0 (w64 (za2+(1:Int))) dt1))
def zoO (P0:Int→Tab→Bool) (w:web) (za2:Int) (zaq:Bool) (dt1:Tab):Bool :=
  (cond (!zaq)
 true
 (P0 (w64 (za2+(1:Int))) dt1))
def zoP (S0:Int→Tab→Bool) (w:web) (y1:step) (S1:Int→Bool→Tab→Bool) (za2:Int) (zaq:Bool) (dt1:Tab):Bool :=
  (cond (decide ((w64 ((tg 40 dt1 (0 + y1.from_.toNat * 1 + 0)) + y1.length)) < (tg 40 dt1 (0 + y1.to.toNat * 1 + 0))))
 (S1 za2 true (ts 40 dt1 (0+y1.to.toNat * 1+0) [(w64 ((tg 40 dt1 (0+y1.from_.toNat * 1+0))+y1.length))]))
 (S1 za2 zaq dt1))
def zoQ (P0:Int→Tab→Bool) (w:web) (y1:step) (P1:Int→Bool→Tab→Bool) (za2:Int) (zaq:Bool) (dt1:Tab):Bool :=
  (decide ((0≤y1.from_∧y1.from_ < (40:Int))) &&
 (decide ((0≤y1.to∧y1.to < (40:Int))) &&
 (cond (decide ((w64 ((tg 40 dt1 (0 + y1.from_.toNat * 1 + 0)) + y1.length)) < (tg 40 dt1 (0 + y1.to.toNat * 1 + 0))))
 (decide ((0≤y1.to∧y1.to < (40:Int))) &&
 (P1 za2 true (ts 40 dt1 (0+y1.to.toNat * 1+0) [(w64 ((tg 40 dt1 (0+y1.from_.toNat * 1+0))+y1.length))])))
 (P1 za2 zaq dt1))))
def zi7 (S0 : Int → Tab → Bool) (w : web) : List step → Int → Bool → Tab → Bool
  | []=>zoN S0 w
  | y :: r=>zoP S0 w y (zi7 S0 w r)
def zi8 (P0 : Int → Tab → Bool) (w : web) : List step → Int → Bool → Tab → Bool
  | []=>zoO P0 w
  | y :: r=>zoQ P0 w y (zi8 P0 w r)
def zuD (S0:Int→Tab→Bool) (w:web) (za2:Int) (zaq:Bool) (dt1:Tab):Bool:=zi7 S0 w (zha w) za2 zaq dt1
def zoR (P0:Int→Tab→Bool) (w:web) (za2:Int) (zaq:Bool) (dt1:Tab):Bool:=decide ((zkj w=true)) && zi8 P0 w (zha w) za2 zaq dt1
theorem zBn (K : List PA → Prop) (w : web)
  (X0:St→Prop) (P0:Int→Tab→Bool) (S0:Int→Tab→Bool)
  (hX0:∀ (zbd:Int) (dt0:Tab),P0 zbd dt0=true→K (e88 (S0 zbd dt0))→X0 (zhC w zbd dt0)) (za2:Int) (zaq:Bool) (dt1:Tab) (hs:zoR P0 w za2 zaq dt1=true) (hk:K (e88 (zuD S0 w za2 zaq dt1))):zi6 K X0 w za2 zaq dt1:=by
  unfold zoR at hs
  rw [Bool.and_eq_true] at hs
  obtain ⟨hsf,hs⟩:=hs
  have hc:=of_decide_eq_true hsf
  refine zuC K X0 w za2 zaq dt1 ⟨isE,rfl,hc⟩ ?_
  intro X1 hexit hstep
  have key:∀ (l:List step) (za2:Int) (zaq:Bool) (dt1:Tab),zi8 P0 w l za2 zaq dt1=true→K (e88 (zi7 S0 w l za2 zaq dt1))→X1 (l.map fun y=>[.agg (zae y)]) (zfM w za2 zaq dt1):=by
    intro l
    induction l with
    | nil =>
      intro za2 zaq dt1 hs hk
      refine hexit za2 zaq dt1 ?_
      have hs:zoO P0 w za2 zaq dt1=true:=hs
      have hk:K (e88 (zoN S0 w za2 zaq dt1)):=hk
      unfold zoO at hs
      unfold zoN at hk
      exact (zaP (K := fun r => K (e88 r))
 (fun hs hk=>hk)
 (fun hs hk=>(hX0 (w64 (za2+(1:Int))) dt1 hs hk)) hs hk)
    | cons y1 l ih =>
      intro za2 zaq dt1 hs hk
      refine hstep y1 _ za2 zaq dt1 ?_
      have hs:zoQ P0 w y1 (zi8 P0 w l) za2 zaq dt1=true:=hs
      have hk:K (e88 (zoP S0 w y1 (zi7 S0 w l) za2 zaq dt1)):=hk
      unfold zoQ at hs
      unfold zoP at hk
      generalize zi7 S0 w l=S1 at hk ih
      generalize zi8 P0 w l=P1 at hs ih
      have hX1:=ih
      exact (za7 hs fun hc hs => ⟨hc, (za7 hs fun hc hs => ⟨hc, (zaP (K := fun r => K (e88 r))
 (fun hs hk=>(za7 hs fun hc hs=>⟨hc,(hX1 za2 true (ts 40 dt1 (0+y1.to.toNat * 1+0) [(w64 ((tg 40 dt1 (0+y1.from_.toNat * 1+0))+y1.length))]) hs hk)⟩))
 (fun hs hk=>(hX1 za2 zaq dt1 hs hk)) hs hk)⟩)⟩)
  exact key _ za2 zaq dt1 hs hk
def zoS (w:web) (S0:Int→Tab→Bool) (zbd:Int) (dt0:Tab):Bool :=
  (cond (decide (zbd < w.Net.Nodes))
 (zuD S0 w zbd false dt0)
 true)
def zoT (w:web) (P0:Int→Tab→Bool) (zbd:Int) (dt0:Tab):Bool :=
  (cond (decide (zbd < w.Net.Nodes))
 (zoR P0 w zbd false dt0)
 true)
def zi9 (w : web) : Nat → Int → Tab → Bool
  | 0=>fun _ _=>default
  | k+1=>zoS w (zi9 w k)
def zja (w : web) : Nat → Int → Tab → Bool
  | 0=>fun _ _=>false
  | k+1=>zoT w (zja w k)
def zuE (w:web) (zbd:Int) (dt0:Tab):Bool:=zi9 w Fuel zbd dt0
def zuF (w:web) (zbd:Int) (dt0:Tab):Bool:=zja w Fuel zbd dt0
theorem zBo (K:List PA→Prop) (w:web) (zbd:Int) (dt0:Tab) (hs:zuF w zbd dt0=true) (hk:K (e88 (zuE w zbd dt0))):zi5 K w zbd dt0:=by
  refine zuB K w zbd dt0 ?_
  intro X0 hstep
  have key:∀ (k:Nat) (zbd:Int) (dt0:Tab),zja w k zbd dt0=true→K (e88 (zi9 w k zbd dt0))→X0 (zhC w zbd dt0):=by
    intro k
    induction k with
    | zero=>intro zbd dt0 hs;exact absurd hs Bool.false_ne_true
    | succ k ih =>
      intro zbd dt0 hs hk
      refine hstep zbd dt0 ?_
      have hs:zoT w (zja w k) zbd dt0=true:=hs
      have hk:K (e88 (zoS w (zi9 w k) zbd dt0)):=hk
      unfold zoT at hs
      unfold zoS at hk
      generalize zi9 w k=S0 at hk ih
      generalize zja w k=P0 at hs ih
      have hX0:=ih
      exact (zaP (K := fun r => K (e88 r))
 (fun hs hk=>⟨⟨isE,rfl⟩,(zBn K w X0 P0 S0 hX0 zbd false dt0 hs hk)⟩)
 (fun hs hk=>hk) hs hk)
  exact key _ zbd dt0 hs hk
def s88 (w:web):Bool :=
  (zuE w (0:Int) (fun _=>(0:Int)))
def p88 (w:web):Bool :=
  (zuF w (0:Int) (fun _=>(0:Int)))
theorem q88 (w:web) (K:List PA→Prop) (hs:p88 w=true) (hk:K (e88 (s88 w))):vcFun Tryd.prog G88 zcu 88 [.one (.fp (zaw w) 0)] K:=by
  refine zbh (zBm w K) ?_
  unfold p88 at hs
  unfold s88 at hk
  exact (zBo K w (0:Int) (fun _=>(0:Int)) hs hk)
def zuG : List PA → COut
  | [.one (.fp [.int .i64 a0_Net_Nodes,.sl a0_Net_Ties_n a0_Net_Ties_s a0_Net_Ties_g,.fm a0_out_q a0_out_n a0_out_F] 0)]=>.det (IsE zaj 4 a0_Net_Ties_s a0_Net_Ties_g∧a0_out_q=(false,1,false,[none])∧p88 (⟨(⟨a0_Net_Nodes,(⟨a0_Net_Ties_n,zaa a0_Net_Ties_g⟩:(Sl Tie))⟩:Net),(⟨a0_out_n,a0_out_F⟩:Mp)⟩:web)=true) [.one (.bool (s88 (⟨(⟨a0_Net_Nodes,(⟨a0_Net_Ties_n,zaa a0_Net_Ties_g⟩:(Sl Tie))⟩:Net),(⟨a0_out_n,a0_out_F⟩:Mp)⟩:web)))]
  | _=>.no
theorem zEL:zas Tryd.prog 88:=⟨_,rfl,rfl,by kernel_rfl⟩
theorem zGE:Ok Tryd.prog 88 zuG:=zbJ zGD zEL fun args K h=>by
  unfold zuG at h
  split at h
  · rename_i a0_Net_Nodes a0_Net_Ties_n a0_Net_Ties_s a0_Net_Ties_g a0_out_q a0_out_n a0_out_F
    obtain ⟨⟨⟨rfl,a0_Net_Ties_f,rfl⟩,rfl,hs⟩,hk⟩:=h
    try rw [zar a0_Net_Ties_f] at hs
    try rw [zar a0_Net_Ties_f] at hk
    exact ⟨(fun _ _=>[]),(fun _=>false),zcu,q88 (⟨(⟨a0_Net_Nodes,(⟨a0_Net_Ties_n,a0_Net_Ties_f⟩:(Sl Tie))⟩:Net),(⟨a0_out_n,a0_out_F⟩:Mp)⟩:web) K hs hk⟩
  · exact h.elim
abbrev zHF:Tabs:=Tabs.nil
theorem zEM:TabsOk Tryd.prog zHF:=TabsOk.nil
abbrev zH1:Ctrs:=csm zHF (fun _ _=>[]) (fun _=>false)
def zz1:Ann:=⟨24,[(0,zK [2,3] [2,3]),(1,zK [4] [])],
 [],
 [],
 [],[]⟩
abbrev zH2:=Bool
abbrev zH3 (r:zH2):List PA:=[.one (.bool r)]
section
variable {K:List PA→Prop} {a:far} {b:far}
def zGe (a:far) (b:far):Bool :=
  (cond (decide (a.length < b.length))
 true
 (cond (a.length == b.length)
 (decide (a.uses < b.uses))
 false))
end
theorem zH4 (a:far) (b:far) (K:List PA→Prop) (hk:K (zH3 (zGe a b))):vcFun Tryd.prog zH1 zz1 105 [.agg (zb9 a),.agg (zb9 b)] K :=
  zbh (by kernel_rfl) (zt hk (fun hk=>hk) (fun hk=>(zt hk (fun hk=>hk) (fun hk=>hk))))
def zuH : List PA → COut
  | [.agg [.int .i64 a0_length,.int .i64 a0_uses],.agg [.int .i64 a1_length,.int .i64 a1_uses]]=>.tot [.one (.bool (zGe (⟨a0_length,a0_uses⟩:far) (⟨a1_length,a1_uses⟩:far)))]
  | _=>.no
theorem zBp:zas Tryd.prog 105:=⟨_,rfl,rfl,by kernel_rfl⟩
theorem zGF:Ok Tryd.prog 105 zuH:=zbJ zEM zBp fun args K h=>by
  unfold zuH at h
  split at h
  · rename_i a0_length a0_uses a1_length a1_uses
    have hk:=h
    exact ⟨(fun _ _=>[]),(fun _=>false),zz1,zH4 (⟨a0_length,a0_uses⟩:far) (⟨a1_length,a1_uses⟩:far) K hk⟩
  · exact h.elim
abbrev zHG:Tabs:=(Tabs.nil.addF 105 zuH)
theorem zEN:TabsOk Tryd.prog zHG:=(TabsOk.nil.addF zGF)
abbrev zHH:Ctrs:=csm zHG (fun _ _=>[]) (fun _=>false)
def zuI:Ann:=⟨22,[(0,zK [0,2,4,6] [4,6]),(1,zK [0,4,6,9,10,11] [4,6]),(2,zK [0,4,6,9,10,11,12] [4,6]),(3,zK [0,4,6,8,9,10,11] [4,6,8]),(4,zK [0,4,6,8,9,10,11,18] [4,6,8]),(5,zK [0,4,6,9,10,11] [4,6]),(6,zK [0,4,6,9,10,11] [4,6]),(7,zK [6] [6])],
 [(2,zK [0,4,6,9,10,11] [4,6])],
 [(5,zK [0,4,6,8,9,10,11,18] [4,6,8])],
 [],[]⟩
abbrev zH5:=far
abbrev zGf (r:zH5):List PA:=[.agg [.int .i64 r.length,.int .i64 r.uses]]
@[irreducible] def z104:=ptF Tryd.prog zHH zuI Tryd.f104
def zuJ (others:(Sl far)) (zaS:Int) (zbj:Int) (zbk:Int):St:=⟨[(0,zP (.fn 105 [] [])),(4,zp 4 0),(6,zp 6 0),(9,zS zb9 2 others),(10,zI (others.len:Int)),(11,zI zaS)],[(4,.box 114 (zm (zb9 (⟨zbj,zbk⟩:far)))),(6,.box 114 (zm (zb9 (⟨(0:Int),(0:Int)⟩:far))))],[]⟩
abbrev zuK (K:List PA→Prop) (others:(Sl far)) (X:St→Prop) (P:Int→Int→Int→Bool) (S:Int→Int→Int→far):Prop:=∀ ⦃zaS:Int⦄ ⦃zbj:Int⦄ ⦃zbk:Int⦄,P zaS zbj zbk=true→K (zGf (S zaS zbj zbk))→X (zuJ others zaS zbj zbk)
section
variable {K:List PA→Prop} {first:far} {others:(Sl far)} {zaS:Int} {zbj:Int} {zbk:Int} {X0:St→Prop} {P0:Int→Int→Int→Bool} {S0:Int→Int→Int→far} {zcy:Int} {zao:Bool} {zdA:Int} {zdB:Int} {zoU:Int} {zoV:Int}
def zrf (S0:Int→Int→Int→far) (others:(Sl far)) (zcy:Int) (zao:Bool) (zdA:Int) (zdB:Int) (zoU:Int) (zoV:Int):far :=
  (cond zao
 (S0 (w64 (zcy+(1:Int))) zoU zoV)
 (S0 (w64 (zcy+(1:Int))) zdA zdB))
def zrg (P0:Int→Int→Int→Bool) (others:(Sl far)) (zcy:Int) (zao:Bool) (zdA:Int) (zdB:Int) (zoU:Int) (zoV:Int):Bool :=
  (cond zao
 (P0 (w64 (zcy+(1:Int))) zoU zoV)
 (P0 (w64 (zcy+(1:Int))) zdA zdB))
theorem zy4 (hX0:zuK K others X0 P0 S0) (hs:zrg P0 others zcy zao zdA zdB zoU zoV=true) (hk:K (zGf (zrf S0 others zcy zao zdA zdB zoU zoV))):z104 K [1,0,1,0,0,1,1,0,0,1,1] [X0] ⟨[(0,zP (.fn 105 [] [])),(4,zp 4 0),(6,zp 6 0),(8,zp 8 0),(9,zS zb9 2 others),(10,zI (others.len:Int)),(11,zI zcy),(18,zB zao)],[(4,.box 114 (zm (zb9 (⟨zdA,zdB⟩:far)))),(6,.box 114 (zm (zb9 (⟨(0:Int),(0:Int)⟩:far)))),(8,.box 114 (zm (zb9 (⟨zoU,zoV⟩:far))))],[]⟩:=zbh (by kernel_rfl) (zc hs hk (fun hs hk=>(hX0 hs hk)) (fun hs hk=>(hX0 hs hk)))
def zrh (others:(Sl far)) (S0:Int→Int→Int→far) (zaS:Int) (zbj:Int) (zbk:Int):far :=
  (cond (decide (zaS < (others.len : Int)))
 (zrf S0 others zaS (zGe (others.get zaS.toNat) (⟨zbj,zbk⟩:far)) zbj zbk ((others.get zaS.toNat).length) ((others.get zaS.toNat).uses))
 (⟨zbj,zbk⟩:far))
def zri (others:(Sl far)) (P0:Int→Int→Int→Bool) (zaS:Int) (zbj:Int) (zbk:Int):Bool :=
  (cond (decide (zaS < (others.len : Int)))
 (decide ((0≤zaS∧zaS < (others.len:Int))) &&
 (zrg P0 others zaS (zGe (others.get zaS.toNat) (⟨zbj,zbk⟩:far)) zbj zbk ((others.get zaS.toNat).length) ((others.get zaS.toNat).uses)))
 true)
def zrj (others:(Sl far)):Nat→Int→Int→Int→far:=lpO (fun _ _ _=>default) (zrh others)
def zrk (others:(Sl far)):Nat→Int→Int→Int→Bool:=lpO (fun _ _ _=>false) (zri others)
def zrl (others:(Sl far)) (zaS:Int) (zbj:Int) (zbk:Int):far:=zrj others Fuel zaS zbj zbk
def zrm (others:(Sl far)) (zaS:Int) (zbj:Int) (zbk:Int):Bool:=zrk others Fuel zaS zbj zbk
theorem zy5 (hs:zrm others zaS zbj zbk=true) (hk:K (zGf (zrl others zaS zbj zbk))):z104 K [1,0,1,0] [] (zuJ others zaS zbj zbk) :=
  zl (fun X=>z104 K [1,0,1,0,0] [X]) (by kernel_rfl) fun X0 hX =>
  (show ∀ k, zuK K others X0 (zrk others k) (zrj others k) from zkR _ _ (zri others) (zrh others) (zuK K others X0)
 (by intro _ _ _ hs;exact absurd hs Bool.false_ne_true)
 (by intro P0 S0 hX0 zaS zbj zbk hs hk;exact hX _ (zbh (by kernel_rfl) (zc hs hk (fun hs hk=>(za7 hs fun hc hs=>And.intro hc (zy4 hX0 hs hk))) (fun hs hk=>hk))))) _ hs hk
def zcz (first:far) (others:(Sl far)):far :=
  (zrl others (0:Int) first.length first.uses)
def zz2 (first:far) (others:(Sl far)):Bool :=
  (zrm others (0:Int) first.length first.uses)
end
theorem zH6 (first:far) (others:(Sl far)) (K:List PA→Prop) (hs:zz2 first others=true) (hk:K (zGf (zcz first others))):vcFun Tryd.prog zHH zuI 104 [.one (.fn 105 [] []),.agg (zb9 first),.one (.sl others.len 2 (fun i=>zb9 (others.get i)))] K :=
  zbh (by kernel_rfl) (zy5 hs hk)
def zni : List PA → COut
  | [.one (.fn 105 [] []),.agg [.int .i64 a1_length,.int .i64 a1_uses],.one (.sl a2_n a2_s a2_g)]=>.det (IsE zb9 2 a2_s a2_g∧zz2 (⟨a1_length,a1_uses⟩:far) (⟨a2_n,zh3 a2_g⟩:(Sl far))=true) [.agg [.int .i64 ((zcz (⟨a1_length,a1_uses⟩:far) (⟨a2_n,zh3 a2_g⟩:(Sl far))).length),.int .i64 ((zcz (⟨a1_length,a1_uses⟩:far) (⟨a2_n,zh3 a2_g⟩:(Sl far))).uses)]]
  | _=>.no
theorem zBq:zas Tryd.prog 104:=⟨_,rfl,rfl,by kernel_rfl⟩
theorem zBr:Ok Tryd.prog 104 zni:=zbJ zEN zBq fun args K h=>by
  unfold zni at h
  split at h
  · rename_i a1_length a1_uses a2_n a2_s a2_g
    obtain ⟨⟨⟨rfl,a2_f,rfl⟩,hs⟩,hk⟩:=h
    try rw [zhA a2_f] at hs
    try rw [zhA a2_f] at hk
    exact ⟨(fun _ _=>[]),(fun _=>false),zuI,zH6 (⟨a1_length,a1_uses⟩:far) (⟨a2_n,a2_f⟩:(Sl far)) K hs hk⟩
  · exact h.elim
abbrev zHI:Tabs:=(((Tabs.nil.addF 93 znc).addF 104 zni).addI 110 zne)
theorem zEO:TabsOk Tryd.prog zHI:=(((TabsOk.nil.addF zDJ).addF zBr).addI zsw)
abbrev zeK:Ctrs:=csm zHI (fun _ _=>[]) (fun _=>false)
def za3:Ann:=⟨91,[(0,⟨[0,2,4],[4],[],[],[],[],[]⟩),(1,⟨[0,2,4,7],[4,7,15],[],[],[],[],[]⟩),(2,⟨[0,2,4,7,17,18],[4,7,15],[],[],[],[],[]⟩),(3,⟨[0,2,4,7,17,18,19],[4,7,15],[],[],[],[],[]⟩),(4,⟨[0,2,4,7,8,17,18],[4,7,15],[],[],[],[],[]⟩),(5,⟨[0,2,4,7,8,17,18,21],[4,7,15],[],[],[],[],[]⟩),(6,⟨[0,2,4,7,8,17,18,21,22],[4,7,15],[],[],[],[],[]⟩),(7,⟨[0,2,4,7,8,9,17,18,21],[4,7,15],[],[],[],[],[]⟩),(8,⟨[0,2,4,7,8,17,18,21],[4,7,15],[],[],[],[],[]⟩),(9,⟨[0,2,4,7,8,17,18,21],[4,7,15],[],[],[],[],[]⟩),(10,⟨[0,2,4,7,17,18],[4,7,15],[],[],[],[],[]⟩),(11,⟨[0,2,4,7],[4,7,15],[],[],[],[],[]⟩),(12,⟨[0,2,4,7,10],[4,7,10,15],[],[],[],[],[]⟩),(13,⟨[0,2,4,7,10,39],[4,7,10,15],[],[],[],[],[]⟩),(14,⟨[0,2,4,7,10],[4,7,10,15],[],[],[],[],[]⟩),(15,⟨[0,2,4,7,10,43],[4,7,10,15],[],[],[],[],[]⟩),(16,⟨[0,2,4,7,10,11,43],[4,7,10,11,15],[],[],[],[],[]⟩),(17,⟨[0,2,4,7,10,11,12,43],[4,7,10,11,12,15],[],[],[],[],[]⟩),(18,⟨[0,2,4,7,10,11,12,43,67],[4,7,10,11,12,15],[],[],[],[],[]⟩),(19,⟨[0,2,4,7,10,43],[4,7,10,15],[],[],[],[],[]⟩),(20,⟨[0,2,4,7,89],[4,7,15],[],[],[],[],[]⟩),(21,⟨[0,2,4,7,10],[4,7,10,15],[],[],[],[],[]⟩),(22,⟨[6],[15],[],[],[],[],[]⟩)],
 [(3,⟨[0,2,4,7,17,18],[4,7,15],[],[],[],[],[]⟩),(6,⟨[0,2,4,7,8,17,18,21],[4,7,15],[],[],[],[],[]⟩),(13,⟨[0,2,4,7,10],[4,7,10,15],[],[],[],[],[]⟩),(16,⟨[0,2,4,7,10,43],[4,7,10,15],[],[],[],[],[]⟩)],
 [(11,⟨[0,2,4,7],[4,7,15],[],[],[],[],[]⟩)],
 [],[]⟩
def zeY (w:web) (node:Int) (uses:Int) (zbH:Int) (zeZ:Nat) (zbT:Nat→List PV):St:=⟨[(0,.one (.c (.p (.fp (zaw w) 0)))),(2,.one (.c (.p (.int .i64 uses)))),(4,.one (.c (.ptr 4 0))),(7,.one (.c (.ptr 7 0))),(17,.one (.c (.p (.int .i64 ((w64 (uses+(1:Int))).toNat:Int))))),(18,.one (.c (.p (.int .i64 zbH))))],[(4,.box 3 [.p (.int .i64 node)]),(7,.box 159 [.vec 15]),(15,.vec 116 80 640 zeZ zbT)],[]⟩
def zgB (K:List PA→Prop) (w:web) (node:Int) (uses:Int) (zbH:Int) (zeZ:Nat) (zbT:Nat→List PV):Prop:=vc Tryd.prog zeK za3 (cdF Tryd.f106 [1,1,0,1,0]) (zak 0 (sqK Tryd.prog zeK za3 (cdF Tryd.f106 [1,1,1]) (zba Tryd.prog Tryd.f106 K))) (zeY w node uses zbH zeZ zbT)
def zf0 (w:web) (node:Int) (uses:Int) (iv1:Int) (zao:Int) (zbw:Int) (ze0:Nat) (zcg:Nat→List PV):St:=⟨[(0,.one (.c (.p (.fp (zaw w) 0)))),(2,.one (.c (.p (.int .i64 uses)))),(4,.one (.c (.ptr 4 0))),(7,.one (.c (.ptr 7 0))),(8,.one (.c (.p (.int .i64 iv1)))),(17,.one (.c (.p (.int .i64 ((w64 (uses+(1:Int))).toNat:Int))))),(18,.one (.c (.p (.int .i64 zao)))),(21,.one (.c (.p (.int .i64 zbw))))],[(4,.box 3 [.p (.int .i64 node)]),(7,.box 159 [.vec 15]),(15,.vec 116 80 640 ze0 zcg)],[]⟩
def zgC (K:List PA→Prop) (X0:St→Prop) (w:web) (node:Int) (uses:Int) (iv1:Int) (zao:Int) (zbw:Int) (ze0:Nat) (zcg:Nat→List PV):Prop:=vc Tryd.prog zeK za3 (cdF Tryd.f106 [1,1,0,1,0,0,1,1,0,0,1,1,0]) (zak 2 (zak 1 (sqK Tryd.prog zeK za3 (cdF Tryd.f106 [1,1,0,1,0,0,1,1,1]) (zbb Tryd.prog za3 3 X0 (zak 0 (sqK Tryd.prog zeK za3 (cdF Tryd.f106 [1,1,1]) (zba Tryd.prog Tryd.f106 K))))))) (zf0 w node uses iv1 zao zbw ze0 zcg)
def zBs (w:web) (node:Int) (uses:Int) (zoW:Nat) (zhb:Nat→List PV):St:=⟨[(0,.one (.c (.p (.fp (zaw w) 0)))),(2,.one (.c (.p (.int .i64 uses)))),(4,.one (.c (.ptr 4 0))),(7,.one (.c (.ptr 7 0)))],[(4,.box 3 [.p (.int .i64 node)]),(7,.box 159 [.vec 15]),(15,.vec 116 80 640 zoW zhb)],[]⟩
def zh4 (K:List PA→Prop) (w:web) (node:Int) (uses:Int) (zoW:Nat) (zhb:Nat→List PV):Prop:=vc Tryd.prog zeK za3 (cdF Tryd.f106 [1,1,1]) (zba Tryd.prog Tryd.f106 K) (zBs w node uses zoW zhb)
def ze1 (w:web) (node:Int) (uses:Int) (kv3:Int) (ze2:Nat) (zbU:Nat→List PV):St:=⟨[(0,.one (.c (.p (.fp (zaw w) 0)))),(2,.one (.c (.p (.int .i64 uses)))),(4,.one (.c (.ptr 4 0))),(7,.one (.c (.ptr 7 0))),(10,.one (.c (.ptr 10 0)))],[(4,.box 3 [.p (.int .i64 node)]),(7,.box 159 [.vec 15]),(10,.box 3 [.p (.int .i64 kv3)]),(15,.vec 116 80 640 ze2 zbU)],[]⟩
def zgD (K:List PA→Prop) (w:web) (node:Int) (uses:Int) (kv3:Int) (ze2:Nat) (zbU:Nat→List PV):Prop:=vc Tryd.prog zeK za3 (cdF Tryd.f106 [1,1,1,1,0,1,0]) (zak 4 (sqK Tryd.prog zeK za3 (cdF Tryd.f106 [1,1,1,1,1]) (zba Tryd.prog Tryd.f106 K))) (ze1 w node uses kv3 ze2 zbU)
def zc8 (w:web) (node:Int) (uses:Int) (kv4:Int) (ze3:Nat) (zch:Nat→List PV):St:=⟨[(0,.one (.c (.p (.fp (zaw w) 0)))),(2,.one (.c (.p (.int .i64 uses)))),(4,.one (.c (.ptr 4 0))),(7,.one (.c (.ptr 7 0))),(10,.one (.c (.ptr 10 0))),(43,.one (.c (.p (.fn 110 [] [.fp [.fp (zaw w) 0] 0]))))],[(4,.box 3 [.p (.int .i64 node)]),(7,.box 159 [.vec 15]),(10,.box 3 [.p (.int .i64 kv4)]),(15,.vec 116 80 640 ze3 zch)],[]⟩
def zgE (K:List PA→Prop) (X3:St→Prop) (w:web) (node:Int) (uses:Int) (kv4:Int) (ze3:Nat) (zch:Nat→List PV):Prop:=vc Tryd.prog zeK za3 (cdF Tryd.f106 [1,1,1,1,0,1,0,0,1,0,0,1,0]) (zak 6 (zak 5 (sqK Tryd.prog zeK za3 (cdF Tryd.f106 [1,1,1,1,0,1,0,0,1,1]) (zbb Tryd.prog za3 13 X3 (zak 4 (sqK Tryd.prog zeK za3 (cdF Tryd.f106 [1,1,1,1,1]) (zba Tryd.prog Tryd.f106 K))))))) (zc8 w node uses kv4 ze3 zch)
theorem zy6 (w : web) (node : Int) (uses : Int) (K : List PA → Prop) :
  vcFun Tryd.prog zeK za3 106 [.one (.fp (zaw w) 0),.one (.int .i64 node),.one (.int .i64 uses)] K =
  (((0≤(w64 (uses+(1:Int)))∧(w64 (uses+(1:Int)))=(w64 (uses+(1:Int)))∧(w64 (uses+(1:Int)))≤1000000)) ∧
 (zgB K w node uses (0:Int) ((w64 (uses+(1:Int))).toNat) (fun _=>(zad (fun _=>(0:Int)))))):=by kernel_rfl
def zkT (K:List PA→Prop) (X0:St→Prop) (w:web) (node:Int) (uses:Int) (zbH:Int) (zbK:(Sl Tab)):Prop :=
  (zbA (decide (zbH < ((w64 (uses + (1:Int))).toNat : Int)))
 (zgC K X0 w node uses zbH zbH (0:Int) zbK.len (fun i=>zad (zbK.get i)))
 (zh4 K w node uses zbK.len (fun i=>zad (zbK.get i))))
theorem znj (K : List PA → Prop) (X0 : St → Prop) (w : web) (node : Int) (uses : Int) (zbH : Int) (zbK : (Sl Tab)) :
  vc Tryd.prog zeK za3 (cd (cdF Tryd.f106 [1,1,0,1,0]) [0]) (zbb Tryd.prog za3 3 X0 (zak 0 (sqK Tryd.prog zeK za3 (cdF Tryd.f106 [1,1,1]) (zba Tryd.prog Tryd.f106 K)))) (zeY w node uses zbH zbK.len (fun i=>zad (zbK.get i))) =
  zkT K X0 w node uses zbH zbK:=by kernel_rfl
theorem zsx (K : List PA → Prop) (w : web) (node : Int) (uses : Int) (zbH : Int) (zeZ : Nat) (zbT : Nat → List PV)
  (h:∀ X0:St→Prop,(∀ (zbH:Int) (zbK:(Sl Tab)),zkT K X0 w node uses zbH zbK→X0 (zeY w node uses zbH zbK.len (fun i=>zad (zbK.get i))))→X0 (zeY w node uses zbH zeZ zbT)) :
  zgB K w node uses zbH zeZ zbT:=by
  have e:zgB K w node uses zbH zeZ zbT=(∀ X:St→Prop,(∀ s,vc Tryd.prog zeK za3 (cd (cdF Tryd.f106 [1,1,0,1,0]) [0]) (zbb Tryd.prog za3 3 X (zak 0 (sqK Tryd.prog zeK za3 (cdF Tryd.f106 [1,1,1]) (zba Tryd.prog Tryd.f106 K)))) s→X s)→X (zeY w node uses zbH zeZ zbT)):=by kernel_rfl
  refine zbh e ?_
  intro X hX
  refine h X ?_
  intro zbH zbK hs
  refine hX _ ?_
  have e2:=znj K X w node uses zbH zbK
  rw [e2]
  exact hs
def zkU (K:List PA→Prop) (X0:St→Prop) (X1:St→Prop) (w:web) (node:Int) (uses:Int) (iv1:Int) (zao:Int) (zbw:Int) (zbr:(Sl Tab)):Prop :=
  (zbA (decide (zbw < (40:Int)))
 (((0≤iv1∧iv1 < (zbr.len:Int))) ∧
 (((0≤zbw∧zbw < (40:Int))) ∧
 (((iv1.toNat < zbr.len)) ∧
 (X1 (zf0 w node uses iv1 zao (w64 (zbw+(1:Int))) zbr.len (zhT iv1.toNat 0 (fun i=>zad (zbr.get i)) (zad (ts 80 (zbr.get iv1.toNat) (0+zbw.toNat * 2+0) [(1000000000000:Int),(0:Int)]))))))))
 (X0 (zeY w node uses (w64 (zao+(1:Int))) zbr.len (fun i=>zad (zbr.get i)))))
theorem znk (K : List PA → Prop) (X0 : St → Prop) (X1 : St → Prop) (w : web) (node : Int) (uses : Int) (iv1 : Int) (zao : Int) (zbw : Int) (zbr : (Sl Tab)) :
  vc Tryd.prog zeK za3 (cd (cdF Tryd.f106 [1,1,0,1,0,0,1,1,0,0,1,1,0]) [0]) (zbb Tryd.prog za3 6 X1 (zak 2 (zak 1 (sqK Tryd.prog zeK za3 (cdF Tryd.f106 [1,1,0,1,0,0,1,1,1]) (zbb Tryd.prog za3 3 X0 (zak 0 (sqK Tryd.prog zeK za3 (cdF Tryd.f106 [1,1,1]) (zba Tryd.prog Tryd.f106 K)))))))) (zf0 w node uses iv1 zao zbw zbr.len (fun i=>zad (zbr.get i))) =
  zkU K X0 X1 w node uses iv1 zao zbw zbr:=by kernel_rfl
theorem zsy (K : List PA → Prop) (X0 : St → Prop) (w : web) (node : Int) (uses : Int) (iv1 : Int) (zao : Int) (zbw : Int) (ze0 : Nat) (zcg : Nat → List PV)
  (h:∀ X1:St→Prop,(∀ (iv1:Int) (zao:Int) (zbw:Int) (zbr:(Sl Tab)),zkU K X0 X1 w node uses iv1 zao zbw zbr→X1 (zf0 w node uses iv1 zao zbw zbr.len (fun i=>zad (zbr.get i))))→X1 (zf0 w node uses iv1 zao zbw ze0 zcg)) :
  zgC K X0 w node uses iv1 zao zbw ze0 zcg:=by
  have e:zgC K X0 w node uses iv1 zao zbw ze0 zcg=(∀ X:St→Prop,(∀ s,vc Tryd.prog zeK za3 (cd (cdF Tryd.f106 [1,1,0,1,0,0,1,1,0,0,1,1,0]) [0]) (zbb Tryd.prog za3 6 X (zak 2 (zak 1 (sqK Tryd.prog zeK za3 (cdF Tryd.f106 [1,1,0,1,0,0,1,1,1]) (zbb Tryd.prog za3 3 X0 (zak 0 (sqK Tryd.prog zeK za3 (cdF Tryd.f106 [1,1,1]) (zba Tryd.prog Tryd.f106 K)))))))) s→X s)→X (zf0 w node uses iv1 zao zbw ze0 zcg)):=by kernel_rfl
  refine zbh e ?_
  intro X hX
  refine h X ?_
  intro iv1 zao zbw zbr hs
  refine hX _ ?_
  have e2:=znk K X0 X w node uses iv1 zao zbw zbr
  rw [e2]
  exact hs
theorem zy7 (K : List PA → Prop) (w : web) (node : Int) (uses : Int) (zcD : (Sl Tab)) :
  zh4 K w node uses zcD.len (fun i=>zad (zcD.get i)) =
  (((0≤(0:Int)∧(0:Int) < (zcD.len:Int))) ∧
 (((0≤node∧node < (40:Int))) ∧
 (((0 < zcD.len)) ∧
 (zgD K w node uses (1:Int) zcD.len (zhT 0 0 (fun i=>zad (zcD.get i)) (zad (ts 80 (zcD.get 0) (0+node.toNat * 2+0) [(0:Int),(0:Int)]))))))):=by kernel_rfl
def zkV (K:List PA→Prop) (X3:St→Prop) (w:web) (node:Int) (uses:Int) (kv3:Int) (zbN:(Sl Tab)):Prop :=
  (zbA (decide (kv3 ≤ uses))
 ((IsE zaj 4 4 (fun i=>zaj (w.Net.Ties.get i))∧((false,1,false,[none]):MQ)=(false,1,false,[none])) ∧
 (zgE K X3 w node uses kv3 zbN.len (fun i=>zad (zbN.get i))))
 (K [.one (.sl zbN.len 80 (fun i=>zad (zbN.get i)))]))
theorem znl (K : List PA → Prop) (X3 : St → Prop) (w : web) (node : Int) (uses : Int) (kv3 : Int) (zbN : (Sl Tab)) :
  vc Tryd.prog zeK za3 (cd (cdF Tryd.f106 [1,1,1,1,0,1,0]) [0]) (zbb Tryd.prog za3 13 X3 (zak 4 (sqK Tryd.prog zeK za3 (cdF Tryd.f106 [1,1,1,1,1]) (zba Tryd.prog Tryd.f106 K)))) (ze1 w node uses kv3 zbN.len (fun i=>zad (zbN.get i))) =
  zkV K X3 w node uses kv3 zbN:=by kernel_rfl
theorem zsz (K : List PA → Prop) (w : web) (node : Int) (uses : Int) (kv3 : Int) (ze2 : Nat) (zbU : Nat → List PV)
  (h:∀ X3:St→Prop,(∀ (kv3:Int) (zbN:(Sl Tab)),zkV K X3 w node uses kv3 zbN→X3 (ze1 w node uses kv3 zbN.len (fun i=>zad (zbN.get i))))→X3 (ze1 w node uses kv3 ze2 zbU)) :
  zgD K w node uses kv3 ze2 zbU:=by
  have e:zgD K w node uses kv3 ze2 zbU=(∀ X:St→Prop,(∀ s,vc Tryd.prog zeK za3 (cd (cdF Tryd.f106 [1,1,1,1,0,1,0]) [0]) (zbb Tryd.prog za3 13 X (zak 4 (sqK Tryd.prog zeK za3 (cdF Tryd.f106 [1,1,1,1,1]) (zba Tryd.prog Tryd.f106 K)))) s→X s)→X (ze1 w node uses kv3 ze2 zbU)):=by kernel_rfl
  refine zbh e ?_
  intro X hX
  refine h X ?_
  intro kv3 zbN hs
  refine hX _ ?_
  have e2:=znl K X w node uses kv3 zbN
  rw [e2]
  exact hs
def zkW (K:List PA→Prop) (X3:St→Prop) (w:web) (node:Int) (uses:Int) (kv4:Int) (zav:(Sl Tab)):Prop :=
  (X3 (ze1 w node uses (w64 (kv4+(1:Int))) zav.len (fun i=>zad (zav.get i))))
def zkX (K:List PA→Prop) (X3:St→Prop) (X4:List (List PA)→St→Prop) (y4:step) (rest4:List (List PA)) (w:web) (node:Int) (uses:Int) (kv4:Int) (zav:(Sl Tab)):Prop :=
  (((0≤(w64 (kv4 - (1:Int)))∧(w64 (kv4 - (1:Int))) < (zav.len:Int))) ∧
 (((0≤y4.to∧y4.to < (40:Int))) ∧
 ((((w64 (kv4 - (1:Int))).toNat < zav.len)) ∧
 (zbA (decide (y4.from_ ≥ node))
 (zbA (decide (y4.to ≥ node))
 (zbA (!(match ((tg 80 (zav.get ((w64 (kv4 - (1:Int))).toNat)) (0 + y4.to.toNat * 2 + 0)) == (1000000000000:Int)) with | true => (match ((tg 80 (zav.get ((w64 (kv4 - (1:Int))).toNat)) (0 + y4.to.toNat * 2 + 0 + 1)) == (0:Int)) with | true => true | false => false) | false => false))
 (((0≤kv4∧kv4 < (zav.len:Int))) ∧
 (((0≤y4.from_∧y4.from_ < (40:Int))) ∧
 (((kv4.toNat < zav.len)) ∧
 ((IsE zb9 2 2 (fun _=>(zb9 (⟨(w64 ((tg 80 (zav.get ((w64 (kv4 - (1:Int))).toNat)) (0+y4.to.toNat * 2+0))+y4.length)),(0:Int)⟩:far)))∧(zz2 (⟨(tg 80 (zav.get kv4.toNat) (0+y4.from_.toNat * 2+0)),(tg 80 (zav.get kv4.toNat) (0+y4.from_.toNat * 2+0+1))⟩:far) (⟨1,fun _=>(⟨(w64 ((tg 80 (zav.get ((w64 (kv4 - (1:Int))).toNat)) (0+y4.to.toNat * 2+0))+y4.length)),(0:Int)⟩:far)⟩:(Sl far))=true)) ∧
 (((0≤kv4∧kv4 < (zav.len:Int))) ∧
 (((0≤y4.from_∧y4.from_ < (40:Int))) ∧
 (((kv4.toNat < zav.len)) ∧
 (X4 rest4 (zc8 w node uses kv4 zav.len (zhT kv4.toNat 0 (fun i=>zad (zav.get i)) (zad (ts 80 (zav.get kv4.toNat) (0+y4.from_.toNat * 2+0) [(zcz (⟨(tg 80 (zav.get kv4.toNat) (0+y4.from_.toNat * 2+0)),(tg 80 (zav.get kv4.toNat) (0+y4.from_.toNat * 2+0+1))⟩:far) (⟨1,fun _=>(⟨(w64 ((tg 80 (zav.get ((w64 (kv4 - (1:Int))).toNat)) (0+y4.to.toNat * 2+0))+y4.length)),(0:Int)⟩:far)⟩:(Sl far))).length,(zcz (⟨(tg 80 (zav.get kv4.toNat) (0+y4.from_.toNat * 2+0)),(tg 80 (zav.get kv4.toNat) (0+y4.from_.toNat * 2+0+1))⟩:far) (⟨1,fun _=>(⟨(w64 ((tg 80 (zav.get ((w64 (kv4 - (1:Int))).toNat)) (0+y4.to.toNat * 2+0))+y4.length)),(0:Int)⟩:far)⟩:(Sl far))).uses]))))))))))))
 (X4 rest4 (zc8 w node uses kv4 zav.len (fun i=>zad (zav.get i)))))
 (X4 rest4 (zc8 w node uses kv4 zav.len (fun i=>zad (zav.get i)))))
 (X4 rest4 (zc8 w node uses kv4 zav.len (fun i=>zad (zav.get i))))))))
theorem znm (K:List PA→Prop) (X3:St→Prop) (w:web) (node:Int) (uses:Int) (kv4:Int) (zav:(Sl Tab)):(zak 6 (zak 5 (sqK Tryd.prog zeK za3 (cdF Tryd.f106 [1,1,1,1,0,1,0,0,1,1]) (zbb Tryd.prog za3 13 X3 (zak 4 (sqK Tryd.prog zeK za3 (cdF Tryd.f106 [1,1,1,1,1]) (zba Tryd.prog Tryd.f106 K))))))) .normal (zc8 w node uses kv4 zav.len (fun i=>zad (zav.get i)))=zkW K X3 w node uses kv4 zav:=by kernel_rfl
theorem znn (K : List PA → Prop) (X3 : St → Prop) (X4 : List (List PA) → St → Prop) (y4 : step) (rest4 : List (List PA)) (w : web) (node : Int) (uses : Int) (kv4 : Int) (zav : (Sl Tab)) :
  zsL Tryd.prog zeK za3 16 [44] (cd (cdF Tryd.f106 [1,1,1,1,0,1,0,0,1,0,0,1,0]) [0]) (cd (cdF Tryd.f106 [1,1,1,1,0,1,0,0,1,0,0,1,0]) [1]) X4 (zak 6 (zak 5 (sqK Tryd.prog zeK za3 (cdF Tryd.f106 [1,1,1,1,0,1,0,0,1,1]) (zbb Tryd.prog za3 13 X3 (zak 4 (sqK Tryd.prog zeK za3 (cdF Tryd.f106 [1,1,1,1,1]) (zba Tryd.prog Tryd.f106 K))))))) [.agg (zae y4)] rest4 (zc8 w node uses kv4 zav.len (fun i=>zad (zav.get i)))=zkX K X3 X4 y4 rest4 w node uses kv4 zav:=by kernel_rfl
theorem zsA (K : List PA → Prop) (X3 : St → Prop) (w : web) (node : Int) (uses : Int) (kv4 : Int) (ze3 : Nat) (zch : Nat → List PV)
  (hsafe:IsE zaj 4 4 (fun i=>zaj (w.Net.Ties.get i))∧((false,1,false,[none]):MQ)=(false,1,false,[none])∧(zkj w=true)) (h:∀ X4:List (List PA)→St→Prop,(∀ (kv4:Int) (zav:(Sl Tab)),zkW K X3 w node uses kv4 zav→X4 [] (zc8 w node uses kv4 zav.len (fun i=>zad (zav.get i))))→(∀ (y:step) (rest:List (List PA)) (kv4:Int) (zav:(Sl Tab)),zkX K X3 X4 y rest w node uses kv4 zav→X4 ([.agg (zae y)] :: rest) (zc8 w node uses kv4 zav.len (fun i=>zad (zav.get i))))→X4 ((zha w).map fun y=>[.agg (zae y)]) (zc8 w node uses kv4 ze3 zch)) :
  zgE K X3 w node uses kv4 ze3 zch:=by
  have e:zgE K X3 w node uses kv4 ze3 zch=((IsE zaj 4 4 (fun i=>zaj (w.Net.Ties.get i))∧((false,1,false,[none]):MQ)=(false,1,false,[none])∧(zkj w=true))∧∀ X:List (List PA)→St→Prop,(∀ s,(zak 6 (zak 5 (sqK Tryd.prog zeK za3 (cdF Tryd.f106 [1,1,1,1,0,1,0,0,1,1]) (zbb Tryd.prog za3 13 X3 (zak 4 (sqK Tryd.prog zeK za3 (cdF Tryd.f106 [1,1,1,1,1]) (zba Tryd.prog Tryd.f106 K))))))) .normal s→X [] s)→(∀ y rest s,zsL Tryd.prog zeK za3 16 [44] (cd (cdF Tryd.f106 [1,1,1,1,0,1,0,0,1,0,0,1,0]) [0]) (cd (cdF Tryd.f106 [1,1,1,1,0,1,0,0,1,0,0,1,0]) [1]) X (zak 6 (zak 5 (sqK Tryd.prog zeK za3 (cdF Tryd.f106 [1,1,1,1,0,1,0,0,1,1]) (zbb Tryd.prog za3 13 X3 (zak 4 (sqK Tryd.prog zeK za3 (cdF Tryd.f106 [1,1,1,1,1]) (zba Tryd.prog Tryd.f106 K))))))) y rest s→X (y :: rest) s)→X ((zha w).map fun y=>[.agg (zae y)]) (zc8 w node uses kv4 ze3 zch)):=by kernel_rfl
  refine zbh e ⟨hsafe,?_⟩
  intro X h0 h1
  refine h X (fun kv4 zav hs=>h0 _ ?_) (fun y rest kv4 zav hs=>h1 _ rest _ ?_)
  · rw [znm K X3 w node uses kv4 zav];exact hs
  · have e2 := znn K X3 X y rest w node uses kv4 zav
    rw [e2];exact hs
abbrev zjb (r:(Sl Tab)):List PA:=[.one (.sl r.len 80 (fun i=>zad (r.get i)))]
attribute [irreducible] zgB zgC zh4 zgD zgE
def zlU (S3:Int→(Sl Tab)→(Sl Tab)) (w:web) (node:Int) (uses:Int) (kv4:Int) (zav:(Sl Tab)):(Sl Tab) :=
  (S3 (w64 (kv4+(1:Int))) zav)
def zlV (P3:Int→(Sl Tab)→Bool) (w:web) (node:Int) (uses:Int) (kv4:Int) (zav:(Sl Tab)):Bool :=
  (P3 (w64 (kv4+(1:Int))) zav)
def zlW (S3:Int→(Sl Tab)→(Sl Tab)) (w:web) (node:Int) (uses:Int) (y4:step) (S4:Int→(Sl Tab)→(Sl Tab)) (kv4:Int) (zav:(Sl Tab)):(Sl Tab) :=
  (cond (decide (y4.from_ ≥ node))
 (cond (decide (y4.to ≥ node))
 (cond (!(match ((tg 80 (zav.get ((w64 (kv4 - (1:Int))).toNat)) (0 + y4.to.toNat * 2 + 0)) == (1000000000000:Int)) with | true => (match ((tg 80 (zav.get ((w64 (kv4 - (1:Int))).toNat)) (0 + y4.to.toNat * 2 + 0 + 1)) == (0:Int)) with | true => true | false => false) | false => false))
 (S4 kv4 (⟨zav.len,(setT kv4.toNat (ts 80 (zav.get kv4.toNat) (0+y4.from_.toNat * 2+0) [(zcz (⟨(tg 80 (zav.get kv4.toNat) (0+y4.from_.toNat * 2+0)),(tg 80 (zav.get kv4.toNat) (0+y4.from_.toNat * 2+0+1))⟩:far) (⟨1,fun _=>(⟨(w64 ((tg 80 (zav.get ((w64 (kv4 - (1:Int))).toNat)) (0+y4.to.toNat * 2+0))+y4.length)),(0:Int)⟩:far)⟩:(Sl far))).length,(zcz (⟨(tg 80 (zav.get kv4.toNat) (0+y4.from_.toNat * 2+0)),(tg 80 (zav.get kv4.toNat) (0+y4.from_.toNat * 2+0+1))⟩:far) (⟨1,fun _=>(⟨(w64 ((tg 80 (zav.get ((w64 (kv4 - (1:Int))).toNat)) (0+y4.to.toNat * 2+0))+y4.length)),(0:Int)⟩:far)⟩:(Sl far))).uses]) zav.get)⟩:Sl Tab))
 (S4 kv4 zav))
 (S4 kv4 zav))
 (S4 kv4 zav))
def zlX (P3:Int→(Sl Tab)→Bool) (w:web) (node:Int) (uses:Int) (y4:step) (P4:Int→(Sl Tab)→Bool) (kv4:Int) (zav:(Sl Tab)):Bool :=
  (decide ((0≤(w64 (kv4 - (1:Int)))∧(w64 (kv4 - (1:Int))) < (zav.len:Int))) &&
 (decide ((0≤y4.to∧y4.to < (40:Int))) &&
 (decide (((w64 (kv4 - (1:Int))).toNat < zav.len)) &&
 (cond (decide (y4.from_ ≥ node))
 (cond (decide (y4.to ≥ node))
 (cond (!(match ((tg 80 (zav.get ((w64 (kv4 - (1:Int))).toNat)) (0 + y4.to.toNat * 2 + 0)) == (1000000000000:Int)) with | true => (match ((tg 80 (zav.get ((w64 (kv4 - (1:Int))).toNat)) (0 + y4.to.toNat * 2 + 0 + 1)) == (0:Int)) with | true => true | false => false) | false => false))
 (decide ((0≤kv4∧kv4 < (zav.len:Int))) &&
 (decide ((0≤y4.from_∧y4.from_ < (40:Int))) &&
 (decide ((kv4.toNat < zav.len)) &&
 (decide ((zz2 (⟨(tg 80 (zav.get kv4.toNat) (0+y4.from_.toNat * 2+0)),(tg 80 (zav.get kv4.toNat) (0+y4.from_.toNat * 2+0+1))⟩:far) (⟨1,fun _=>(⟨(w64 ((tg 80 (zav.get ((w64 (kv4 - (1:Int))).toNat)) (0+y4.to.toNat * 2+0))+y4.length)),(0:Int)⟩:far)⟩:(Sl far))=true)) &&
 (decide ((0≤kv4∧kv4 < (zav.len:Int))) &&
 (decide ((0≤y4.from_∧y4.from_ < (40:Int))) &&
 (decide ((kv4.toNat < zav.len)) &&
 (P4 kv4 (⟨zav.len,(setT kv4.toNat (ts 80 (zav.get kv4.toNat) (0+y4.from_.toNat * 2+0) [(zcz (⟨(tg 80 (zav.get kv4.toNat) (0+y4.from_.toNat * 2+0)),(tg 80 (zav.get kv4.toNat) (0+y4.from_.toNat * 2+0+1))⟩:far) (⟨1,fun _=>(⟨(w64 ((tg 80 (zav.get ((w64 (kv4 - (1:Int))).toNat)) (0+y4.to.toNat * 2+0))+y4.length)),(0:Int)⟩:far)⟩:(Sl far))).length,(zcz (⟨(tg 80 (zav.get kv4.toNat) (0+y4.from_.toNat * 2+0)),(tg 80 (zav.get kv4.toNat) (0+y4.from_.toNat * 2+0+1))⟩:far) (⟨1,fun _=>(⟨(w64 ((tg 80 (zav.get ((w64 (kv4 - (1:Int))).toNat)) (0+y4.to.toNat * 2+0))+y4.length)),(0:Int)⟩:far)⟩:(Sl far))).uses]) zav.get)⟩:Sl Tab)))))))))
 (P4 kv4 zav))
 (P4 kv4 zav))
 (P4 kv4 zav)))))
def zgF (S3 : Int → (Sl Tab) → (Sl Tab)) (w : web) (node : Int) (uses : Int) : List step → Int → (Sl Tab) → (Sl Tab)
  | []=>zlU S3 w node uses
  | y :: r=>zlW S3 w node uses y (zgF S3 w node uses r)
def zgG (P3 : Int → (Sl Tab) → Bool) (w : web) (node : Int) (uses : Int) : List step → Int → (Sl Tab) → Bool
  | []=>zlV P3 w node uses
  | y :: r=>zlX P3 w node uses y (zgG P3 w node uses r)
def zrn (S3:Int→(Sl Tab)→(Sl Tab)) (w:web) (node:Int) (uses:Int) (kv4:Int) (zav:(Sl Tab)):(Sl Tab):=zgF S3 w node uses (zha w) kv4 zav
def zlY (P3:Int→(Sl Tab)→Bool) (w:web) (node:Int) (uses:Int) (kv4:Int) (zav:(Sl Tab)):Bool:=decide ((zkj w=true)) && zgG P3 w node uses (zha w) kv4 zav
theorem zy8 (K : List PA → Prop) (w : web) (node : Int) (uses : Int)
  (X3:St→Prop) (P3:Int→(Sl Tab)→Bool) (S3:Int→(Sl Tab)→(Sl Tab))
  (hX3:∀ (kv3:Int) (zbN:(Sl Tab)) (zbU:Nat→List PV) (zhc:zbU=fun i=>zad (zbN.get i)),P3 kv3 zbN=true→K (zjb (S3 kv3 zbN))→X3 (ze1 w node uses kv3 zbN.len zbU)) (kv4:Int) (zav:(Sl Tab)) (zch:Nat→List PV) (zhd:zch=fun i=>zad (zav.get i)) (hs:zlY P3 w node uses kv4 zav=true) (hk:K (zjb (zrn S3 w node uses kv4 zav))):zgE K X3 w node uses kv4 zav.len zch:=by
  unfold zlY at hs
  rw [Bool.and_eq_true] at hs
  obtain ⟨hsf,hs⟩:=hs
  have hc:=of_decide_eq_true hsf
  refine zsA K X3 w node uses kv4 zav.len zch ⟨isE,rfl,hc⟩ ?_
  intro X4 hexit hstep
  have key:∀ (l:List step) (kv4:Int) (zav:(Sl Tab)) (zch:Nat→List PV) (zhd:zch=fun i=>zad (zav.get i)),zgG P3 w node uses l kv4 zav=true→K (zjb (zgF S3 w node uses l kv4 zav))→X4 (l.map fun y=>[.agg (zae y)]) (zc8 w node uses kv4 zav.len zch):=by
    intro l
    induction l with
    | nil =>
      intro kv4 zav zch zhd hs hk
      subst zhd
      refine hexit kv4 zav ?_
      have hs:zlV P3 w node uses kv4 zav=true:=hs
      have hk:K (zjb (zlU S3 w node uses kv4 zav)):=hk
      unfold zlV at hs
      unfold zlU at hk
      exact (hX3 (w64 (kv4+(1:Int))) zav (fun i=>zad (zav.get i)) rfl hs hk)
    | cons y4 l ih =>
      intro kv4 zav zch zhd hs hk
      subst zhd
      refine hstep y4 _ kv4 zav ?_
      have hs:zlX P3 w node uses y4 (zgG P3 w node uses l) kv4 zav=true:=hs
      have hk:K (zjb (zlW S3 w node uses y4 (zgF S3 w node uses l) kv4 zav)):=hk
      unfold zlX at hs
      unfold zlW at hk
      generalize zgF S3 w node uses l=S4 at hk ih
      generalize zgG P3 w node uses l=P4 at hs ih
      have hX4:=ih
      exact (za7 hs fun hc hs => ⟨hc, (za7 hs fun hc hs => ⟨hc, (za7 hs fun hc hs => ⟨hc, (zaP (K := fun r => K (zjb r))
 (fun hs hk => (zaP (K := fun r => K (zjb r))
 (fun hs hk => (zaP (K := fun r => K (zjb r))
 (fun hs hk=>(za7 hs fun hc hs=>⟨hc,(za7 hs fun hc hs=>⟨hc,(za7 hs fun hc hs=>⟨hc,(za7 hs fun hc hs=>⟨⟨zup,hc⟩,(za7 hs fun hc hs=>⟨hc,(za7 hs fun hc hs=>⟨hc,(za7 hs fun hc hs=>⟨hc,(hX4 kv4 (⟨zav.len,(setT kv4.toNat (ts 80 (zav.get kv4.toNat) (0+y4.from_.toNat * 2+0) [(zcz (⟨(tg 80 (zav.get kv4.toNat) (0+y4.from_.toNat * 2+0)),(tg 80 (zav.get kv4.toNat) (0+y4.from_.toNat * 2+0+1))⟩:far) (⟨1,fun _=>(⟨(w64 ((tg 80 (zav.get ((w64 (kv4 - (1:Int))).toNat)) (0+y4.to.toNat * 2+0))+y4.length)),(0:Int)⟩:far)⟩:(Sl far))).length,(zcz (⟨(tg 80 (zav.get kv4.toNat) (0+y4.from_.toNat * 2+0)),(tg 80 (zav.get kv4.toNat) (0+y4.from_.toNat * 2+0+1))⟩:far) (⟨1,fun _=>(⟨(w64 ((tg 80 (zav.get ((w64 (kv4 - (1:Int))).toNat)) (0+y4.to.toNat * 2+0))+y4.length)),(0:Int)⟩:far)⟩:(Sl far))).uses]) zav.get)⟩:Sl Tab) (zhT kv4.toNat 0 (fun i=>zad (zav.get i)) (zad (ts 80 (zav.get kv4.toNat) (0+y4.from_.toNat * 2+0) [(zcz (⟨(tg 80 (zav.get kv4.toNat) (0+y4.from_.toNat * 2+0)),(tg 80 (zav.get kv4.toNat) (0+y4.from_.toNat * 2+0+1))⟩:far) (⟨1,fun _=>(⟨(w64 ((tg 80 (zav.get ((w64 (kv4 - (1:Int))).toNat)) (0+y4.to.toNat * 2+0))+y4.length)),(0:Int)⟩:far)⟩:(Sl far))).length,(zcz (⟨(tg 80 (zav.get kv4.toNat) (0+y4.from_.toNat * 2+0)),(tg 80 (zav.get kv4.toNat) (0+y4.from_.toNat * 2+0+1))⟩:far) (⟨1,fun _=>(⟨(w64 ((tg 80 (zav.get ((w64 (kv4 - (1:Int))).toNat)) (0+y4.to.toNat * 2+0))+y4.length)),(0:Int)⟩:far)⟩:(Sl far))).uses]))) (zkQ (enc:=zad) (i:=kv4.toNat) (k:=0) (f:=zav.get) (new:=(zad (ts 80 (zav.get kv4.toNat) (0+y4.from_.toNat * 2+0) [(zcz (⟨(tg 80 (zav.get kv4.toNat) (0+y4.from_.toNat * 2+0)),(tg 80 (zav.get kv4.toNat) (0+y4.from_.toNat * 2+0+1))⟩:far) (⟨1,fun _=>(⟨(w64 ((tg 80 (zav.get ((w64 (kv4 - (1:Int))).toNat)) (0+y4.to.toNat * 2+0))+y4.length)),(0:Int)⟩:far)⟩:(Sl far))).length,(zcz (⟨(tg 80 (zav.get kv4.toNat) (0+y4.from_.toNat * 2+0)),(tg 80 (zav.get kv4.toNat) (0+y4.from_.toNat * 2+0+1))⟩:far) (⟨1,fun _=>(⟨(w64 ((tg 80 (zav.get ((w64 (kv4 - (1:Int))).toNat)) (0+y4.to.toNat * 2+0))+y4.length)),(0:Int)⟩:far)⟩:(Sl far))).uses]))) (v:=(ts 80 (zav.get kv4.toNat) (0+y4.from_.toNat * 2+0) [(zcz (⟨(tg 80 (zav.get kv4.toNat) (0+y4.from_.toNat * 2+0)),(tg 80 (zav.get kv4.toNat) (0+y4.from_.toNat * 2+0+1))⟩:far) (⟨1,fun _=>(⟨(w64 ((tg 80 (zav.get ((w64 (kv4 - (1:Int))).toNat)) (0+y4.to.toNat * 2+0))+y4.length)),(0:Int)⟩:far)⟩:(Sl far))).length,(zcz (⟨(tg 80 (zav.get kv4.toNat) (0+y4.from_.toNat * 2+0)),(tg 80 (zav.get kv4.toNat) (0+y4.from_.toNat * 2+0+1))⟩:far) (⟨1,fun _=>(⟨(w64 ((tg 80 (zav.get ((w64 (kv4 - (1:Int))).toNat)) (0+y4.to.toNat * 2+0))+y4.length)),(0:Int)⟩:far)⟩:(Sl far))).uses])) rfl zlM) hs hk)⟩)⟩)⟩)⟩)⟩)⟩)⟩))
 (fun hs hk=>(hX4 kv4 zav (fun i=>zad (zav.get i)) rfl hs hk)) hs hk))
 (fun hs hk=>(hX4 kv4 zav (fun i=>zad (zav.get i)) rfl hs hk)) hs hk))
 (fun hs hk=>(hX4 kv4 zav (fun i=>zad (zav.get i)) rfl hs hk)) hs hk)⟩)⟩)⟩)
  exact key _ kv4 zav zch zhd hs hk
def zlZ (w:web) (node:Int) (uses:Int) (S3:Int→(Sl Tab)→(Sl Tab)) (kv3:Int) (zbN:(Sl Tab)):(Sl Tab) :=
  (cond (decide (kv3 ≤ uses))
 (zrn S3 w node uses kv3 zbN)
 zbN)
def zl0 (w:web) (node:Int) (uses:Int) (P3:Int→(Sl Tab)→Bool) (kv3:Int) (zbN:(Sl Tab)):Bool :=
  (cond (decide (kv3 ≤ uses))
 (zlY P3 w node uses kv3 zbN)
 true)
def zgH (w : web) (node : Int) (uses : Int) : Nat → Int → (Sl Tab) → (Sl Tab)
  | 0=>fun _ _=>default
  | k+1=>zlZ w node uses (zgH w node uses k)
def zgI (w : web) (node : Int) (uses : Int) : Nat → Int → (Sl Tab) → Bool
  | 0=>fun _ _=>false
  | k+1=>zl0 w node uses (zgI w node uses k)
def zro (w:web) (node:Int) (uses:Int) (kv3:Int) (zbN:(Sl Tab)):(Sl Tab):=zgH w node uses Fuel kv3 zbN
def zrp (w:web) (node:Int) (uses:Int) (kv3:Int) (zbN:(Sl Tab)):Bool:=zgI w node uses Fuel kv3 zbN
theorem zy9 (K:List PA→Prop) (w:web) (node:Int) (uses:Int) (kv3:Int) (zbN:(Sl Tab)) (zbU:Nat→List PV) (zhc:zbU=fun i=>zad (zbN.get i)) (hs:zrp w node uses kv3 zbN=true) (hk:K (zjb (zro w node uses kv3 zbN))):zgD K w node uses kv3 zbN.len zbU:=by
  refine zsz K w node uses kv3 zbN.len zbU ?_
  intro X3 hstep
  have key:∀ (k:Nat) (kv3:Int) (zbN:(Sl Tab)) (zbU:Nat→List PV) (zhc:zbU=fun i=>zad (zbN.get i)),zgI w node uses k kv3 zbN=true→K (zjb (zgH w node uses k kv3 zbN))→X3 (ze1 w node uses kv3 zbN.len zbU):=by
    intro k
    induction k with
    | zero=>intro kv3 zbN zbU zhc hs;exact absurd hs Bool.false_ne_true
    | succ k ih =>
      intro kv3 zbN zbU zhc hs hk
      subst zhc
      refine hstep kv3 zbN ?_
      have hs:zl0 w node uses (zgI w node uses k) kv3 zbN=true:=hs
      have hk:K (zjb (zlZ w node uses (zgH w node uses k) kv3 zbN)):=hk
      unfold zl0 at hs
      unfold zlZ at hk
      generalize zgH w node uses k=S3 at hk ih
      generalize zgI w node uses k=P3 at hs ih
      have hX3:=ih
      exact (zaP (K := fun r => K (zjb r))
 (fun hs hk=>⟨⟨isE,rfl⟩,(zy8 K w node uses X3 P3 S3 hX3 kv3 zbN (fun i=>zad (zbN.get i)) rfl hs hk)⟩)
 (fun hs hk=>hk) hs hk)
  exact key _ kv3 zbN zbU zhc hs hk
def zl1 (w:web) (node:Int) (uses:Int) (zcD:(Sl Tab)):(Sl Tab) :=
  (zro w node uses (1:Int) (⟨zcD.len,(setT 0 (ts 80 (zcD.get 0) (0+node.toNat * 2+0) [(0:Int),(0:Int)]) zcD.get)⟩:Sl Tab))
def zl2 (w:web) (node:Int) (uses:Int) (zcD:(Sl Tab)):Bool :=
  (decide ((0≤(0:Int)∧(0:Int) < (zcD.len:Int))) &&
 (decide ((0≤node∧node < (40:Int))) &&
 (decide ((0 < zcD.len)) &&
 (zrp w node uses (1:Int) (⟨zcD.len,(setT 0 (ts 80 (zcD.get 0) (0+node.toNat * 2+0) [(0:Int),(0:Int)]) zcD.get)⟩:Sl Tab)))))
theorem zza (K:List PA→Prop) (w:web) (node:Int) (uses:Int) (zcD:(Sl Tab)) (zhb:Nat→List PV) (zBt:zhb=fun i=>zad (zcD.get i)) (hs:zl2 w node uses zcD=true) (hk:K (zjb (zl1 w node uses zcD))):zh4 K w node uses zcD.len zhb:=by
  subst zBt
  refine zbh (zy7 K w node uses zcD) ?_
  unfold zl2 at hs
  unfold zl1 at hk
  exact (za7 hs fun hc hs=>⟨hc,(za7 hs fun hc hs=>⟨hc,(za7 hs fun hc hs=>⟨hc,(zy9 K w node uses (1:Int) (⟨zcD.len,(setT 0 (ts 80 (zcD.get 0) (0+node.toNat * 2+0) [(0:Int),(0:Int)]) zcD.get)⟩:Sl Tab) (zhT 0 0 (fun i=>zad (zcD.get i)) (zad (ts 80 (zcD.get 0) (0+node.toNat * 2+0) [(0:Int),(0:Int)]))) (zkQ (enc:=zad) (i:=0) (k:=0) (f:=zcD.get) (new:=(zad (ts 80 (zcD.get 0) (0+node.toNat * 2+0) [(0:Int),(0:Int)]))) (v:=(ts 80 (zcD.get 0) (0+node.toNat * 2+0) [(0:Int),(0:Int)])) rfl zlM) hs hk)⟩)⟩)⟩)
def zl3 (S0:Int→(Sl Tab)→(Sl Tab)) (w:web) (node:Int) (uses:Int) (S1:Int→Int→Int→(Sl Tab)→(Sl Tab)) (iv1:Int) (zao:Int) (zbw:Int) (zbr:(Sl Tab)):(Sl Tab) :=
  (cond (decide (zbw < (40:Int)))
 (S1 iv1 zao (w64 (zbw+(1:Int))) (⟨zbr.len,(setT iv1.toNat (ts 80 (zbr.get iv1.toNat) (0+zbw.toNat * 2+0) [(1000000000000:Int),(0:Int)]) zbr.get)⟩:Sl Tab))
 (S0 (w64 (zao+(1:Int))) zbr))
def zl4 (P0:Int→(Sl Tab)→Bool) (w:web) (node:Int) (uses:Int) (P1:Int→Int→Int→(Sl Tab)→Bool) (iv1:Int) (zao:Int) (zbw:Int) (zbr:(Sl Tab)):Bool :=
  (cond (decide (zbw < (40:Int)))
 (decide ((0≤iv1∧iv1 < (zbr.len:Int))) &&
 (decide ((0≤zbw∧zbw < (40:Int))) &&
 (decide ((iv1.toNat < zbr.len)) &&
 (P1 iv1 zao (w64 (zbw+(1:Int))) (⟨zbr.len,(setT iv1.toNat (ts 80 (zbr.get iv1.toNat) (0+zbw.toNat * 2+0) [(1000000000000:Int),(0:Int)]) zbr.get)⟩:Sl Tab)))))
 (P0 (w64 (zao+(1:Int))) zbr))
def zgJ (S0 : Int → (Sl Tab) → (Sl Tab)) (w : web) (node : Int) (uses : Int) : Nat → Int → Int → Int → (Sl Tab) → (Sl Tab)
  | 0=>fun _ _ _ _=>default
  | k+1=>zl3 S0 w node uses (zgJ S0 w node uses k)
def zgK (P0 : Int → (Sl Tab) → Bool) (w : web) (node : Int) (uses : Int) : Nat → Int → Int → Int → (Sl Tab) → Bool
  | 0=>fun _ _ _ _=>false
  | k+1=>zl4 P0 w node uses (zgK P0 w node uses k)
def zrq (S0:Int→(Sl Tab)→(Sl Tab)) (w:web) (node:Int) (uses:Int) (iv1:Int) (zao:Int) (zbw:Int) (zbr:(Sl Tab)):(Sl Tab):=zgJ S0 w node uses Fuel iv1 zao zbw zbr
def zrr (P0:Int→(Sl Tab)→Bool) (w:web) (node:Int) (uses:Int) (iv1:Int) (zao:Int) (zbw:Int) (zbr:(Sl Tab)):Bool:=zgK P0 w node uses Fuel iv1 zao zbw zbr
theorem zzb (K : List PA → Prop) (w : web) (node : Int) (uses : Int)
  (X0:St→Prop) (P0:Int→(Sl Tab)→Bool) (S0:Int→(Sl Tab)→(Sl Tab))
  (hX0:∀ (zbH:Int) (zbK:(Sl Tab)) (zbT:Nat→List PV) (zhe:zbT=fun i=>zad (zbK.get i)),P0 zbH zbK=true→K (zjb (S0 zbH zbK))→X0 (zeY w node uses zbH zbK.len zbT)) (iv1:Int) (zao:Int) (zbw:Int) (zbr:(Sl Tab)) (zcg:Nat→List PV) (zjc:zcg=fun i=>zad (zbr.get i)) (hs:zrr P0 w node uses iv1 zao zbw zbr=true) (hk:K (zjb (zrq S0 w node uses iv1 zao zbw zbr))):zgC K X0 w node uses iv1 zao zbw zbr.len zcg:=by
  refine zsy K X0 w node uses iv1 zao zbw zbr.len zcg ?_
  intro X1 hstep
  have key:∀ (k:Nat) (iv1:Int) (zao:Int) (zbw:Int) (zbr:(Sl Tab)) (zcg:Nat→List PV) (zjc:zcg=fun i=>zad (zbr.get i)),zgK P0 w node uses k iv1 zao zbw zbr=true→K (zjb (zgJ S0 w node uses k iv1 zao zbw zbr))→X1 (zf0 w node uses iv1 zao zbw zbr.len zcg):=by
    intro k
    induction k with
    | zero=>intro iv1 zao zbw zbr zcg zjc hs;exact absurd hs Bool.false_ne_true
    | succ k ih =>
      intro iv1 zao zbw zbr zcg zjc hs hk
      subst zjc
      refine hstep iv1 zao zbw zbr ?_
      have hs:zl4 P0 w node uses (zgK P0 w node uses k) iv1 zao zbw zbr=true:=hs
      have hk:K (zjb (zl3 S0 w node uses (zgJ S0 w node uses k) iv1 zao zbw zbr)):=hk
      unfold zl4 at hs
      unfold zl3 at hk
      generalize zgJ S0 w node uses k=S1 at hk ih
      generalize zgK P0 w node uses k=P1 at hs ih
      have hX1:=ih
      exact (zaP (K := fun r => K (zjb r))
 (fun hs hk=>(za7 hs fun hc hs=>⟨hc,(za7 hs fun hc hs=>⟨hc,(za7 hs fun hc hs=>⟨hc,(hX1 iv1 zao (w64 (zbw+(1:Int))) (⟨zbr.len,(setT iv1.toNat (ts 80 (zbr.get iv1.toNat) (0+zbw.toNat * 2+0) [(1000000000000:Int),(0:Int)]) zbr.get)⟩:Sl Tab) (zhT iv1.toNat 0 (fun i=>zad (zbr.get i)) (zad (ts 80 (zbr.get iv1.toNat) (0+zbw.toNat * 2+0) [(1000000000000:Int),(0:Int)]))) (zkQ (enc:=zad) (i:=iv1.toNat) (k:=0) (f:=zbr.get) (new:=(zad (ts 80 (zbr.get iv1.toNat) (0+zbw.toNat * 2+0) [(1000000000000:Int),(0:Int)]))) (v:=(ts 80 (zbr.get iv1.toNat) (0+zbw.toNat * 2+0) [(1000000000000:Int),(0:Int)])) rfl zlM) hs hk)⟩)⟩)⟩))
 (fun hs hk=>(hX0 (w64 (zao+(1:Int))) zbr (fun i=>zad (zbr.get i)) rfl hs hk)) hs hk)
  exact key _ iv1 zao zbw zbr zcg zjc hs hk
def zl5 (w:web) (node:Int) (uses:Int) (S0:Int→(Sl Tab)→(Sl Tab)) (zbH:Int) (zbK:(Sl Tab)):(Sl Tab) :=
  (cond (decide (zbH < ((w64 (uses + (1:Int))).toNat : Int)))
 (zrq S0 w node uses zbH zbH (0:Int) zbK)
 (zl1 w node uses zbK))
def zl6 (w:web) (node:Int) (uses:Int) (P0:Int→(Sl Tab)→Bool) (zbH:Int) (zbK:(Sl Tab)):Bool :=
  (cond (decide (zbH < ((w64 (uses + (1:Int))).toNat : Int)))
 (zrr P0 w node uses zbH zbH (0:Int) zbK)
 (zl2 w node uses zbK))
def zgL (w : web) (node : Int) (uses : Int) : Nat → Int → (Sl Tab) → (Sl Tab)
  | 0=>fun _ _=>default
  | k+1=>zl5 w node uses (zgL w node uses k)
def zgM (w : web) (node : Int) (uses : Int) : Nat → Int → (Sl Tab) → Bool
  | 0=>fun _ _=>false
  | k+1=>zl6 w node uses (zgM w node uses k)
def zrt (w:web) (node:Int) (uses:Int) (zbH:Int) (zbK:(Sl Tab)):(Sl Tab):=zgL w node uses Fuel zbH zbK
def zru (w:web) (node:Int) (uses:Int) (zbH:Int) (zbK:(Sl Tab)):Bool:=zgM w node uses Fuel zbH zbK
theorem zzc (K:List PA→Prop) (w:web) (node:Int) (uses:Int) (zbH:Int) (zbK:(Sl Tab)) (zbT:Nat→List PV) (zhe:zbT=fun i=>zad (zbK.get i)) (hs:zru w node uses zbH zbK=true) (hk:K (zjb (zrt w node uses zbH zbK))):zgB K w node uses zbH zbK.len zbT:=by
  refine zsx K w node uses zbH zbK.len zbT ?_
  intro X0 hstep
  have key:∀ (k:Nat) (zbH:Int) (zbK:(Sl Tab)) (zbT:Nat→List PV) (zhe:zbT=fun i=>zad (zbK.get i)),zgM w node uses k zbH zbK=true→K (zjb (zgL w node uses k zbH zbK))→X0 (zeY w node uses zbH zbK.len zbT):=by
    intro k
    induction k with
    | zero=>intro zbH zbK zbT zhe hs;exact absurd hs Bool.false_ne_true
    | succ k ih =>
      intro zbH zbK zbT zhe hs hk
      subst zhe
      refine hstep zbH zbK ?_
      have hs:zl6 w node uses (zgM w node uses k) zbH zbK=true:=hs
      have hk:K (zjb (zl5 w node uses (zgL w node uses k) zbH zbK)):=hk
      unfold zl6 at hs
      unfold zl5 at hk
      generalize zgL w node uses k=S0 at hk ih
      generalize zgM w node uses k=P0 at hs ih
      have hX0:=ih
      exact (zaP (K := fun r => K (zjb r))
 (fun hs hk=>(zzb K w node uses X0 P0 S0 hX0 zbH zbH (0:Int) zbK (fun i=>zad (zbK.get i)) rfl hs hk))
 (fun hs hk=>(zza K w node uses zbK (fun i=>zad (zbK.get i)) rfl hs hk)) hs hk)
  exact key _ zbH zbK zbT zhe hs hk
def zuL (w:web) (node:Int) (uses:Int):(Sl Tab) :=
  (zrt w node uses (0:Int) (⟨(w64 (uses+(1:Int))).toNat,(fun _=>(fun _=>(0:Int)))⟩:Sl Tab))
def zEP (w:web) (node:Int) (uses:Int):Bool :=
  (decide ((0≤(w64 (uses+(1:Int)))∧(w64 (uses+(1:Int)))=(w64 (uses+(1:Int)))∧(w64 (uses+(1:Int)))≤1000000)) &&
 (zru w node uses (0:Int) (⟨(w64 (uses+(1:Int))).toNat,(fun _=>(fun _=>(0:Int)))⟩:Sl Tab)))
theorem zH7 (w:web) (node:Int) (uses:Int) (K:List PA→Prop) (hs:zEP w node uses=true) (hk:K (zjb (zuL w node uses))):vcFun Tryd.prog zeK za3 106 [.one (.fp (zaw w) 0),.one (.int .i64 node),.one (.int .i64 uses)] K:=by
  refine zbh (zy6 w node uses K) ?_
  unfold zEP at hs
  unfold zuL at hk
  exact (za7 hs fun hc hs=>⟨hc,(zzc K w node uses (0:Int) (⟨(w64 (uses+(1:Int))).toNat,(fun _=>(fun _=>(0:Int)))⟩:Sl Tab) (fun _=>(zad (fun _=>(0:Int)))) rfl hs hk)⟩)
def zuM : List PA → COut
  | [.one (.fp [.int .i64 a0_Net_Nodes,.sl a0_Net_Ties_n a0_Net_Ties_s a0_Net_Ties_g,.fm a0_out_q a0_out_n a0_out_F] 0),.one (.int .i64 a1),.one (.int .i64 a2)]=>.det (IsE zaj 4 a0_Net_Ties_s a0_Net_Ties_g∧a0_out_q=(false,1,false,[none])∧zEP (⟨(⟨a0_Net_Nodes,(⟨a0_Net_Ties_n,zaa a0_Net_Ties_g⟩:(Sl Tie))⟩:Net),(⟨a0_out_n,a0_out_F⟩:Mp)⟩:web) a1 a2=true) [.one (.sl ((zuL (⟨(⟨a0_Net_Nodes,(⟨a0_Net_Ties_n,zaa a0_Net_Ties_g⟩:(Sl Tie))⟩:Net),(⟨a0_out_n,a0_out_F⟩:Mp)⟩:web) a1 a2).len) 80 (fun i=>zad ((zuL (⟨(⟨a0_Net_Nodes,(⟨a0_Net_Ties_n,zaa a0_Net_Ties_g⟩:(Sl Tie))⟩:Net),(⟨a0_out_n,a0_out_F⟩:Mp)⟩:web) a1 a2).get i)))]
  | _=>.no
theorem zBu:zas Tryd.prog 106:=⟨_,rfl,rfl,by kernel_rfl⟩
theorem zGG:Ok Tryd.prog 106 zuM:=zbJ zEO zBu fun args K h=>by
  unfold zuM at h
  split at h
  · rename_i a0_Net_Nodes a0_Net_Ties_n a0_Net_Ties_s a0_Net_Ties_g a0_out_q a0_out_n a0_out_F a1 a2
    obtain ⟨⟨⟨rfl,a0_Net_Ties_f,rfl⟩,rfl,hs⟩,hk⟩:=h
    try rw [zar a0_Net_Ties_f] at hs
    try rw [zar a0_Net_Ties_f] at hk
    exact ⟨(fun _ _=>[]),(fun _=>false),za3,zH7 (⟨(⟨a0_Net_Nodes,(⟨a0_Net_Ties_n,a0_Net_Ties_f⟩:(Sl Tie))⟩:Net),(⟨a0_out_n,a0_out_F⟩:Mp)⟩:web) a1 a2 K hs hk⟩
  · exact h.elim
abbrev zHJ:Tabs:=Tabs.nil
theorem zEQ:TabsOk Tryd.prog zHJ:=TabsOk.nil
abbrev zHK:Ctrs:=csm zHJ (fun _ _=>[]) (fun _=>false)
def zuN:Ann:=⟨18,[(0,zK [0] []),(1,zK [0,3] []),(2,zK [3,6,7,8] []),(3,zK [3,6,7,8,9] []),(4,zK [3,5,6,7,8] []),(5,zK [3,5,6,7,8,14] []),(6,zK [2] []),(7,zK [3,6,7,8] []),(8,zK [2] [])],
 [(3,zK [3,6,7,8] [])],
 [],
 [],[]⟩
abbrev zH8:=Int
abbrev zGH (r:zH8):List PA:=[.one (.int .i64 r)]
@[irreducible] def z100:=ptF Tryd.prog zHK zuN Tryd.f100
def zuO (vals:(Sl Int)) (zdc:Int):St:=⟨[(3,zI (0:Int)),(6,zS zai 1 vals),(7,zI (vals.len:Int)),(8,zI zdc)],[],[]⟩
abbrev zz3 (K:List PA→Prop) (vals:(Sl Int)) (X:St→Prop) (P:Int→Bool) (S:Int→Int):Prop:=∀ ⦃zdc:Int⦄,P zdc=true→K (zGH (S zdc))→X (zuO vals zdc)
section
variable {K:List PA→Prop} {vals:(Sl Int)} {zdc:Int} {X0:St→Prop} {P0:Int→Bool} {S0:Int→Int}
def zrv (vals:(Sl Int)) (S0:Int→Int) (zdc:Int):Int :=
  (cond (decide (zdc < (vals.len : Int)))
 (cond ((vals.get zdc.toNat) != (0:Int))
 (vals.get zdc.toNat)
 (S0 (w64 (zdc+(1:Int)))))
 (0:Int))
def zrx (vals:(Sl Int)) (P0:Int→Bool) (zdc:Int):Bool :=
  (cond (decide (zdc < (vals.len : Int)))
 (decide ((0≤zdc∧zdc < (vals.len:Int))) &&
 (cond ((vals.get zdc.toNat) != (0:Int))
 true
 (P0 (w64 (zdc+(1:Int))))))
 true)
def zry (vals:(Sl Int)):Nat→Int→Int:=lpO (fun _=>default) (zrv vals)
def zrz (vals:(Sl Int)):Nat→Int→Bool:=lpO (fun _=>false) (zrx vals)
def zrA (vals:(Sl Int)) (zdc:Int):Int:=zry vals Fuel zdc
def zrB (vals:(Sl Int)) (zdc:Int):Bool:=zrz vals Fuel zdc
theorem zzd (hs:zrB vals zdc=true) (hk:K (zGH (zrA vals zdc))):z100 K [1,1,0,1,0] [] (zuO vals zdc) :=
  zl (fun X=>z100 K [1,1,0,1,0,0] [X]) (by kernel_rfl) fun X0 hX =>
  (show ∀ k, zz3 K vals X0 (zrz vals k) (zry vals k) from zkR _ _ (zrx vals) (zrv vals) (zz3 K vals X0)
 (by intro _ hs;exact absurd hs Bool.false_ne_true)
 (by intro P0 S0 hX0 zdc hs hk;exact hX _ (zbh (by kernel_rfl) (zc hs hk (fun hs hk=>(za7 hs fun hc hs=>And.intro hc (zc hs hk (fun hs hk=>hk) (fun hs hk=>(hX0 hs hk))))) (fun hs hk=>hk))))) _ hs hk
def zGI (vals:(Sl Int)):Int :=
  (zrA vals (0:Int))
def zGJ (vals:(Sl Int)):Bool :=
  (zrB vals (0:Int))
end
theorem zH9 (vals:(Sl Int)) (K:List PA→Prop) (hs:zGJ vals=true) (hk:K (zGH (zGI vals))):vcFun Tryd.prog zHK zuN 100 [.one (.sl vals.len 1 (fun i=>zai (vals.get i)))] K :=
  zbh (by kernel_rfl) (zzd hs hk)
def zuP : List PA → COut
  | [.one (.sl a0_n a0_s a0_g)]=>.det (IsE zai 1 a0_s a0_g∧zGJ (⟨a0_n,zat a0_g⟩:(Sl Int))=true) [.one (.int .i64 (zGI (⟨a0_n,zat a0_g⟩:(Sl Int))))]
  | _=>.no
theorem zBv:zas Tryd.prog 100:=⟨_,rfl,rfl,by kernel_rfl⟩
theorem zGK:Ok Tryd.prog 100 zuP:=zbJ zEQ zBv fun args K h=>by
  unfold zuP at h
  split at h
  · rename_i a0_n a0_s a0_g
    obtain ⟨⟨⟨rfl,a0_f,rfl⟩,hs⟩,hk⟩:=h
    try rw [zbR a0_f] at hs
    try rw [zbR a0_f] at hk
    exact ⟨(fun _ _=>[]),(fun _=>false),zuN,zH9 (⟨a0_n,a0_f⟩:(Sl Int)) K hs hk⟩
  · exact h.elim
abbrev zHL:Tabs:=Tabs.nil
theorem zER:TabsOk Tryd.prog zHL:=TabsOk.nil
abbrev zIa:Ctrs:=csm zHL (fun _ _=>[]) (fun _=>false)
def zz4:Ann:=⟨6,[(0,zK [0] []),(1,zK [2] [])],
 [],
 [],
 [],[]⟩
abbrev zIb:=Bool
abbrev zIc (r:zIb):List PA:=[.one (.bool r)]
section
variable {K:List PA→Prop} {x:Int}
def zES (x:Int):Bool :=
  (x != x)
end
theorem zId (x:Int) (K:List PA→Prop) (hk:K (zIc (zES x))):vcFun Tryd.prog zIa zz4 114 [.one (.int .i64 x)] K :=
  zbh (by kernel_rfl) hk
def zuQ : List PA → COut
  | [.one (.int .i64 a0)]=>.tot [.one (.bool (zES a0))]
  | _=>.no
theorem zBw:zas Tryd.prog 114:=⟨_,rfl,rfl,by kernel_rfl⟩
theorem zGL:Ok Tryd.prog 114 zuQ:=zbJ zER zBw fun args K h=>by
  unfold zuQ at h
  split at h
  · rename_i a0
    have hk:=h
    exact ⟨(fun _ _=>[]),(fun _=>false),zz4,zId a0 K hk⟩
  · exact h.elim
abbrev zHM:Tabs:=(Tabs.nil.addF 114 zuQ)
theorem zET:TabsOk Tryd.prog zHM:=(TabsOk.nil.addF zGL)
abbrev zIe:Ctrs:=csm zHM (fun _ _=>[]) (fun _=>false)
def zz5:Ann:=⟨20,[(0,zK [0,1] []),(1,zK [0,1,5] []),(2,zK [0,1,5,6] []),(3,zK [0,1,6,11] []),(4,zK [12] []),(5,zK [4] []),(6,zK [4] []),(7,zK [0,1,13] []),(8,zK [4] []),(9,zK [0,1,16] []),(10,zK [4] []),(11,zK [19] []),(12,zK [4] []),(13,zK [4] [])],
 [],
 [],
 [],[]⟩
abbrev zIf:=Int
abbrev zIg (r:zIf):List PA:=[.one (.int .i64 r)]
section
variable {K:List PA→Prop} {x:Int} {y_a1:Int}
def zx2 (x:Int) (y_a1:Int):Int :=
  (cond (zES x)
 (cond (zES y_a1)
 (0:Int)
 (-1:Int))
 (cond (zES y_a1)
 (1:Int)
 (cond (decide (x < y_a1))
 (-1:Int)
 (cond (decide (x > y_a1))
 (1:Int)
 (0:Int)))))
end
theorem zIh (x:Int) (y_a1:Int) (K:List PA→Prop) (hk:K (zIg (zx2 x y_a1))):vcFun Tryd.prog zIe zz5 101 [.one (.int .i64 x),.one (.int .i64 y_a1)] K :=
  zbh (by kernel_rfl) (zt hk (fun hk=>(zt hk (fun hk=>hk) (fun hk=>hk))) (fun hk=>(zt hk (fun hk=>hk) (fun hk=>(zt hk (fun hk=>hk) (fun hk=>(zt hk (fun hk=>hk) (fun hk=>hk))))))))
def zrC : List PA → COut
  | [.one (.int .i64 a0),.one (.int .i64 a1)]=>.tot [.one (.int .i64 (zx2 a0 a1))]
  | _=>.no
theorem zBx:zas Tryd.prog 101:=⟨_,rfl,rfl,by kernel_rfl⟩
theorem zEU:Ok Tryd.prog 101 zrC:=zbJ zET zBx fun args K h=>by
  unfold zrC at h
  split at h
  · rename_i a0 a1
    have hk:=h
    exact ⟨(fun _ _=>[]),(fun _=>false),zz5,zIh a0 a1 K hk⟩
  · exact h.elim
abbrev zHN:Tabs:=Tabs.nil
theorem zEV:TabsOk Tryd.prog zHN:=TabsOk.nil
abbrev zIi:Ctrs:=csm zHN (fun _ _=>[]) (fun _=>false)
def zz6:Ann:=⟨6,[(0,zK [1] [1]),(1,zK [5] []),(2,zK [2] []),(3,zK [2] [])],
 [],
 [],
 [],[]⟩
abbrev zIj:=Int
abbrev e118 (r:zIj):List PA:=[.one (.int .i64 r)]
section
variable {K:List PA→Prop} {s:step}
def zz7 (s:step):Int :=
  (cond s.Use.Back
 (1:Int)
 (0:Int))
end
theorem zIk (s:step) (K:List PA→Prop) (hk:K (e118 (zz7 s))):vcFun Tryd.prog zIi zz6 118 [.agg (zae s)] K :=
  zbh (by kernel_rfl) (zt hk (fun hk=>hk) (fun hk=>hk))
def zuR : List PA → COut
  | [.agg [.int .i64 a0_Use_Tie,.bool a0_Use_Back,.int .i64 a0_from_,.int .i64 a0_to,.int .i64 a0_length]]=>.tot [.one (.int .i64 (zz7 (⟨(⟨a0_Use_Tie,a0_Use_Back⟩:Use),a0_from_,a0_to,a0_length⟩:step)))]
  | _=>.no
theorem zBy:zas Tryd.prog 118:=⟨_,rfl,rfl,by kernel_rfl⟩
theorem zGM:Ok Tryd.prog 118 zuR:=zbJ zEV zBy fun args K h=>by
  unfold zuR at h
  split at h
  · rename_i a0_Use_Tie a0_Use_Back a0_from_ a0_to a0_length
    have hk:=h
    exact ⟨(fun _ _=>[]),(fun _=>false),zz6,zIk (⟨(⟨a0_Use_Tie,a0_Use_Back⟩:Use),a0_from_,a0_to,a0_length⟩:step) K hk⟩
  · exact h.elim
abbrev zHO:Tabs:=(((Tabs.nil.addF 100 zuP).addF 101 zrC).addF 118 zuR)
theorem zEW:TabsOk Tryd.prog zHO:=(((TabsOk.nil.addF zGK).addF zEU).addF zGM)
abbrev zIl:Ctrs:=csm zHO (fun _ _=>[]) (fun _=>false)
def zz8:Ann:=⟨22,[(0,zK [2,3] [2,3]),(1,zK [2,3,5] [2,3]),(2,zK [4] [])],
 [],
 [],
 [],[]⟩
abbrev zIm:=Int
abbrev e108 (r:zIm):List PA:=[.one (.int .i64 r)]
section
variable {K:List PA→Prop} {a:step} {b:step}
def zGg (a:step) (b:step):Int :=
  (zGI (⟨2,zat (zbz [(zai (zx2 a.Use.Tie b.Use.Tie)),(zai (zx2 (zz7 a) (zz7 b)))])⟩:(Sl Int)))
def zGN (a:step) (b:step):Bool :=
  (decide ((zGJ (⟨2,zat (zbz [(zai (zx2 a.Use.Tie b.Use.Tie)),(zai (zx2 (zz7 a) (zz7 b)))])⟩:(Sl Int))=true)) &&
 true)
end
theorem zIn (a:step) (b:step) (K:List PA→Prop) (hs:zGN a b=true) (hk:K (e108 (zGg a b))):vcFun Tryd.prog zIl zz8 108 [.agg (zae a),.agg (zae b)] K :=
  zbh (by kernel_rfl) (za7 hs fun hc hs=>And.intro (And.intro ((zdS []):IsE zai 1 1 (zbz [(zai (zx2 a.Use.Tie b.Use.Tie)),(zai (zx2 (zz7 a) (zz7 b)))])) hc) hk)
def zuS : List PA → COut
  | [.agg [.int .i64 a0_Use_Tie,.bool a0_Use_Back,.int .i64 a0_from_,.int .i64 a0_to,.int .i64 a0_length],.agg [.int .i64 a1_Use_Tie,.bool a1_Use_Back,.int .i64 a1_from_,.int .i64 a1_to,.int .i64 a1_length]]=>.det (zGN (⟨(⟨a0_Use_Tie,a0_Use_Back⟩:Use),a0_from_,a0_to,a0_length⟩:step) (⟨(⟨a1_Use_Tie,a1_Use_Back⟩:Use),a1_from_,a1_to,a1_length⟩:step)=true) [.one (.int .i64 (zGg (⟨(⟨a0_Use_Tie,a0_Use_Back⟩:Use),a0_from_,a0_to,a0_length⟩:step) (⟨(⟨a1_Use_Tie,a1_Use_Back⟩:Use),a1_from_,a1_to,a1_length⟩:step)))]
  | _=>.no
theorem zBz:zas Tryd.prog 108:=⟨_,rfl,rfl,by kernel_rfl⟩
theorem zGO:Ok Tryd.prog 108 zuS:=zbJ zEW zBz fun args K h=>by
  unfold zuS at h
  split at h
  · rename_i a0_Use_Tie a0_Use_Back a0_from_ a0_to a0_length a1_Use_Tie a1_Use_Back a1_from_ a1_to a1_length
    obtain ⟨hs,hk⟩:=h
    exact ⟨(fun _ _=>[]),(fun _=>false),zz8,zIn (⟨(⟨a0_Use_Tie,a0_Use_Back⟩:Use),a0_from_,a0_to,a0_length⟩:step) (⟨(⟨a1_Use_Tie,a1_Use_Back⟩:Use),a1_from_,a1_to,a1_length⟩:step) K hs hk⟩
  · exact h.elim
abbrev zHP:Tabs:=(Tabs.nil.addF 108 zuS)
theorem zEX:TabsOk Tryd.prog zHP:=(TabsOk.nil.addF zGO)
abbrev zHQ:Ctrs:=csm zHP (fun _ _=>[]) (fun _=>false)
def zuT:Ann:=⟨39,[(0,zK [0,1,2] []),(1,zK [0,1,2,11,12,13] []),(2,zK [0,1,2,11,12,13,14] []),(3,zK [0,1,2,7,8,11,12,13] [8]),(4,zK [0,1,2,7,8,11,12,13,21] [8]),(5,zK [6] []),(6,zK [0,1,2,8,9,11,12,13] [8,9]),(7,zK [0,1,2,10,11,12,13] []),(8,zK [0,1,2,10,11,12,13,31] []),(9,zK [6] []),(10,zK [0,1,2,11,12,13] []),(11,zK [38] []),(12,zK [6] []),(13,zK [6] [])],
 [(2,zK [0,1,2,11,12,13] [])],
 [(6,zK [0,1,2,7,8,11,12,13] [8]),(8,zK [0,1,2,10,11,12,13] [])],
 [],[]⟩
abbrev zIo:=Int
abbrev zEY (r:zIo):List PA:=[.one (.int .i64 r)]
@[irreducible] def z107:=ptF Tryd.prog zHQ zuT Tryd.f107
def zuU (zd1:(Sl step)) (zdC:(Sl step)) (zaS:(Sl step)) (zbd:Int) (zco:Int) (zc0:Nat→List PV) (zc1:Nat→List PV) (ze4:Nat→List PV):St:=⟨[(0,zP (.sl zd1.len 5 zc0)),(1,zP (.sl zdC.len 5 zc1)),(2,zP (.fn 108 [] [])),(11,zP (.sl zaS.len 5 ze4)),(12,zI zbd),(13,zI zco)],[],[]⟩
abbrev zrD (K:List PA→Prop) (X:St→Prop) (P:(Sl step)→(Sl step)→(Sl step)→Int→Int→Bool) (S:(Sl step)→(Sl step)→(Sl step)→Int→Int→Int):Prop:=∀ ⦃zd1:(Sl step)⦄ ⦃zdC:(Sl step)⦄ ⦃zaS:(Sl step)⦄ ⦃zbd:Int⦄ ⦃zco:Int⦄ ⦃zc0:Nat→List PV⦄ ⦃zc1:Nat→List PV⦄ ⦃ze4:Nat→List PV⦄,P zd1 zdC zaS zbd zco=true→K (zEY (S zd1 zdC zaS zbd zco))→zc0=zg zae zd1→zc1=zg zae zdC→ze4=zg zae zaS→X (zuU zd1 zdC zaS zbd zco zc0 zc1 ze4)
section
variable {K:List PA→Prop} {s1_a0:(Sl step)} {s2_a1:(Sl step)} {zd1:(Sl step)} {zdC:(Sl step)} {zaS:(Sl step)} {zbd:Int} {zco:Int} {zc0:Nat→List PV} {zc1:Nat→List PV} {ze4:Nat→List PV} {X0:St→Prop} {P0:(Sl step)→(Sl step)→(Sl step)→Int→Int→Bool} {S0:(Sl step)→(Sl step)→(Sl step)→Int→Int→Int} {zno:(Sl step)} {zh5:(Sl step)} {iv1:Int} {zcy:(Sl step)} {za2:Int} {zoX:Int} {zhD:Int} {zhE:Bool} {zhF:Int} {zhG:Int} {zhH:Int} {znp:Nat→List PV} {znq:Nat→List PV} {zuV:Nat→List PV} {znr:(Sl step)} {zns:(Sl step)} {cv2:Int} {zoY:Int} {znt:Nat→List PV} {znu:Nat→List PV}
def zrE (S0:(Sl step)→(Sl step)→(Sl step)→Int→Int→Int) (zcy:(Sl step)) (za2:Int) (znr:(Sl step)) (zns:(Sl step)) (cv2:Int) (zoY:Int):Int :=
  (cond (cv2 != (0:Int))
 cv2
 (S0 znr zns zcy za2 (w64 (zoY+(1:Int)))))
def zrF (P0:(Sl step)→(Sl step)→(Sl step)→Int→Int→Bool) (zcy:(Sl step)) (za2:Int) (znr:(Sl step)) (zns:(Sl step)) (cv2:Int) (zoY:Int):Bool :=
  (cond (cv2 != (0:Int))
 true
 (P0 znr zns zcy za2 (w64 (zoY+(1:Int)))))
theorem zze (hX0:zrD K X0 P0 S0) (hs:zrF P0 zcy za2 znr zns cv2 zoY=true) (hk:K (zEY (zrE S0 zcy za2 znr zns cv2 zoY))) (zuW:znt=zg zae znr) (zuX:znu=zg zae zns):z107 K [1,0,1,0,0,1,1,0,0,1,1,1,1] [X0] ⟨[(0,zP (.sl znr.len 5 znt)),(1,zP (.sl zns.len 5 znu)),(2,zP (.fn 108 [] [])),(10,zI cv2),(11,zS zae 5 zcy),(12,zI za2),(13,zI zoY)],[],[]⟩:=by subst zuW;subst zuX;exact zbh (by kernel_rfl) (zc hs hk (fun hs hk=>hk) (fun hs hk=>(hX0 hs hk rfl rfl rfl)))
def zrG (S0:(Sl step)→(Sl step)→(Sl step)→Int→Int→Int) (zno:(Sl step)) (zh5:(Sl step)) (iv1:Int) (zcy:(Sl step)) (za2:Int) (zoX:Int) (zhD:Int) (zhE:Bool) (zhF:Int) (zhG:Int) (zhH:Int):Int :=
  (zrE S0 zcy za2 zno zh5 (zGg (⟨(⟨zhD,zhE⟩:Use),zhF,zhG,zhH⟩:step) (zh5.get iv1.toNat)) zoX)
def zrH (P0:(Sl step)→(Sl step)→(Sl step)→Int→Int→Bool) (zno:(Sl step)) (zh5:(Sl step)) (iv1:Int) (zcy:(Sl step)) (za2:Int) (zoX:Int) (zhD:Int) (zhE:Bool) (zhF:Int) (zhG:Int) (zhH:Int):Bool :=
  (decide ((0≤iv1∧iv1 < (zh5.len:Int))) &&
 (decide ((zGN (⟨(⟨zhD,zhE⟩:Use),zhF,zhG,zhH⟩:step) (zh5.get iv1.toNat)=true)) &&
 (zrF P0 zcy za2 zno zh5 (zGg (⟨(⟨zhD,zhE⟩:Use),zhF,zhG,zhH⟩:step) (zh5.get iv1.toNat)) zoX)))
theorem zzf (hX0:zrD K X0 P0 S0) (hs:zrH P0 zno zh5 iv1 zcy za2 zoX zhD zhE zhF zhG zhH=true) (hk:K (zEY (zrG S0 zno zh5 iv1 zcy za2 zoX zhD zhE zhF zhG zhH))) (zuY:znp=zg zae zno) (zuZ:znq=zg zae zh5) (zBA:zuV=zg zae zcy):z107 K [1,0,1,0,0,1,1,0,0,1,1] [X0] ⟨[(0,zP (.sl zno.len 5 znp)),(1,zP (.sl zh5.len 5 znq)),(2,zP (.fn 108 [] [])),(7,zI iv1),(8,zp 8 0),(11,zP (.sl zcy.len 5 zuV)),(12,zI za2),(13,zI zoX)],[(8,.box 130 (zm (zae (⟨(⟨zhD,zhE⟩:Use),zhF,zhG,zhH⟩:step))))],[]⟩:=by subst zuY;subst zuZ;subst zBA;exact zbh (by kernel_rfl) (za7 hs fun hc hs=>And.intro hc (za7 hs fun hc hs=>And.intro hc (zze hX0 hs hk rfl rfl)))
def zrI (S0:(Sl step)→(Sl step)→(Sl step)→Int→Int→Int) (zd1:(Sl step)) (zdC:(Sl step)) (zaS:(Sl step)) (zbd:Int) (zco:Int):Int :=
  (cond (decide (zco < zbd))
 (cond (decide (zco ≥ (zdC.len : Int)))
 (1:Int)
 (zrG S0 zd1 zdC zco zaS zbd zco ((zaS.get zco.toNat).Use.Tie) ((zaS.get zco.toNat).Use.Back) ((zaS.get zco.toNat).from_) ((zaS.get zco.toNat).to) ((zaS.get zco.toNat).length)))
 (cond (decide ((zd1.len : Int) < (zdC.len : Int)))
 (-1:Int)
 (0:Int)))
def zrJ (P0:(Sl step)→(Sl step)→(Sl step)→Int→Int→Bool) (zd1:(Sl step)) (zdC:(Sl step)) (zaS:(Sl step)) (zbd:Int) (zco:Int):Bool :=
  (cond (decide (zco < zbd))
 (decide ((0≤zco∧zco < (zaS.len:Int))) &&
 (cond (decide (zco ≥ (zdC.len : Int)))
 true
 (zrH P0 zd1 zdC zco zaS zbd zco ((zaS.get zco.toNat).Use.Tie) ((zaS.get zco.toNat).Use.Back) ((zaS.get zco.toNat).from_) ((zaS.get zco.toNat).to) ((zaS.get zco.toNat).length))))
 true)
def zrK:Nat→(Sl step)→(Sl step)→(Sl step)→Int→Int→Int:=lpO (fun _ _ _ _ _=>default) (zrI)
def zrL:Nat→(Sl step)→(Sl step)→(Sl step)→Int→Int→Bool:=lpO (fun _ _ _ _ _=>false) (zrJ)
def zrM (zd1:(Sl step)) (zdC:(Sl step)) (zaS:(Sl step)) (zbd:Int) (zco:Int):Int:=zrK Fuel zd1 zdC zaS zbd zco
def zrN (zd1:(Sl step)) (zdC:(Sl step)) (zaS:(Sl step)) (zbd:Int) (zco:Int):Bool:=zrL Fuel zd1 zdC zaS zbd zco
theorem zzg (hs:zrN zd1 zdC zaS zbd zco=true) (hk:K (zEY (zrM zd1 zdC zaS zbd zco))) (zjd:zc0=zg zae zd1) (zje:zc1=zg zae zdC) (zoZ:ze4=zg zae zaS):z107 K [1,0,1,0] [] (zuU zd1 zdC zaS zbd zco zc0 zc1 ze4) :=
  zl (fun X=>z107 K [1,0,1,0,0] [X]) (by kernel_rfl) fun X0 hX =>
  (show ∀ k, zrD K X0 (zrL k) (zrK k) from zkR _ _ (zrJ) (zrI) (zrD K X0)
 (by intro _ _ _ _ _ _ _ _ hs;exact absurd hs Bool.false_ne_true)
 (by intro P0 S0 hX0 zd1 zdC zaS zbd zco zc0 zc1 ze4 hs hk zjd zje zoZ;subst zjd;subst zje;subst zoZ;exact hX _ (zbh (by kernel_rfl) (zc hs hk (fun hs hk=>(za7 hs fun hc hs=>And.intro hc (zc hs hk (fun hs hk=>hk) (fun hs hk=>(zzf hX0 hs hk rfl rfl rfl))))) (fun hs hk=>(zt hk (fun hk=>hk) (fun hk=>hk))))))) _ hs hk zjd zje zoZ
def zDK (s1_a0:(Sl step)) (s2_a1:(Sl step)):Int :=
  (zrM s1_a0 s2_a1 s1_a0 (s1_a0.len:Int) (0:Int))
def zGh (s1_a0:(Sl step)) (s2_a1:(Sl step)):Bool :=
  (zrN s1_a0 s2_a1 s1_a0 (s1_a0.len:Int) (0:Int))
end
theorem zIp (s1_a0:(Sl step)) (s2_a1:(Sl step)) (K:List PA→Prop) (hs:zGh s1_a0 s2_a1=true) (hk:K (zEY (zDK s1_a0 s2_a1))):vcFun Tryd.prog zHQ zuT 107 [.one (.sl s1_a0.len 5 (fun i=>zae (s1_a0.get i))),.one (.sl s2_a1.len 5 (fun i=>zae (s2_a1.get i))),.one (.fn 108 [] [])] K :=
  zbh (by kernel_rfl) (zzg hs hk rfl rfl rfl)
def zu0 : List PA → COut
  | [.one (.sl a0_n a0_s a0_g),.one (.sl a1_n a1_s a1_g),.one (.fn 108 [] [])]=>.det (IsE zae 5 a0_s a0_g∧IsE zae 5 a1_s a1_g∧zGh (⟨a0_n,zgx a0_g⟩:(Sl step)) (⟨a1_n,zgx a1_g⟩:(Sl step))=true) [.one (.int .i64 (zDK (⟨a0_n,zgx a0_g⟩:(Sl step)) (⟨a1_n,zgx a1_g⟩:(Sl step))))]
  | _=>.no
theorem zBB:zas Tryd.prog 107:=⟨_,rfl,rfl,by kernel_rfl⟩
theorem zGP:Ok Tryd.prog 107 zu0:=zbJ zEX zBB fun args K h=>by
  unfold zu0 at h
  split at h
  · rename_i a0_n a0_s a0_g a1_n a1_s a1_g
    obtain ⟨⟨⟨rfl,a0_f,rfl⟩,⟨rfl,a1_f,rfl⟩,hs⟩,hk⟩:=h
    try rw [zdT a0_f] at hs
    try rw [zdT a0_f] at hk
    try rw [zdT a1_f] at hs
    try rw [zdT a1_f] at hk
    exact ⟨(fun _ _=>[]),(fun _=>false),zuT,zIp (⟨a0_n,a0_f⟩:(Sl step)) (⟨a1_n,a1_f⟩:(Sl step)) K hs hk⟩
  · exact h.elim
abbrev T89:Tabs:=((((Tabs.nil.addF 93 znc).addF 106 zuM).addF 107 zu0).addI 110 zne)
theorem zGQ:TabsOk Tryd.prog T89:=((((TabsOk.nil.addF zDJ).addF zGG).addF zGP).addI zsw)
abbrev G89:Ctrs:=csm T89 (fun _ _=>[]) (fun _=>false)
def zaM:Ann:=⟨148,[(0,⟨[0],[],[],[],[],[],[]⟩),(1,⟨[0,3],[21],[],[],[],[],[]⟩),(2,⟨[0,3,23,24],[21],[],[],[],[],[]⟩),(3,⟨[0,3,23,24,25],[21],[],[],[],[],[]⟩),(4,⟨[0,3,4,23,24],[21],[],[],[],[],[]⟩),(5,⟨[0,3,23,24],[21],[],[],[],[],[]⟩),(6,⟨[0,3,23,24],[21],[],[],[],[],[]⟩),(7,⟨[0,3],[21],[],[],[],[],[]⟩),(8,⟨[0,3,5],[21],[],[],[],[],[]⟩),(9,⟨[0,3,5,45],[21],[],[],[],[],[]⟩),(10,⟨[0,3,5],[21],[],[],[],[],[]⟩),(11,⟨[0,3,5,48,49,50],[21],[],[],[],[],[]⟩),(12,⟨[0,3,5,48,49,50,51],[21],[],[],[],[],[]⟩),(13,⟨[0,3,5,6,7,48,49,50],[21],[],[],[],[],[]⟩),(14,⟨[0,3,5,48,49,50,62],[21],[],[],[],[],[]⟩),(15,⟨[0,3,5,48,49,50],[21],[],[],[],[],[]⟩),(16,⟨[0,3,5,8],[21],[],[],[],[],[]⟩),(17,⟨[0,5,8,64,65,66],[21],[],[],[],[],[]⟩),(18,⟨[0,5,8,64,65,66,67],[21],[],[],[],[],[]⟩),(19,⟨[0,5,8,9,10,64,65,66],[9,10,21],[],[],[],[],[]⟩),(20,⟨[0,5,8,9,10,64,65,66,78],[9,10,21],[],[],[],[],[]⟩),(21,⟨[0,5,8,9,10,11,64,65,66],[9,10,11,21],[],[],[],[],[]⟩),(22,⟨[0,5,8,9,10,11,12,13,64,65,66],[9,10,11,12,13,21],[],[],[],[],[]⟩),(23,⟨[0,5,8,9,10,11,12,13,14,64,65,66],[9,10,11,12,13,14,21],[],[],[],[],[]⟩),(24,⟨[0,5,8,9,10,11,12,13,14,64,65,66,83],[9,10,11,12,13,14,21,129],[],[],[],[],[]⟩),(25,⟨[0,5,8,9,10,11,12,13,14,64,65,66],[9,10,11,12,13,14,21,129],[],[],[],[],[]⟩),(26,⟨[0,5,8,9,10,11,12,13,14,64,65,66,87],[9,10,11,12,13,14,21,129],[],[],[],[],[]⟩),(27,⟨[0,5,8,9,10,11,12,13,14,15,64,65,66,87],[9,10,11,12,13,14,15,21,129],[],[],[],[],[]⟩),(28,⟨[0,5,8,9,10,11,12,13,14,15,64,65,66,87,125],[9,10,11,12,13,14,15,21,129],[],[],[],[],[]⟩),(29,⟨[0,5,8,9,10,11,12,13,14,15,64,65,66],[9,10,11,12,13,14,15,21,129],[],[],[],[],[]⟩),(30,⟨[0,5,8,9,10,11,12,13,14,64,65,66],[9,10,11,12,13,14,21,129],[],[],[],[],[]⟩),(31,⟨[0,5,8,9,10,11,12,13,64,65,66,136],[9,10,11,12,13,21,129],[],[],[],[],[]⟩),(32,⟨[0,5,8,9,10,11,12,13,14,64,65,66],[9,10,11,12,13,14,21,129],[],[],[],[],[]⟩),(33,⟨[0,5,8,11,64,65,66,144],[11,21,129],[],[],[],[],[]⟩),(34,⟨[0,5,8,64,65,66],[21,129],[],[],[],[],[]⟩),(35,⟨[0,5,8,64,65,66],[21,129],[],[],[],[],[]⟩),(36,⟨[2],[],[],[],[],[],[]⟩)],
 [(3,⟨[0,3,23,24],[21],[],[],[],[],[]⟩),(9,⟨[0,3,5],[21],[],[],[],[],[]⟩),(12,⟨[0,3,5,48,49,50],[21],[],[],[],[],[]⟩),(18,⟨[0,5,8,64,65,66],[21],[],[],[],[],[(8,1005,fun _=>zae default)]⟩),(24,⟨[0,5,8,9,10,11,12,13,14,64,65,66],[9,10,11,12,13,14,21,129],[],[(11,0,129,130,fun _=>zae default)],[],[],[]⟩),(27,⟨[0,5,8,9,10,11,12,13,14,64,65,66,87],[9,10,11,12,13,14,21,129],[],[],[],[],[]⟩)],
 [(7,⟨[0,3],[21],[],[],[],[],[]⟩),(16,⟨[0,3,5],[21],[],[],[],[],[]⟩),(34,⟨[0,5,8,11,64,65,66,144],[11,21,129],[],[],[],[],[]⟩)],
 [],[]⟩
def zjf (w:web) (zbi:Int) (ze5:Nat) (zci:Nat→List PV):St:=⟨[(0,.one (.c (.p (.fp (zaw w) 0)))),(3,.one (.c (.vec 21))),(23,.one (.c (.p (.int .i64 (w.Net.Nodes.toNat:Int))))),(24,.one (.c (.p (.int .i64 zbi))))],[(21,.vec 159 1 24 ze5 zci)],[]⟩
def zjg (K:List PA→Prop) (w:web) (zbi:Int) (ze5:Nat) (zci:Nat→List PV):Prop:=vc Tryd.prog G89 zaM (cdF Tryd.f89 [1,0,1,0,1,0]) (zak 0 (sqK Tryd.prog G89 zaM (cdF Tryd.f89 [1,0,1,1]) (zca (zba Tryd.prog Tryd.f89 K)))) (zjf w zbi ze5 zci)
def zEZ (w:web) (zo0:Nat) (zhf:Nat→List PV):St:=⟨[(0,.one (.c (.p (.fp (zaw w) 0)))),(3,.one (.c (.vec 21)))],[(21,.vec 159 1 24 zo0 zhf)],[]⟩
def zl7 (K:List PA→Prop) (w:web) (zo0:Nat) (zhf:Nat→List PV):Prop:=vc Tryd.prog G89 zaM (cdF Tryd.f89 [1,0,1,1]) (zca (zba Tryd.prog Tryd.f89 K)) (zEZ w zo0 zhf)
def zhI (w:web) (zaE:(Sl (Sl Tab))) (za1:Int):St:=⟨[(0,.one (.c (.p (.fp (zaw w) 0)))),(3,.one (.c (.vec 21))),(5,.one (.c (.p (.int .i64 za1))))],[(21,.vec 159 1 24 zaE.len (fun i=>zaA (zaE.get i)))],[]⟩
def zjh (K:List PA→Prop) (w:web) (zaE:(Sl (Sl Tab))) (za1:Int):Prop:=vc Tryd.prog G89 zaM (cdF Tryd.f89 [1,0,1,1,1,1,0,1,0]) (zak 2 (sqK Tryd.prog G89 zaM (cdF Tryd.f89 [1,0,1,1,1,1,1]) (zca (zba Tryd.prog Tryd.f89 K)))) (zhI w zaE za1)
def zji (w:web) (zaE:(Sl (Sl Tab))) (zaV:Int) (zbp:Int):St:=⟨[(0,.one (.c (.p (.fp (zaw w) 0)))),(3,.one (.c (.vec 21))),(5,.one (.c (.p (.int .i64 zaV)))),(48,.one (.c (.vec 21))),(49,.one (.c (.p (.int .i64 (zaE.len:Int))))),(50,.one (.c (.p (.int .i64 zbp))))],[(21,.vec 159 1 24 zaE.len (fun i=>zaA (zaE.get i)))],[]⟩
def zjj (K:List PA→Prop) (X2:St→Prop) (w:web) (zaE:(Sl (Sl Tab))) (zaV:Int) (zbp:Int):Prop:=vc Tryd.prog G89 zaM (cdF Tryd.f89 [1,0,1,1,1,1,0,1,0,0,1,0,0,1,0]) (zak 4 (zak 3 (sqK Tryd.prog G89 zaM (cdF Tryd.f89 [1,0,1,1,1,1,0,1,0,0,1,1]) (zbb Tryd.prog zaM 9 X2 (zak 2 (sqK Tryd.prog G89 zaM (cdF Tryd.f89 [1,0,1,1,1,1,1]) (zca (zba Tryd.prog Tryd.f89 K)))))))) (zji w zaE zaV zbp)
def zE0 (w:web) (zdd:Int) (zo1:Nat) (zhg:Nat→List PV):St:=⟨[(0,.one (.c (.p (.fp (zaw w) 0)))),(3,.one (.c (.vec 21))),(5,.one (.c (.p (.int .i64 zdd))))],[(21,.vec 159 1 24 zo1 zhg)],[]⟩
def zjk (K:List PA→Prop) (w:web) (zdd:Int) (zo1:Nat) (zhg:Nat→List PV):Prop:=vc Tryd.prog G89 zaM (cdF Tryd.f89 [1,0,1,1,1,1,1]) (zca (zba Tryd.prog Tryd.f89 K)) (zE0 w zdd zo1 zhg)
def zeC (w:web) (zal:(Sl (Sl Tab))) (zaK:Int) (zaz:Bool) (zdU:Nat) (zbe:Nat→List PV) (zaQ:Int) (ze6:Nat) (zbB:Nat→List PV):St:=⟨[(0,.one (.c (.p (.fp (zaw w) 0)))),(5,.one (.c (.p (.int .i64 zaK)))),(8,.one (.c (.p (.ns zaz zdU 5 zbe)))),(64,.one (.c (.vec 21))),(65,.one (.c (.p (.int .i64 (zal.len:Int))))),(66,.one (.c (.p (.int .i64 zaQ))))],[(21,.vec 159 1 24 ze6 zbB)],[]⟩
def zjl (K:List PA→Prop) (w:web) (zal:(Sl (Sl Tab))) (zaK:Int) (zaz:Bool) (zdU:Nat) (zbe:Nat→List PV) (zaQ:Int) (ze6:Nat) (zbB:Nat→List PV):Prop:=vc Tryd.prog G89 zaM (cdF Tryd.f89 [1,0,1,1,1,1,1,1,0,1,0]) (zak 6 (sqK Tryd.prog G89 zaM (cdF Tryd.f89 [1,0,1,1,1,1,1,1,1]) (zca (zba Tryd.prog Tryd.f89 K)))) (zeC w zal zaK zaz zdU zbe zaQ ze6 zbB)
def zgN (w:web) (zal:(Sl (Sl Tab))) (zaZ:Int) (zax:Bool) (zdV:Nat) (zbD:Nat→List PV) (zbE:Int) (iv6:Int) (znv:Nat) (zd2:Nat→List PV) (zdF:Int) (zaH:Int) (kv6:Int) (ze7:Nat) (zbV:Nat→List PV) (zdW:Nat) (zbF:Nat→List PV):St:=⟨[(0,.one (.c (.p (.fp (zaw w) 0)))),(5,.one (.c (.p (.int .i64 zaZ)))),(8,.one (.c (.p (.ns zax zdV 5 zbD)))),(9,.one (.c (.ptr 9 0))),(10,.one (.c (.ptr 10 0))),(11,.one (.c (.ptr 11 0))),(12,.one (.c (.ptr 12 0))),(13,.one (.c (.ptr 13 0))),(14,.one (.c (.ptr 14 0))),(64,.one (.c (.vec 21))),(65,.one (.c (.p (.int .i64 (zal.len:Int))))),(66,.one (.c (.p (.int .i64 zbE))))],[(9,.box 3 [.p (.int .i64 iv6)]),(10,.box 159 [.p (.sl znv 80 zd2)]),(11,.box 127 [.vec 129]),(12,.box 3 [.p (.int .i64 zdF)]),(13,.box 3 [.p (.int .i64 zaH)]),(14,.box 3 [.p (.int .i64 kv6)]),(21,.vec 159 1 24 ze7 zbV),(129,.vec 130 5 40 zdW zbF)],[]⟩
def zjm (K:List PA→Prop) (X5:St→Prop) (w:web) (zal:(Sl (Sl Tab))) (zaZ:Int) (zax:Bool) (zdV:Nat) (zbD:Nat→List PV) (zbE:Int) (iv6:Int) (znv:Nat) (zd2:Nat→List PV) (zdF:Int) (zaH:Int) (kv6:Int) (ze7:Nat) (zbV:Nat→List PV) (zdW:Nat) (zbF:Nat→List PV):Prop:=vc Tryd.prog G89 zaM (cdF Tryd.f89 [1,0,1,1,1,1,1,1,0,1,0,0,1,1,0,0,1,1,1,1,0,1,0]) (zak 8 (sqK Tryd.prog G89 zaM (cdF Tryd.f89 [1,0,1,1,1,1,1,1,0,1,0,0,1,1,0,0,1,1,1,1,1]) (zak 7 (sqK Tryd.prog G89 zaM (cdF Tryd.f89 [1,0,1,1,1,1,1,1,0,1,0,0,1,1,1]) (zbb Tryd.prog zaM 18 X5 (zak 6 (sqK Tryd.prog G89 zaM (cdF Tryd.f89 [1,0,1,1,1,1,1,1,1]) (zca (zba Tryd.prog Tryd.f89 K))))))))) (zgN w zal zaZ zax zdV zbD zbE iv6 znv zd2 zdF zaH kv6 ze7 zbV zdW zbF)
def zeD (w:web) (zal:(Sl (Sl Tab))) (zaI:Int) (zan:Bool) (zdX:Nat) (zbO:Nat→List PV) (za8:Int) (iv7:Int) (znw:Nat) (zeL:Nat→List PV) (zcj:Int) (zam:Int) (kv7:Int) (ze8:Nat) (zck:Nat→List PV) (zdY:Nat) (zbP:Nat→List PV):St:=⟨[(0,.one (.c (.p (.fp (zaw w) 0)))),(5,.one (.c (.p (.int .i64 zaI)))),(8,.one (.c (.p (.ns zan zdX 5 zbO)))),(9,.one (.c (.ptr 9 0))),(10,.one (.c (.ptr 10 0))),(11,.one (.c (.ptr 11 0))),(12,.one (.c (.ptr 12 0))),(13,.one (.c (.ptr 13 0))),(14,.one (.c (.ptr 14 0))),(64,.one (.c (.vec 21))),(65,.one (.c (.p (.int .i64 (zal.len:Int))))),(66,.one (.c (.p (.int .i64 za8)))),(87,.one (.c (.p (.fn 110 [] [.fp [.fp (zaw w) 0] 0]))))],[(9,.box 3 [.p (.int .i64 iv7)]),(10,.box 159 [.p (.sl znw 80 zeL)]),(11,.box 127 [.vec 129]),(12,.box 3 [.p (.int .i64 zcj)]),(13,.box 3 [.p (.int .i64 zam)]),(14,.box 3 [.p (.int .i64 kv7)]),(21,.vec 159 1 24 ze8 zck),(129,.vec 130 5 40 zdY zbP)],[]⟩
def zjn (K:List PA→Prop) (X5:St→Prop) (X6:St→Prop) (w:web) (zal:(Sl (Sl Tab))) (zaI:Int) (zan:Bool) (zdX:Nat) (zbO:Nat→List PV) (za8:Int) (iv7:Int) (znw:Nat) (zeL:Nat→List PV) (zcj:Int) (zam:Int) (kv7:Int) (ze8:Nat) (zck:Nat→List PV) (zdY:Nat) (zbP:Nat→List PV):Prop:=vc Tryd.prog G89 zaM (cdF Tryd.f89 [1,0,1,1,1,1,1,1,0,1,0,0,1,1,0,0,1,1,1,1,0,1,0,0,1,0,0,1,0]) (zak 10 (zak 9 (sqK Tryd.prog G89 zaM (cdF Tryd.f89 [1,0,1,1,1,1,1,1,0,1,0,0,1,1,0,0,1,1,1,1,0,1,0,0,1,1]) (zbb Tryd.prog zaM 24 X6 (zak 8 (sqK Tryd.prog G89 zaM (cdF Tryd.f89 [1,0,1,1,1,1,1,1,0,1,0,0,1,1,0,0,1,1,1,1,1]) (zak 7 (sqK Tryd.prog G89 zaM (cdF Tryd.f89 [1,0,1,1,1,1,1,1,0,1,0,0,1,1,1]) (zbb Tryd.prog zaM 18 X5 (zak 6 (sqK Tryd.prog G89 zaM (cdF Tryd.f89 [1,0,1,1,1,1,1,1,1]) (zca (zba Tryd.prog Tryd.f89 K))))))))))))) (zeD w zal zaI zan zdX zbO za8 iv7 znw zeL zcj zam kv7 ze8 zck zdY zbP)
def zE1 (w:web) (zal:(Sl (Sl Tab))) (zcH:Int) (zbY:Bool) (zl8:Nat) (zfs:Nat→List PV) (zed:Int) (zdD:Bool) (zo2:Nat) (zhh:Nat→List PV) (zl9:Nat) (zft:Nat→List PV):St:=⟨[(0,.one (.c (.p (.fp (zaw w) 0)))),(5,.one (.c (.p (.int .i64 zcH)))),(8,.one (.c (.p (.ns zbY zl8 5 zfs)))),(11,.one (.c (.ptr 11 0))),(64,.one (.c (.vec 21))),(65,.one (.c (.p (.int .i64 (zal.len:Int))))),(66,.one (.c (.p (.int .i64 zed)))),(144,.one (.c (.p (.bool zdD))))],[(11,.box 127 [.vec 129]),(21,.vec 159 1 24 zo2 zhh),(129,.vec 130 5 40 zl9 zft)],[]⟩
def zjo (K:List PA→Prop) (X5:St→Prop) (w:web) (zal:(Sl (Sl Tab))) (zcH:Int) (zbY:Bool) (zl8:Nat) (zfs:Nat→List PV) (zed:Int) (zdD:Bool) (zo2:Nat) (zhh:Nat→List PV) (zl9:Nat) (zft:Nat→List PV):Prop:=vc Tryd.prog G89 zaM (cdF Tryd.f89 [1,0,1,1,1,1,1,1,0,1,0,0,1,1,0,0,1,1,1,1,1,1]) (zak 7 (sqK Tryd.prog G89 zaM (cdF Tryd.f89 [1,0,1,1,1,1,1,1,0,1,0,0,1,1,1]) (zbb Tryd.prog zaM 18 X5 (zak 6 (sqK Tryd.prog G89 zaM (cdF Tryd.f89 [1,0,1,1,1,1,1,1,1]) (zca (zba Tryd.prog Tryd.f89 K))))))) (zE1 w zal zcH zbY zl8 zfs zed zdD zo2 zhh zl9 zft)
theorem zBC (w : web) (K : List PA → Prop) :
  vcFun Tryd.prog G89 zaM 89 [.one (.fp (zaw w) 0)] K =
  (((0≤w.Net.Nodes∧w.Net.Nodes=w.Net.Nodes∧w.Net.Nodes≤1000000)) ∧
 (zjg K w (0:Int) w.Net.Nodes.toNat (fun _=>(zaA (⟨0,fun _=>(fun _=>(0:Int))⟩:(Sl Tab)))))):=by kernel_rfl
def znx (K:List PA→Prop) (X0:St→Prop) (w:web) (zbi:Int) (zbI:(Sl (Sl Tab))):Prop :=
  (zbA (decide (zbi < (w.Net.Nodes.toNat : Int)))
 ((IsE zaj 4 4 (fun i=>zaj (w.Net.Ties.get i))∧((false,1,false,[none]):MQ)=(false,1,false,[none])∧(zEP w zbi w.Net.Nodes=true)) ∧
 (((0≤zbi∧zbi < (zbI.len:Int))) ∧
 (((zbi.toNat < zbI.len)) ∧
 (X0 (zjf w (w64 (zbi+(1:Int))) zbI.len (zhT zbi.toNat 0 (fun i=>zaA (zbI.get i)) (zaA (zuL w zbi w.Net.Nodes))))))))
 (zl7 K w zbI.len (fun i=>zaA (zbI.get i))))
theorem zo3 (K : List PA → Prop) (X0 : St → Prop) (w : web) (zbi : Int) (zbI : (Sl (Sl Tab))) :
  vc Tryd.prog G89 zaM (cd (cdF Tryd.f89 [1,0,1,0,1,0]) [0]) (zbb Tryd.prog zaM 3 X0 (zak 0 (sqK Tryd.prog G89 zaM (cdF Tryd.f89 [1,0,1,1]) (zca (zba Tryd.prog Tryd.f89 K))))) (zjf w zbi zbI.len (fun i=>zaA (zbI.get i))) =
  znx K X0 w zbi zbI:=by kernel_rfl
theorem zu1 (K : List PA → Prop) (w : web) (zbi : Int) (ze5 : Nat) (zci : Nat → List PV)
  (h:∀ X0:St→Prop,(∀ (zbi:Int) (zbI:(Sl (Sl Tab))),znx K X0 w zbi zbI→X0 (zjf w zbi zbI.len (fun i=>zaA (zbI.get i))))→X0 (zjf w zbi ze5 zci)) :
  zjg K w zbi ze5 zci:=by
  have e:zjg K w zbi ze5 zci=(∀ X:St→Prop,(∀ s,vc Tryd.prog G89 zaM (cd (cdF Tryd.f89 [1,0,1,0,1,0]) [0]) (zbb Tryd.prog zaM 3 X (zak 0 (sqK Tryd.prog G89 zaM (cdF Tryd.f89 [1,0,1,1]) (zca (zba Tryd.prog Tryd.f89 K))))) s→X s)→X (zjf w zbi ze5 zci)):=by kernel_rfl
  refine zbh e ?_
  intro X hX
  refine h X ?_
  intro zbi zbI hs
  refine hX _ ?_
  have e2:=zo3 K X w zbi zbI
  rw [e2]
  exact hs
theorem zBD (K : List PA → Prop) (w : web) (zaE : (Sl (Sl Tab))) :
  zl7 K w zaE.len (fun i=>zaA (zaE.get i)) =
  (zjh K w zaE (1:Int)):=by kernel_rfl
def zny (K:List PA→Prop) (X2:St→Prop) (w:web) (zaE:(Sl (Sl Tab))) (za1:Int):Prop :=
  (zbA (decide (za1 < w.Net.Nodes))
 (zjj K X2 w zaE za1 (0:Int))
 (zjk K w za1 zaE.len (fun i=>zaA (zaE.get i))))
theorem zo4 (K : List PA → Prop) (X2 : St → Prop) (w : web) (zaE : (Sl (Sl Tab))) (za1 : Int) :
  vc Tryd.prog G89 zaM (cd (cdF Tryd.f89 [1,0,1,1,1,1,0,1,0]) [0]) (zbb Tryd.prog zaM 9 X2 (zak 2 (sqK Tryd.prog G89 zaM (cdF Tryd.f89 [1,0,1,1,1,1,1]) (zca (zba Tryd.prog Tryd.f89 K))))) (zhI w zaE za1) =
  zny K X2 w zaE za1:=by kernel_rfl
theorem zu3 (K : List PA → Prop) (w : web) (zaE : (Sl (Sl Tab))) (za1 : Int)
  (h:∀ X2:St→Prop,(∀ (za1:Int),zny K X2 w zaE za1→X2 (zhI w zaE za1))→X2 (zhI w zaE za1)) :
  zjh K w zaE za1:=by
  have e:zjh K w zaE za1=(∀ X:St→Prop,(∀ s,vc Tryd.prog G89 zaM (cd (cdF Tryd.f89 [1,0,1,1,1,1,0,1,0]) [0]) (zbb Tryd.prog zaM 9 X (zak 2 (sqK Tryd.prog G89 zaM (cdF Tryd.f89 [1,0,1,1,1,1,1]) (zca (zba Tryd.prog Tryd.f89 K))))) s→X s)→X (zhI w zaE za1)):=by kernel_rfl
  refine zbh e ?_
  intro X hX
  refine h X ?_
  intro za1 hs
  refine hX _ ?_
  have e2:=zo4 K X w zaE za1
  rw [e2]
  exact hs
def znz (K:List PA→Prop) (X2:St→Prop) (X3:St→Prop) (w:web) (zaE:(Sl (Sl Tab))) (zaV:Int) (zbp:Int):Prop :=
  (zbA (decide (zbp < (zaE.len : Int)))
 (((0≤zbp∧zbp < (zaE.len:Int))) ∧
 (((zbp.toNat < zaE.len)) ∧
 (((0≤zaV∧zaV < ((zaE.get zbp.toNat).len:Int))) ∧
 (((0≤zbp∧zbp < (40:Int))) ∧
 (zbA (decide ((tg 80 ((zaE.get zbp.toNat).get zaV.toNat) (0 + zbp.toNat * 2 + 0)) < (0:Int)))
 (zjk K w zaV zaE.len (fun i=>zaA (zaE.get i)))
 (X3 (zji w zaE zaV (w64 (zbp+(1:Int))))))))))
 (X2 (zhI w zaE (w64 (zaV+(1:Int))))))
theorem zo5 (K : List PA → Prop) (X2 : St → Prop) (X3 : St → Prop) (w : web) (zaE : (Sl (Sl Tab))) (zaV : Int) (zbp : Int) :
  vc Tryd.prog G89 zaM (cd (cdF Tryd.f89 [1,0,1,1,1,1,0,1,0,0,1,0,0,1,0]) [0]) (zbb Tryd.prog zaM 12 X3 (zak 4 (zak 3 (sqK Tryd.prog G89 zaM (cdF Tryd.f89 [1,0,1,1,1,1,0,1,0,0,1,1]) (zbb Tryd.prog zaM 9 X2 (zak 2 (sqK Tryd.prog G89 zaM (cdF Tryd.f89 [1,0,1,1,1,1,1]) (zca (zba Tryd.prog Tryd.f89 K))))))))) (zji w zaE zaV zbp) =
  znz K X2 X3 w zaE zaV zbp:=by kernel_rfl
theorem zu4 (K : List PA → Prop) (X2 : St → Prop) (w : web) (zaE : (Sl (Sl Tab))) (zaV : Int) (zbp : Int)
  (h:∀ X3:St→Prop,(∀ (zaV:Int) (zbp:Int),znz K X2 X3 w zaE zaV zbp→X3 (zji w zaE zaV zbp))→X3 (zji w zaE zaV zbp)) :
  zjj K X2 w zaE zaV zbp:=by
  have e:zjj K X2 w zaE zaV zbp=(∀ X:St→Prop,(∀ s,vc Tryd.prog G89 zaM (cd (cdF Tryd.f89 [1,0,1,1,1,1,0,1,0,0,1,0,0,1,0]) [0]) (zbb Tryd.prog zaM 12 X (zak 4 (zak 3 (sqK Tryd.prog G89 zaM (cdF Tryd.f89 [1,0,1,1,1,1,0,1,0,0,1,1]) (zbb Tryd.prog zaM 9 X2 (zak 2 (sqK Tryd.prog G89 zaM (cdF Tryd.f89 [1,0,1,1,1,1,1]) (zca (zba Tryd.prog Tryd.f89 K))))))))) s→X s)→X (zji w zaE zaV zbp)):=by kernel_rfl
  refine zbh e ?_
  intro X hX
  refine h X ?_
  intro zaV zbp hs
  refine hX _ ?_
  have e2:=zo5 K X2 X w zaE zaV zbp
  rw [e2]
  exact hs
theorem zBE (K : List PA → Prop) (w : web) (zdd : Int) (zal : (Sl (Sl Tab))) :
  zjk K w zdd zal.len (fun i=>zaA (zal.get i)) =
  (zjl K w zal zdd true 0 (fun i=>zae ((fun _=>default) i)) (0:Int) zal.len (fun i=>zaA (zal.get i))):=by kernel_rfl
def znA (K:List PA→Prop) (X5:St→Prop) (w:web) (zal:(Sl (Sl Tab))) (zaK:Int) (zaz:Bool) (zaN:(Sl step)) (zaQ:Int) (za9:(Sl (Sl Tab))):Prop :=
  (zbA (decide (zaQ < (zal.len : Int)))
 (((0≤zaQ∧zaQ < (za9.len:Int))) ∧
 (((zaQ.toNat < za9.len)) ∧
 (((0≤zaK∧zaK < ((za9.get zaQ.toNat).len:Int))) ∧
 (((0≤zaQ∧zaQ < (40:Int))) ∧
 (zbA (decide ((tg 80 ((za9.get zaQ.toNat).get zaK.toNat) (0 + zaQ.toNat * 2 + 0)) ≥ (0:Int)))
 (X5 (zeC w zal zaK zaz zaN.len (fun i=>zae (zaN.get i)) (w64 (zaQ+(1:Int))) za9.len (fun i=>zaA (za9.get i))))
 (zjm K X5 w zal zaK zaz zaN.len (fun i=>zae (zaN.get i)) zaQ zaQ ((za9.get zaQ.toNat).len) (fun i=>zad ((za9.get zaQ.toNat).get i)) zaQ (0:Int) (w64 (zaK - (1:Int))) za9.len (fun i=>zaA (za9.get i)) 0 (fun i=>zae ((fun _=>default) i))))))))
 (K [.one (.sl zaN.len 5 (fun i=>zae (zaN.get i)))]))
theorem zo6 (K : List PA → Prop) (X5 : St → Prop) (w : web) (zal : (Sl (Sl Tab))) (zaK : Int) (zaz : Bool) (zaN : (Sl step)) (zaQ : Int) (za9 : (Sl (Sl Tab))) :
  vc Tryd.prog G89 zaM (cd (cdF Tryd.f89 [1,0,1,1,1,1,1,1,0,1,0]) [0]) (zbb Tryd.prog zaM 18 X5 (zak 6 (sqK Tryd.prog G89 zaM (cdF Tryd.f89 [1,0,1,1,1,1,1,1,1]) (zca (zba Tryd.prog Tryd.f89 K))))) (zeC w zal zaK zaz zaN.len (fun i=>zae (zaN.get i)) zaQ za9.len (fun i=>zaA (za9.get i))) =
  znA K X5 w zal zaK zaz zaN zaQ za9:=by kernel_rfl
theorem zu5 (K : List PA → Prop) (w : web) (zal : (Sl (Sl Tab))) (zaK : Int) (zaz : Bool) (zdU : Nat) (zbe : Nat → List PV) (zaQ : Int) (ze6 : Nat) (zbB : Nat → List PV)
  (h:∀ X5:St→Prop,(∀ (zaK:Int) (zaz:Bool) (zaN:(Sl step)) (zaQ:Int) (za9:(Sl (Sl Tab))),znA K X5 w zal zaK zaz zaN zaQ za9→X5 (zeC w zal zaK zaz zaN.len (fun i=>zae (zaN.get i)) zaQ za9.len (fun i=>zaA (za9.get i))))→X5 (zeC w zal zaK zaz zdU zbe zaQ ze6 zbB)) :
  zjl K w zal zaK zaz zdU zbe zaQ ze6 zbB:=by
  have e:zjl K w zal zaK zaz zdU zbe zaQ ze6 zbB=(∀ X:St→Prop,(∀ s,vc Tryd.prog G89 zaM (cd (cdF Tryd.f89 [1,0,1,1,1,1,1,1,0,1,0]) [0]) (zbb Tryd.prog zaM 18 X (zak 6 (sqK Tryd.prog G89 zaM (cdF Tryd.f89 [1,0,1,1,1,1,1,1,1]) (zca (zba Tryd.prog Tryd.f89 K))))) s→X s)→X (zeC w zal zaK zaz zdU zbe zaQ ze6 zbB)):=by kernel_rfl
  refine zbh e ?_
  intro X hX
  refine h X ?_
  intro zaK zaz zaN zaQ za9 hs
  refine hX _ ?_
  have e2:=zo6 K X w zal zaK zaz zaN zaQ za9
  rw [e2]
  exact hs
def znB (K:List PA→Prop) (X5:St→Prop) (X6:St→Prop) (w:web) (zal:(Sl (Sl Tab))) (zaZ:Int) (zax:Bool) (zaL:(Sl step)) (zbE:Int) (iv6:Int) (hv6:(Sl Tab)) (zdF:Int) (zaH:Int) (kv6:Int) (zbx:(Sl (Sl Tab))) (zaO:(Sl step)):Prop :=
  (zbA (decide (kv6 ≥ (0:Int)))
 ((IsE zaj 4 4 (fun i=>zaj (w.Net.Ties.get i))∧((false,1,false,[none]):MQ)=(false,1,false,[none])) ∧
 (zjn K X5 X6 w zal zaZ zax zaL.len (fun i=>zae (zaL.get i)) zbE iv6 hv6.len (fun i=>zad (hv6.get i)) zdF zaH kv6 zbx.len (fun i=>zaA (zbx.get i)) zaO.len (fun i=>zae (zaO.get i))))
 (((zax=true∨zaL.len ≠ 0)) ∧
 (zbA zax
 (zjo K X5 w zal zaZ zax zaL.len (fun i=>zae (zaL.get i)) zbE true zbx.len (fun i=>zaA (zbx.get i)) zaO.len (fun i=>zae (zaO.get i)))
 ((IsE zae 5 5 (fun i=>zae (zaO.get i))∧IsE zae 5 5 (fun i=>zae (zaL.get i))∧(zGh zaO zaL=true)) ∧
 (zjo K X5 w zal zaZ zax zaL.len (fun i=>zae (zaL.get i)) zbE (decide ((zDK zaO zaL) < (0:Int))) zbx.len (fun i=>zaA (zbx.get i)) zaO.len (fun i=>zae (zaO.get i)))))))
theorem zo7 (K : List PA → Prop) (X5 : St → Prop) (X6 : St → Prop) (w : web) (zal : (Sl (Sl Tab))) (zaZ : Int) (zax : Bool) (zaL : (Sl step)) (zbE : Int) (iv6 : Int) (hv6 : (Sl Tab)) (zdF : Int) (zaH : Int) (kv6 : Int) (zbx : (Sl (Sl Tab))) (zaO : (Sl step)) :
  vc Tryd.prog G89 zaM (cd (cdF Tryd.f89 [1,0,1,1,1,1,1,1,0,1,0,0,1,1,0,0,1,1,1,1,0,1,0]) [0]) (zbb Tryd.prog zaM 24 X6 (zak 8 (sqK Tryd.prog G89 zaM (cdF Tryd.f89 [1,0,1,1,1,1,1,1,0,1,0,0,1,1,0,0,1,1,1,1,1]) (zak 7 (sqK Tryd.prog G89 zaM (cdF Tryd.f89 [1,0,1,1,1,1,1,1,0,1,0,0,1,1,1]) (zbb Tryd.prog zaM 18 X5 (zak 6 (sqK Tryd.prog G89 zaM (cdF Tryd.f89 [1,0,1,1,1,1,1,1,1]) (zca (zba Tryd.prog Tryd.f89 K)))))))))) (zgN w zal zaZ zax zaL.len (fun i=>zae (zaL.get i)) zbE iv6 hv6.len (fun i=>zad (hv6.get i)) zdF zaH kv6 zbx.len (fun i=>zaA (zbx.get i)) zaO.len (fun i=>zae (zaO.get i))) =
  znB K X5 X6 w zal zaZ zax zaL zbE iv6 hv6 zdF zaH kv6 zbx zaO:=by kernel_rfl
theorem zu6 (K : List PA → Prop) (X5 : St → Prop) (w : web) (zal : (Sl (Sl Tab))) (zaZ : Int) (zax : Bool) (zdV : Nat) (zbD : Nat → List PV) (zbE : Int) (iv6 : Int) (znv : Nat) (zd2 : Nat → List PV) (zdF : Int) (zaH : Int) (kv6 : Int) (ze7 : Nat) (zbV : Nat → List PV) (zdW : Nat) (zbF : Nat → List PV)
  (h:∀ X6:St→Prop,(∀ (zaZ:Int) (zax:Bool) (zaL:(Sl step)) (zbE:Int) (iv6:Int) (hv6:(Sl Tab)) (zdF:Int) (zaH:Int) (kv6:Int) (zbx:(Sl (Sl Tab))) (zaO:(Sl step)),znB K X5 X6 w zal zaZ zax zaL zbE iv6 hv6 zdF zaH kv6 zbx zaO→X6 (zgN w zal zaZ zax zaL.len (fun i=>zae (zaL.get i)) zbE iv6 hv6.len (fun i=>zad (hv6.get i)) zdF zaH kv6 zbx.len (fun i=>zaA (zbx.get i)) zaO.len (fun i=>zae (zaO.get i))))→X6 (zgN w zal zaZ zax zdV zbD zbE iv6 znv zd2 zdF zaH kv6 ze7 zbV zdW zbF)) :
  zjm K X5 w zal zaZ zax zdV zbD zbE iv6 znv zd2 zdF zaH kv6 ze7 zbV zdW zbF:=by
  have e:zjm K X5 w zal zaZ zax zdV zbD zbE iv6 znv zd2 zdF zaH kv6 ze7 zbV zdW zbF=(∀ X:St→Prop,(∀ s,vc Tryd.prog G89 zaM (cd (cdF Tryd.f89 [1,0,1,1,1,1,1,1,0,1,0,0,1,1,0,0,1,1,1,1,0,1,0]) [0]) (zbb Tryd.prog zaM 24 X (zak 8 (sqK Tryd.prog G89 zaM (cdF Tryd.f89 [1,0,1,1,1,1,1,1,0,1,0,0,1,1,0,0,1,1,1,1,1]) (zak 7 (sqK Tryd.prog G89 zaM (cdF Tryd.f89 [1,0,1,1,1,1,1,1,0,1,0,0,1,1,1]) (zbb Tryd.prog zaM 18 X5 (zak 6 (sqK Tryd.prog G89 zaM (cdF Tryd.f89 [1,0,1,1,1,1,1,1,1]) (zca (zba Tryd.prog Tryd.f89 K)))))))))) s→X s)→X (zgN w zal zaZ zax zdV zbD zbE iv6 znv zd2 zdF zaH kv6 ze7 zbV zdW zbF)):=by kernel_rfl
  refine zbh e ?_
  intro X hX
  refine h X ?_
  intro zaZ zax zaL zbE iv6 hv6 zdF zaH kv6 zbx zaO hs
  refine hX _ ?_
  have e2:=zo7 K X5 X w zal zaZ zax zaL zbE iv6 hv6 zdF zaH kv6 zbx zaO
  rw [e2]
  exact hs
def znC (K:List PA→Prop) (X5:St→Prop) (X6:St→Prop) (w:web) (zal:(Sl (Sl Tab))) (zaI:Int) (zan:Bool) (zaF:(Sl step)) (za8:Int) (iv7:Int) (hv7:(Sl Tab)) (zcj:Int) (zam:Int) (kv7:Int) (zaW:(Sl (Sl Tab))) (zay:(Sl step)):Prop :=
  (X6 (zgN w zal zaI zan zaF.len (fun i=>zae (zaF.get i)) za8 iv7 hv7.len (fun i=>zad (hv7.get i)) zcj zam (w64 (kv7 - (1:Int))) zaW.len (fun i=>zaA (zaW.get i)) zay.len (fun i=>zae (zay.get i))))
def znD (K:List PA→Prop) (X5:St→Prop) (X6:St→Prop) (X7:List (List PA)→St→Prop) (y7:step) (rest7:List (List PA)) (w:web) (zal:(Sl (Sl Tab))) (zaI:Int) (zan:Bool) (zaF:(Sl step)) (za8:Int) (iv7:Int) (hv7:(Sl Tab)) (zcj:Int) (zam:Int) (kv7:Int) (zaW:(Sl (Sl Tab))) (zay:(Sl step)):Prop :=
  (zbA (y7.from_ == zcj)
 (zbA (decide (y7.to ≥ iv7))
 (((0≤kv7∧kv7 < (hv7.len:Int))) ∧
 (((0≤y7.to∧y7.to < (40:Int))) ∧
 (zbA (!(match ((tg 80 (hv7.get kv7.toNat) (0 + y7.to.toNat * 2 + 0)) == (1000000000000:Int)) with | true => (match ((tg 80 (hv7.get kv7.toNat) (0 + y7.to.toNat * 2 + 0 + 1)) == (0:Int)) with | true => true | false => false) | false => false))
 (((0≤kv7∧kv7 < (hv7.len:Int))) ∧
 (((0≤y7.to∧y7.to < (40:Int))) ∧
 (zbA (decide ((w64 ((w64 (zam + y7.length)) + (tg 80 (hv7.get kv7.toNat) (0 + y7.to.toNat * 2 + 0)))) < (0:Int)))
 ((((zay.len+1) * 40≤140737488355328∧zay.len+1≤9223372036854775807)) ∧
 (X6 (zgN w zal zaI zan zaF.len (fun i=>zae (zaF.get i)) za8 iv7 hv7.len (fun i=>zad (hv7.get i)) y7.to (w64 (zam+y7.length)) (w64 (kv7 - (1:Int))) zaW.len (fun i=>zaA (zaW.get i)) (zay.len+1) (appG zay.len (fun i=>zae (zay.get i)) (fun _=>(zae y7))))))
 (X7 rest7 (zeD w zal zaI zan zaF.len (fun i=>zae (zaF.get i)) za8 iv7 hv7.len (fun i=>zad (hv7.get i)) zcj zam kv7 zaW.len (fun i=>zaA (zaW.get i)) zay.len (fun i=>zae (zay.get i)))))))
 (X7 rest7 (zeD w zal zaI zan zaF.len (fun i=>zae (zaF.get i)) za8 iv7 hv7.len (fun i=>zad (hv7.get i)) zcj zam kv7 zaW.len (fun i=>zaA (zaW.get i)) zay.len (fun i=>zae (zay.get i)))))))
 (X7 rest7 (zeD w zal zaI zan zaF.len (fun i=>zae (zaF.get i)) za8 iv7 hv7.len (fun i=>zad (hv7.get i)) zcj zam kv7 zaW.len (fun i=>zaA (zaW.get i)) zay.len (fun i=>zae (zay.get i)))))
 (X7 rest7 (zeD w zal zaI zan zaF.len (fun i=>zae (zaF.get i)) za8 iv7 hv7.len (fun i=>zad (hv7.get i)) zcj zam kv7 zaW.len (fun i=>zaA (zaW.get i)) zay.len (fun i=>zae (zay.get i)))))
theorem zo8 (K:List PA→Prop) (X5:St→Prop) (X6:St→Prop) (w:web) (zal:(Sl (Sl Tab))) (zaI:Int) (zan:Bool) (zaF:(Sl step)) (za8:Int) (iv7:Int) (hv7:(Sl Tab)) (zcj:Int) (zam:Int) (kv7:Int) (zaW:(Sl (Sl Tab))) (zay:(Sl step)):(zak 10 (zak 9 (sqK Tryd.prog G89 zaM (cdF Tryd.f89 [1,0,1,1,1,1,1,1,0,1,0,0,1,1,0,0,1,1,1,1,0,1,0,0,1,1]) (zbb Tryd.prog zaM 24 X6 (zak 8 (sqK Tryd.prog G89 zaM (cdF Tryd.f89 [1,0,1,1,1,1,1,1,0,1,0,0,1,1,0,0,1,1,1,1,1]) (zak 7 (sqK Tryd.prog G89 zaM (cdF Tryd.f89 [1,0,1,1,1,1,1,1,0,1,0,0,1,1,1]) (zbb Tryd.prog zaM 18 X5 (zak 6 (sqK Tryd.prog G89 zaM (cdF Tryd.f89 [1,0,1,1,1,1,1,1,1]) (zca (zba Tryd.prog Tryd.f89 K))))))))))))) .normal (zeD w zal zaI zan zaF.len (fun i=>zae (zaF.get i)) za8 iv7 hv7.len (fun i=>zad (hv7.get i)) zcj zam kv7 zaW.len (fun i=>zaA (zaW.get i)) zay.len (fun i=>zae (zay.get i)))=znC K X5 X6 w zal zaI zan zaF za8 iv7 hv7 zcj zam kv7 zaW zay:=by kernel_rfl
theorem zo9 (K : List PA → Prop) (X5 : St → Prop) (X6 : St → Prop) (X7 : List (List PA) → St → Prop) (y7 : step) (rest7 : List (List PA)) (w : web) (zal : (Sl (Sl Tab))) (zaI : Int) (zan : Bool) (zaF : (Sl step)) (za8 : Int) (iv7 : Int) (hv7 : (Sl Tab)) (zcj : Int) (zam : Int) (kv7 : Int) (zaW : (Sl (Sl Tab))) (zay : (Sl step)) :
  zsL Tryd.prog G89 zaM 27 [88] (cd (cdF Tryd.f89 [1,0,1,1,1,1,1,1,0,1,0,0,1,1,0,0,1,1,1,1,0,1,0,0,1,0,0,1,0]) [0]) (cd (cdF Tryd.f89 [1,0,1,1,1,1,1,1,0,1,0,0,1,1,0,0,1,1,1,1,0,1,0,0,1,0,0,1,0]) [1]) X7 (zak 10 (zak 9 (sqK Tryd.prog G89 zaM (cdF Tryd.f89 [1,0,1,1,1,1,1,1,0,1,0,0,1,1,0,0,1,1,1,1,0,1,0,0,1,1]) (zbb Tryd.prog zaM 24 X6 (zak 8 (sqK Tryd.prog G89 zaM (cdF Tryd.f89 [1,0,1,1,1,1,1,1,0,1,0,0,1,1,0,0,1,1,1,1,1]) (zak 7 (sqK Tryd.prog G89 zaM (cdF Tryd.f89 [1,0,1,1,1,1,1,1,0,1,0,0,1,1,1]) (zbb Tryd.prog zaM 18 X5 (zak 6 (sqK Tryd.prog G89 zaM (cdF Tryd.f89 [1,0,1,1,1,1,1,1,1]) (zca (zba Tryd.prog Tryd.f89 K))))))))))))) [.agg (zae y7)] rest7 (zeD w zal zaI zan zaF.len (fun i=>zae (zaF.get i)) za8 iv7 hv7.len (fun i=>zad (hv7.get i)) zcj zam kv7 zaW.len (fun i=>zaA (zaW.get i)) zay.len (fun i=>zae (zay.get i)))=znD K X5 X6 X7 y7 rest7 w zal zaI zan zaF za8 iv7 hv7 zcj zam kv7 zaW zay:=by kernel_rfl
theorem zu7 (K : List PA → Prop) (X5 : St → Prop) (X6 : St → Prop) (w : web) (zal : (Sl (Sl Tab))) (zaI : Int) (zan : Bool) (zdX : Nat) (zbO : Nat → List PV) (za8 : Int) (iv7 : Int) (znw : Nat) (zeL : Nat → List PV) (zcj : Int) (zam : Int) (kv7 : Int) (ze8 : Nat) (zck : Nat → List PV) (zdY : Nat) (zbP : Nat → List PV)
  (hsafe:IsE zaj 4 4 (fun i=>zaj (w.Net.Ties.get i))∧((false,1,false,[none]):MQ)=(false,1,false,[none])∧(zkj w=true)) (h:∀ X7:List (List PA)→St→Prop,(∀ (zaI:Int) (zan:Bool) (zaF:(Sl step)) (za8:Int) (iv7:Int) (hv7:(Sl Tab)) (zcj:Int) (zam:Int) (kv7:Int) (zaW:(Sl (Sl Tab))) (zay:(Sl step)),znC K X5 X6 w zal zaI zan zaF za8 iv7 hv7 zcj zam kv7 zaW zay→X7 [] (zeD w zal zaI zan zaF.len (fun i=>zae (zaF.get i)) za8 iv7 hv7.len (fun i=>zad (hv7.get i)) zcj zam kv7 zaW.len (fun i=>zaA (zaW.get i)) zay.len (fun i=>zae (zay.get i))))→(∀ (y:step) (rest:List (List PA)) (zaI:Int) (zan:Bool) (zaF:(Sl step)) (za8:Int) (iv7:Int) (hv7:(Sl Tab)) (zcj:Int) (zam:Int) (kv7:Int) (zaW:(Sl (Sl Tab))) (zay:(Sl step)),znD K X5 X6 X7 y rest w zal zaI zan zaF za8 iv7 hv7 zcj zam kv7 zaW zay→X7 ([.agg (zae y)] :: rest) (zeD w zal zaI zan zaF.len (fun i=>zae (zaF.get i)) za8 iv7 hv7.len (fun i=>zad (hv7.get i)) zcj zam kv7 zaW.len (fun i=>zaA (zaW.get i)) zay.len (fun i=>zae (zay.get i))))→X7 ((zha w).map fun y=>[.agg (zae y)]) (zeD w zal zaI zan zdX zbO za8 iv7 znw zeL zcj zam kv7 ze8 zck zdY zbP)) :
  zjn K X5 X6 w zal zaI zan zdX zbO za8 iv7 znw zeL zcj zam kv7 ze8 zck zdY zbP:=by
  have e:zjn K X5 X6 w zal zaI zan zdX zbO za8 iv7 znw zeL zcj zam kv7 ze8 zck zdY zbP=((IsE zaj 4 4 (fun i=>zaj (w.Net.Ties.get i))∧((false,1,false,[none]):MQ)=(false,1,false,[none])∧(zkj w=true))∧∀ X:List (List PA)→St→Prop,(∀ s,(zak 10 (zak 9 (sqK Tryd.prog G89 zaM (cdF Tryd.f89 [1,0,1,1,1,1,1,1,0,1,0,0,1,1,0,0,1,1,1,1,0,1,0,0,1,1]) (zbb Tryd.prog zaM 24 X6 (zak 8 (sqK Tryd.prog G89 zaM (cdF Tryd.f89 [1,0,1,1,1,1,1,1,0,1,0,0,1,1,0,0,1,1,1,1,1]) (zak 7 (sqK Tryd.prog G89 zaM (cdF Tryd.f89 [1,0,1,1,1,1,1,1,0,1,0,0,1,1,1]) (zbb Tryd.prog zaM 18 X5 (zak 6 (sqK Tryd.prog G89 zaM (cdF Tryd.f89 [1,0,1,1,1,1,1,1,1]) (zca (zba Tryd.prog Tryd.f89 K))))))))))))) .normal s→X [] s)→(∀ y rest s,zsL Tryd.prog G89 zaM 27 [88] (cd (cdF Tryd.f89 [1,0,1,1,1,1,1,1,0,1,0,0,1,1,0,0,1,1,1,1,0,1,0,0,1,0,0,1,0]) [0]) (cd (cdF Tryd.f89 [1,0,1,1,1,1,1,1,0,1,0,0,1,1,0,0,1,1,1,1,0,1,0,0,1,0,0,1,0]) [1]) X (zak 10 (zak 9 (sqK Tryd.prog G89 zaM (cdF Tryd.f89 [1,0,1,1,1,1,1,1,0,1,0,0,1,1,0,0,1,1,1,1,0,1,0,0,1,1]) (zbb Tryd.prog zaM 24 X6 (zak 8 (sqK Tryd.prog G89 zaM (cdF Tryd.f89 [1,0,1,1,1,1,1,1,0,1,0,0,1,1,0,0,1,1,1,1,1]) (zak 7 (sqK Tryd.prog G89 zaM (cdF Tryd.f89 [1,0,1,1,1,1,1,1,0,1,0,0,1,1,1]) (zbb Tryd.prog zaM 18 X5 (zak 6 (sqK Tryd.prog G89 zaM (cdF Tryd.f89 [1,0,1,1,1,1,1,1,1]) (zca (zba Tryd.prog Tryd.f89 K))))))))))))) y rest s→X (y :: rest) s)→X ((zha w).map fun y=>[.agg (zae y)]) (zeD w zal zaI zan zdX zbO za8 iv7 znw zeL zcj zam kv7 ze8 zck zdY zbP)):=by kernel_rfl
  refine zbh e ⟨hsafe,?_⟩
  intro X h0 h1
  refine h X (fun zaI zan zaF za8 iv7 hv7 zcj zam kv7 zaW zay hs=>h0 _ ?_) (fun y rest zaI zan zaF za8 iv7 hv7 zcj zam kv7 zaW zay hs=>h1 _ rest _ ?_)
  · rw [zo8 K X5 X6 w zal zaI zan zaF za8 iv7 hv7 zcj zam kv7 zaW zay];exact hs
  · have e2 := zo9 K X5 X6 X y rest w zal zaI zan zaF za8 iv7 hv7 zcj zam kv7 zaW zay
    rw [e2];exact hs
theorem zBF (K : List PA → Prop) (X5 : St → Prop) (w : web) (zal : (Sl (Sl Tab))) (zcH : Int) (zbY : Bool) (zde : (Sl step)) (zed : Int) (zdD : Bool) (zdI : (Sl (Sl Tab))) (zdf : (Sl step)) :
  zjo K X5 w zal zcH zbY zde.len (fun i=>zae (zde.get i)) zed zdD zdI.len (fun i=>zaA (zdI.get i)) zdf.len (fun i=>zae (zdf.get i)) =
  (zbA zdD
 (X5 (zeC w zal zcH false zdf.len (fun i=>zae (zdf.get i)) (w64 (zed+(1:Int))) zdI.len (fun i=>zaA (zdI.get i))))
 (X5 (zeC w zal zcH zbY zde.len (fun i=>zae (zde.get i)) (w64 (zed+(1:Int))) zdI.len (fun i=>zaA (zdI.get i))))):=by kernel_rfl
abbrev e89 (r:(Sl step)):List PA:=[.one (.sl r.len 5 (fun i=>zae (r.get i)))]
attribute [irreducible] zjg zl7 zjh zjj zjk zjl zjm zjn zjo
def zma (S5:Int→Bool→(Sl step)→Int→(Sl (Sl Tab))→(Sl step)) (w:web) (zal:(Sl (Sl Tab))) (zcH:Int) (zbY:Bool) (zde:(Sl step)) (zed:Int) (zdD:Bool) (zdI:(Sl (Sl Tab))) (zdf:(Sl step)):(Sl step) :=
  (cond zdD
 (S5 zcH false zdf (w64 (zed+(1:Int))) zdI)
 (S5 zcH zbY zde (w64 (zed+(1:Int))) zdI))
def zmb (P5:Int→Bool→(Sl step)→Int→(Sl (Sl Tab))→Bool) (w:web) (zal:(Sl (Sl Tab))) (zcH:Int) (zbY:Bool) (zde:(Sl step)) (zed:Int) (zdD:Bool) (zdI:(Sl (Sl Tab))) (zdf:(Sl step)):Bool :=
  (cond zdD
 (P5 zcH false zdf (w64 (zed+(1:Int))) zdI)
 (P5 zcH zbY zde (w64 (zed+(1:Int))) zdI))
theorem zu8 (K : List PA → Prop) (w : web) (zal : (Sl (Sl Tab)))
  (X5:St→Prop) (P5:Int→Bool→(Sl step)→Int→(Sl (Sl Tab))→Bool) (S5:Int→Bool→(Sl step)→Int→(Sl (Sl Tab))→(Sl step))
  (hX5:∀ (zaK:Int) (zaz:Bool) (zaN:(Sl step)) (zaQ:Int) (za9:(Sl (Sl Tab))) (zbe:Nat→List PV) (zdZ:zbe=fun i=>zae (zaN.get i)) (zbB:Nat→List PV) (ze9:zbB=fun i=>zaA (za9.get i)),P5 zaK zaz zaN zaQ za9=true→K (e89 (S5 zaK zaz zaN zaQ za9))→X5 (zeC w zal zaK zaz zaN.len zbe zaQ za9.len zbB)) (zcH:Int) (zbY:Bool) (zde:(Sl step)) (zed:Int) (zdD:Bool) (zdI:(Sl (Sl Tab))) (zdf:(Sl step)) (zfs:Nat→List PV) (zzh:zfs=fun i=>zae (zde.get i)) (zhh:Nat→List PV) (zBG:zhh=fun i=>zaA (zdI.get i)) (zft:Nat→List PV) (zzi:zft=fun i=>zae (zdf.get i)) (hs:zmb P5 w zal zcH zbY zde zed zdD zdI zdf=true) (hk:K (e89 (zma S5 w zal zcH zbY zde zed zdD zdI zdf))):zjo K X5 w zal zcH zbY zde.len zfs zed zdD zdI.len zhh zdf.len zft:=by
  subst zzh
  subst zBG
  subst zzi
  refine zbh (zBF K X5 w zal zcH zbY zde zed zdD zdI zdf) ?_
  unfold zmb at hs
  unfold zma at hk
  exact (zaP (K := fun r => K (e89 r))
 (fun hs hk=>(hX5 zcH false zdf (w64 (zed+(1:Int))) zdI (fun i=>zae (zdf.get i)) rfl (fun i=>zaA (zdI.get i)) rfl hs hk))
 (fun hs hk=>(hX5 zcH zbY zde (w64 (zed+(1:Int))) zdI (fun i=>zae (zde.get i)) rfl (fun i=>zaA (zdI.get i)) rfl hs hk)) hs hk)
def zpa (S5:Int→Bool→(Sl step)→Int→(Sl (Sl Tab))→(Sl step)) (S6:Int→Bool→(Sl step)→Int→Int→(Sl Tab)→Int→Int→Int→(Sl (Sl Tab))→(Sl step)→(Sl step)) (w:web) (zal:(Sl (Sl Tab))) (zaI:Int) (zan:Bool) (zaF:(Sl step)) (za8:Int) (iv7:Int) (hv7:(Sl Tab)) (zcj:Int) (zam:Int) (kv7:Int) (zaW:(Sl (Sl Tab))) (zay:(Sl step)):(Sl step) :=
  (S6 zaI zan zaF za8 iv7 hv7 zcj zam (w64 (kv7 - (1:Int))) zaW zay)
def zpb (P5:Int→Bool→(Sl step)→Int→(Sl (Sl Tab))→Bool) (P6:Int→Bool→(Sl step)→Int→Int→(Sl Tab)→Int→Int→Int→(Sl (Sl Tab))→(Sl step)→Bool) (w:web) (zal:(Sl (Sl Tab))) (zaI:Int) (zan:Bool) (zaF:(Sl step)) (za8:Int) (iv7:Int) (hv7:(Sl Tab)) (zcj:Int) (zam:Int) (kv7:Int) (zaW:(Sl (Sl Tab))) (zay:(Sl step)):Bool :=
  (P6 zaI zan zaF za8 iv7 hv7 zcj zam (w64 (kv7 - (1:Int))) zaW zay)
def zpc (S5:Int→Bool→(Sl step)→Int→(Sl (Sl Tab))→(Sl step)) (S6:Int→Bool→(Sl step)→Int→Int→(Sl Tab)→Int→Int→Int→(Sl (Sl Tab))→(Sl step)→(Sl step)) (w:web) (zal:(Sl (Sl Tab))) (y7:step) (S7:Int→Bool→(Sl step)→Int→Int→(Sl Tab)→Int→Int→Int→(Sl (Sl Tab))→(Sl step)→(Sl step)) (zaI:Int) (zan:Bool) (zaF:(Sl step)) (za8:Int) (iv7:Int) (hv7:(Sl Tab)) (zcj:Int) (zam:Int) (kv7:Int) (zaW:(Sl (Sl Tab))) (zay:(Sl step)):(Sl step) :=
  (cond (y7.from_ == zcj)
 (cond (decide (y7.to ≥ iv7))
 (cond (!(match ((tg 80 (hv7.get kv7.toNat) (0 + y7.to.toNat * 2 + 0)) == (1000000000000:Int)) with | true => (match ((tg 80 (hv7.get kv7.toNat) (0 + y7.to.toNat * 2 + 0 + 1)) == (0:Int)) with | true => true | false => false) | false => false))
 (cond (decide ((w64 ((w64 (zam + y7.length)) + (tg 80 (hv7.get kv7.toNat) (0 + y7.to.toNat * 2 + 0)))) < (0:Int)))
 (S6 zaI zan zaF za8 iv7 hv7 y7.to (w64 (zam+y7.length)) (w64 (kv7 - (1:Int))) zaW (⟨(zay.len+1),(zkP zay.len zay.get (fun _=>y7))⟩:Sl step))
 (S7 zaI zan zaF za8 iv7 hv7 zcj zam kv7 zaW zay))
 (S7 zaI zan zaF za8 iv7 hv7 zcj zam kv7 zaW zay))
 (S7 zaI zan zaF za8 iv7 hv7 zcj zam kv7 zaW zay))
 (S7 zaI zan zaF za8 iv7 hv7 zcj zam kv7 zaW zay))
def zpd (P5:Int→Bool→(Sl step)→Int→(Sl (Sl Tab))→Bool) (P6:Int→Bool→(Sl step)→Int→Int→(Sl Tab)→Int→Int→Int→(Sl (Sl Tab))→(Sl step)→Bool) (w:web) (zal:(Sl (Sl Tab))) (y7:step) (P7:Int→Bool→(Sl step)→Int→Int→(Sl Tab)→Int→Int→Int→(Sl (Sl Tab))→(Sl step)→Bool) (zaI:Int) (zan:Bool) (zaF:(Sl step)) (za8:Int) (iv7:Int) (hv7:(Sl Tab)) (zcj:Int) (zam:Int) (kv7:Int) (zaW:(Sl (Sl Tab))) (zay:(Sl step)):Bool :=
  (cond (y7.from_ == zcj)
 (cond (decide (y7.to ≥ iv7))
 (decide ((0≤kv7∧kv7 < (hv7.len:Int))) &&
 (decide ((0≤y7.to∧y7.to < (40:Int))) &&
 (cond (!(match ((tg 80 (hv7.get kv7.toNat) (0 + y7.to.toNat * 2 + 0)) == (1000000000000:Int)) with | true => (match ((tg 80 (hv7.get kv7.toNat) (0 + y7.to.toNat * 2 + 0 + 1)) == (0:Int)) with | true => true | false => false) | false => false))
 (decide ((0≤kv7∧kv7 < (hv7.len:Int))) &&
 (decide ((0≤y7.to∧y7.to < (40:Int))) &&
 (cond (decide ((w64 ((w64 (zam + y7.length)) + (tg 80 (hv7.get kv7.toNat) (0 + y7.to.toNat * 2 + 0)))) < (0:Int)))
 (decide (((zay.len+1) * 40≤140737488355328∧zay.len+1≤9223372036854775807)) &&
 (P6 zaI zan zaF za8 iv7 hv7 y7.to (w64 (zam+y7.length)) (w64 (kv7 - (1:Int))) zaW (⟨(zay.len+1),(zkP zay.len zay.get (fun _=>y7))⟩:Sl step)))
 (P7 zaI zan zaF za8 iv7 hv7 zcj zam kv7 zaW zay))))
 (P7 zaI zan zaF za8 iv7 hv7 zcj zam kv7 zaW zay))))
 (P7 zaI zan zaF za8 iv7 hv7 zcj zam kv7 zaW zay))
 (P7 zaI zan zaF za8 iv7 hv7 zcj zam kv7 zaW zay))
def zjq (S5 : Int → Bool → (Sl step) → Int → (Sl (Sl Tab)) → (Sl step)) (S6 : Int → Bool → (Sl step) → Int → Int → (Sl Tab) → Int → Int → Int → (Sl (Sl Tab)) → (Sl step) → (Sl step)) (w : web) (zal : (Sl (Sl Tab))) : List step → Int → Bool → (Sl step) → Int → Int → (Sl Tab) → Int → Int → Int → (Sl (Sl Tab)) → (Sl step) → (Sl step)
  | []=>zpa S5 S6 w zal
  | y :: r=>zpc S5 S6 w zal y (zjq S5 S6 w zal r)
def zjr (P5 : Int → Bool → (Sl step) → Int → (Sl (Sl Tab)) → Bool) (P6 : Int → Bool → (Sl step) → Int → Int → (Sl Tab) → Int → Int → Int → (Sl (Sl Tab)) → (Sl step) → Bool) (w : web) (zal : (Sl (Sl Tab))) : List step → Int → Bool → (Sl step) → Int → Int → (Sl Tab) → Int → Int → Int → (Sl (Sl Tab)) → (Sl step) → Bool
  | []=>zpb P5 P6 w zal
  | y :: r=>zpd P5 P6 w zal y (zjr P5 P6 w zal r)
def zu9 (S5:Int→Bool→(Sl step)→Int→(Sl (Sl Tab))→(Sl step)) (S6:Int→Bool→(Sl step)→Int→Int→(Sl Tab)→Int→Int→Int→(Sl (Sl Tab))→(Sl step)→(Sl step)) (w:web) (zal:(Sl (Sl Tab))) (zaI:Int) (zan:Bool) (zaF:(Sl step)) (za8:Int) (iv7:Int) (hv7:(Sl Tab)) (zcj:Int) (zam:Int) (kv7:Int) (zaW:(Sl (Sl Tab))) (zay:(Sl step)):(Sl step):=zjq S5 S6 w zal (zha w) zaI zan zaF za8 iv7 hv7 zcj zam kv7 zaW zay
def zpe (P5:Int→Bool→(Sl step)→Int→(Sl (Sl Tab))→Bool) (P6:Int→Bool→(Sl step)→Int→Int→(Sl Tab)→Int→Int→Int→(Sl (Sl Tab))→(Sl step)→Bool) (w:web) (zal:(Sl (Sl Tab))) (zaI:Int) (zan:Bool) (zaF:(Sl step)) (za8:Int) (iv7:Int) (hv7:(Sl Tab)) (zcj:Int) (zam:Int) (kv7:Int) (zaW:(Sl (Sl Tab))) (zay:(Sl step)):Bool:=decide ((zkj w=true)) && zjr P5 P6 w zal (zha w) zaI zan zaF za8 iv7 hv7 zcj zam kv7 zaW zay
theorem zBH (K : List PA → Prop) (w : web) (zal : (Sl (Sl Tab)))
  (X5:St→Prop) (P5:Int→Bool→(Sl step)→Int→(Sl (Sl Tab))→Bool) (S5:Int→Bool→(Sl step)→Int→(Sl (Sl Tab))→(Sl step))
  (hX5:∀ (zaK:Int) (zaz:Bool) (zaN:(Sl step)) (zaQ:Int) (za9:(Sl (Sl Tab))) (zbe:Nat→List PV) (zdZ:zbe=fun i=>zae (zaN.get i)) (zbB:Nat→List PV) (ze9:zbB=fun i=>zaA (za9.get i)),P5 zaK zaz zaN zaQ za9=true→K (e89 (S5 zaK zaz zaN zaQ za9))→X5 (zeC w zal zaK zaz zaN.len zbe zaQ za9.len zbB))
  (X6:St→Prop) (P6:Int→Bool→(Sl step)→Int→Int→(Sl Tab)→Int→Int→Int→(Sl (Sl Tab))→(Sl step)→Bool) (S6:Int→Bool→(Sl step)→Int→Int→(Sl Tab)→Int→Int→Int→(Sl (Sl Tab))→(Sl step)→(Sl step))
  (hX6:∀ (zaZ:Int) (zax:Bool) (zaL:(Sl step)) (zbE:Int) (iv6:Int) (hv6:(Sl Tab)) (zdF:Int) (zaH:Int) (kv6:Int) (zbx:(Sl (Sl Tab))) (zaO:(Sl step)) (zbD:Nat→List PV) (zfu:zbD=fun i=>zae (zaL.get i)) (zd2:Nat→List PV) (zsB:zd2=fun i=>zad (hv6.get i)) (zbV:Nat→List PV) (zhi:zbV=fun i=>zaA (zbx.get i)) (zbF:Nat→List PV) (zfv:zbF=fun i=>zae (zaO.get i)),P6 zaZ zax zaL zbE iv6 hv6 zdF zaH kv6 zbx zaO=true→K (e89 (S6 zaZ zax zaL zbE iv6 hv6 zdF zaH kv6 zbx zaO))→X6 (zgN w zal zaZ zax zaL.len zbD zbE iv6 hv6.len zd2 zdF zaH kv6 zbx.len zbV zaO.len zbF)) (zaI:Int) (zan:Bool) (zaF:(Sl step)) (za8:Int) (iv7:Int) (hv7:(Sl Tab)) (zcj:Int) (zam:Int) (kv7:Int) (zaW:(Sl (Sl Tab))) (zay:(Sl step)) (zbO:Nat→List PV) (zfw:zbO=fun i=>zae (zaF.get i)) (zeL:Nat→List PV) (zsC:zeL=fun i=>zad (hv7.get i)) (zck:Nat→List PV) (zhj:zck=fun i=>zaA (zaW.get i)) (zbP:Nat→List PV) (zfx:zbP=fun i=>zae (zay.get i)) (hs:zpe P5 P6 w zal zaI zan zaF za8 iv7 hv7 zcj zam kv7 zaW zay=true) (hk:K (e89 (zu9 S5 S6 w zal zaI zan zaF za8 iv7 hv7 zcj zam kv7 zaW zay))):zjn K X5 X6 w zal zaI zan zaF.len zbO za8 iv7 hv7.len zeL zcj zam kv7 zaW.len zck zay.len zbP:=by
  unfold zpe at hs
  rw [Bool.and_eq_true] at hs
  obtain ⟨hsf,hs⟩:=hs
  have hc:=of_decide_eq_true hsf
  refine zu7 K X5 X6 w zal zaI zan zaF.len zbO za8 iv7 hv7.len zeL zcj zam kv7 zaW.len zck zay.len zbP ⟨isE,rfl,hc⟩ ?_
  intro X7 hexit hstep
  have key:∀ (l:List step) (zaI:Int) (zan:Bool) (zaF:(Sl step)) (za8:Int) (iv7:Int) (hv7:(Sl Tab)) (zcj:Int) (zam:Int) (kv7:Int) (zaW:(Sl (Sl Tab))) (zay:(Sl step)) (zbO:Nat→List PV) (zfw:zbO=fun i=>zae (zaF.get i)) (zeL:Nat→List PV) (zsC:zeL=fun i=>zad (hv7.get i)) (zck:Nat→List PV) (zhj:zck=fun i=>zaA (zaW.get i)) (zbP:Nat→List PV) (zfx:zbP=fun i=>zae (zay.get i)),zjr P5 P6 w zal l zaI zan zaF za8 iv7 hv7 zcj zam kv7 zaW zay=true→K (e89 (zjq S5 S6 w zal l zaI zan zaF za8 iv7 hv7 zcj zam kv7 zaW zay))→X7 (l.map fun y=>[.agg (zae y)]) (zeD w zal zaI zan zaF.len zbO za8 iv7 hv7.len zeL zcj zam kv7 zaW.len zck zay.len zbP):=by
    intro l
    induction l with
    | nil =>
      intro zaI zan zaF za8 iv7 hv7 zcj zam kv7 zaW zay zbO zfw zeL zsC zck zhj zbP zfx hs hk
      subst zfw
      subst zsC
      subst zhj
      subst zfx
      refine hexit zaI zan zaF za8 iv7 hv7 zcj zam kv7 zaW zay ?_
      have hs:zpb P5 P6 w zal zaI zan zaF za8 iv7 hv7 zcj zam kv7 zaW zay=true:=hs
      have hk:K (e89 (zpa S5 S6 w zal zaI zan zaF za8 iv7 hv7 zcj zam kv7 zaW zay)):=hk
      unfold zpb at hs
      unfold zpa at hk
      exact (hX6 zaI zan zaF za8 iv7 hv7 zcj zam (w64 (kv7 - (1:Int))) zaW zay (fun i=>zae (zaF.get i)) rfl (fun i=>zad (hv7.get i)) rfl (fun i=>zaA (zaW.get i)) rfl (fun i=>zae (zay.get i)) rfl hs hk)
    | cons y7 l ih =>
      intro zaI zan zaF za8 iv7 hv7 zcj zam kv7 zaW zay zbO zfw zeL zsC zck zhj zbP zfx hs hk
      subst zfw
      subst zsC
      subst zhj
      subst zfx
      refine hstep y7 _ zaI zan zaF za8 iv7 hv7 zcj zam kv7 zaW zay ?_
      have hs:zpd P5 P6 w zal y7 (zjr P5 P6 w zal l) zaI zan zaF za8 iv7 hv7 zcj zam kv7 zaW zay=true:=hs
      have hk:K (e89 (zpc S5 S6 w zal y7 (zjq S5 S6 w zal l) zaI zan zaF za8 iv7 hv7 zcj zam kv7 zaW zay)):=hk
      unfold zpd at hs
      unfold zpc at hk
      generalize zjq S5 S6 w zal l=S7 at hk ih
      generalize zjr P5 P6 w zal l=P7 at hs ih
      have hX7:=ih
      exact (zaP (K := fun r => K (e89 r))
 (fun hs hk => (zaP (K := fun r => K (e89 r))
 (fun hs hk => (za7 hs fun hc hs => ⟨hc, (za7 hs fun hc hs => ⟨hc, (zaP (K := fun r => K (e89 r))
 (fun hs hk => (za7 hs fun hc hs => ⟨hc, (za7 hs fun hc hs => ⟨hc, (zaP (K := fun r => K (e89 r))
 (fun hs hk=>(za7 hs fun hc hs=>⟨hc,(hX6 zaI zan zaF za8 iv7 hv7 y7.to (w64 (zam+y7.length)) (w64 (kv7 - (1:Int))) zaW (⟨(zay.len+1),(zkP zay.len zay.get (fun _=>y7))⟩:Sl step) (fun i=>zae (zaF.get i)) rfl (fun i=>zad (hv7.get i)) rfl (fun i=>zaA (zaW.get i)) rfl (appG zay.len (fun i=>zae (zay.get i)) (fun _=>(zae y7))) (zi3 (enc:=zae) (f:=zay.get) (h:=(fun _=>y7)) rfl rfl) hs hk)⟩))
 (fun hs hk=>(hX7 zaI zan zaF za8 iv7 hv7 zcj zam kv7 zaW zay (fun i=>zae (zaF.get i)) rfl (fun i=>zad (hv7.get i)) rfl (fun i=>zaA (zaW.get i)) rfl (fun i=>zae (zay.get i)) rfl hs hk)) hs hk)⟩)⟩))
 (fun hs hk=>(hX7 zaI zan zaF za8 iv7 hv7 zcj zam kv7 zaW zay (fun i=>zae (zaF.get i)) rfl (fun i=>zad (hv7.get i)) rfl (fun i=>zaA (zaW.get i)) rfl (fun i=>zae (zay.get i)) rfl hs hk)) hs hk)⟩)⟩))
 (fun hs hk=>(hX7 zaI zan zaF za8 iv7 hv7 zcj zam kv7 zaW zay (fun i=>zae (zaF.get i)) rfl (fun i=>zad (hv7.get i)) rfl (fun i=>zaA (zaW.get i)) rfl (fun i=>zae (zay.get i)) rfl hs hk)) hs hk))
 (fun hs hk=>(hX7 zaI zan zaF za8 iv7 hv7 zcj zam kv7 zaW zay (fun i=>zae (zaF.get i)) rfl (fun i=>zad (hv7.get i)) rfl (fun i=>zaA (zaW.get i)) rfl (fun i=>zae (zay.get i)) rfl hs hk)) hs hk)
  exact key _ zaI zan zaF za8 iv7 hv7 zcj zam kv7 zaW zay zbO zfw zeL zsC zck zhj zbP zfx hs hk
def zpf (S5:Int→Bool→(Sl step)→Int→(Sl (Sl Tab))→(Sl step)) (w:web) (zal:(Sl (Sl Tab))) (S6:Int→Bool→(Sl step)→Int→Int→(Sl Tab)→Int→Int→Int→(Sl (Sl Tab))→(Sl step)→(Sl step)) (zaZ:Int) (zax:Bool) (zaL:(Sl step)) (zbE:Int) (iv6:Int) (hv6:(Sl Tab)) (zdF:Int) (zaH:Int) (kv6:Int) (zbx:(Sl (Sl Tab))) (zaO:(Sl step)):(Sl step) :=
  (cond (decide (kv6 ≥ (0:Int)))
 (zu9 S5 S6 w zal zaZ zax zaL zbE iv6 hv6 zdF zaH kv6 zbx zaO)
 (cond zax
 (zma S5 w zal zaZ zax zaL zbE true zbx zaO)
 (zma S5 w zal zaZ zax zaL zbE (decide ((zDK zaO zaL) < (0:Int))) zbx zaO)))
def zpg (P5:Int→Bool→(Sl step)→Int→(Sl (Sl Tab))→Bool) (w:web) (zal:(Sl (Sl Tab))) (P6:Int→Bool→(Sl step)→Int→Int→(Sl Tab)→Int→Int→Int→(Sl (Sl Tab))→(Sl step)→Bool) (zaZ:Int) (zax:Bool) (zaL:(Sl step)) (zbE:Int) (iv6:Int) (hv6:(Sl Tab)) (zdF:Int) (zaH:Int) (kv6:Int) (zbx:(Sl (Sl Tab))) (zaO:(Sl step)):Bool :=
  (cond (decide (kv6 ≥ (0:Int)))
 (zpe P5 P6 w zal zaZ zax zaL zbE iv6 hv6 zdF zaH kv6 zbx zaO)
 (decide ((zax=true∨zaL.len ≠ 0)) &&
 (cond zax
 (zmb P5 w zal zaZ zax zaL zbE true zbx zaO)
 (decide ((zGh zaO zaL=true)) &&
 (zmb P5 w zal zaZ zax zaL zbE (decide ((zDK zaO zaL) < (0:Int))) zbx zaO)))))
def zjs (S5 : Int → Bool → (Sl step) → Int → (Sl (Sl Tab)) → (Sl step)) (w : web) (zal : (Sl (Sl Tab))) : Nat → Int → Bool → (Sl step) → Int → Int → (Sl Tab) → Int → Int → Int → (Sl (Sl Tab)) → (Sl step) → (Sl step)
  | 0=>fun _ _ _ _ _ _ _ _ _ _ _=>default
  | k+1=>zpf S5 w zal (zjs S5 w zal k)
def zjt (P5 : Int → Bool → (Sl step) → Int → (Sl (Sl Tab)) → Bool) (w : web) (zal : (Sl (Sl Tab))) : Nat → Int → Bool → (Sl step) → Int → Int → (Sl Tab) → Int → Int → Int → (Sl (Sl Tab)) → (Sl step) → Bool
  | 0=>fun _ _ _ _ _ _ _ _ _ _ _=>false
  | k+1=>zpg P5 w zal (zjt P5 w zal k)
def zva (S5:Int→Bool→(Sl step)→Int→(Sl (Sl Tab))→(Sl step)) (w:web) (zal:(Sl (Sl Tab))) (zaZ:Int) (zax:Bool) (zaL:(Sl step)) (zbE:Int) (iv6:Int) (hv6:(Sl Tab)) (zdF:Int) (zaH:Int) (kv6:Int) (zbx:(Sl (Sl Tab))) (zaO:(Sl step)):(Sl step):=zjs S5 w zal Fuel zaZ zax zaL zbE iv6 hv6 zdF zaH kv6 zbx zaO
def zvb (P5:Int→Bool→(Sl step)→Int→(Sl (Sl Tab))→Bool) (w:web) (zal:(Sl (Sl Tab))) (zaZ:Int) (zax:Bool) (zaL:(Sl step)) (zbE:Int) (iv6:Int) (hv6:(Sl Tab)) (zdF:Int) (zaH:Int) (kv6:Int) (zbx:(Sl (Sl Tab))) (zaO:(Sl step)):Bool:=zjt P5 w zal Fuel zaZ zax zaL zbE iv6 hv6 zdF zaH kv6 zbx zaO
theorem zBI (K : List PA → Prop) (w : web) (zal : (Sl (Sl Tab)))
  (X5:St→Prop) (P5:Int→Bool→(Sl step)→Int→(Sl (Sl Tab))→Bool) (S5:Int→Bool→(Sl step)→Int→(Sl (Sl Tab))→(Sl step))
  (hX5:∀ (zaK:Int) (zaz:Bool) (zaN:(Sl step)) (zaQ:Int) (za9:(Sl (Sl Tab))) (zbe:Nat→List PV) (zdZ:zbe=fun i=>zae (zaN.get i)) (zbB:Nat→List PV) (ze9:zbB=fun i=>zaA (za9.get i)),P5 zaK zaz zaN zaQ za9=true→K (e89 (S5 zaK zaz zaN zaQ za9))→X5 (zeC w zal zaK zaz zaN.len zbe zaQ za9.len zbB)) (zaZ:Int) (zax:Bool) (zaL:(Sl step)) (zbE:Int) (iv6:Int) (hv6:(Sl Tab)) (zdF:Int) (zaH:Int) (kv6:Int) (zbx:(Sl (Sl Tab))) (zaO:(Sl step)) (zbD:Nat→List PV) (zfu:zbD=fun i=>zae (zaL.get i)) (zd2:Nat→List PV) (zsB:zd2=fun i=>zad (hv6.get i)) (zbV:Nat→List PV) (zhi:zbV=fun i=>zaA (zbx.get i)) (zbF:Nat→List PV) (zfv:zbF=fun i=>zae (zaO.get i)) (hs:zvb P5 w zal zaZ zax zaL zbE iv6 hv6 zdF zaH kv6 zbx zaO=true) (hk:K (e89 (zva S5 w zal zaZ zax zaL zbE iv6 hv6 zdF zaH kv6 zbx zaO))):zjm K X5 w zal zaZ zax zaL.len zbD zbE iv6 hv6.len zd2 zdF zaH kv6 zbx.len zbV zaO.len zbF:=by
  refine zu6 K X5 w zal zaZ zax zaL.len zbD zbE iv6 hv6.len zd2 zdF zaH kv6 zbx.len zbV zaO.len zbF ?_
  intro X6 hstep
  have key:∀ (k:Nat) (zaZ:Int) (zax:Bool) (zaL:(Sl step)) (zbE:Int) (iv6:Int) (hv6:(Sl Tab)) (zdF:Int) (zaH:Int) (kv6:Int) (zbx:(Sl (Sl Tab))) (zaO:(Sl step)) (zbD:Nat→List PV) (zfu:zbD=fun i=>zae (zaL.get i)) (zd2:Nat→List PV) (zsB:zd2=fun i=>zad (hv6.get i)) (zbV:Nat→List PV) (zhi:zbV=fun i=>zaA (zbx.get i)) (zbF:Nat→List PV) (zfv:zbF=fun i=>zae (zaO.get i)),zjt P5 w zal k zaZ zax zaL zbE iv6 hv6 zdF zaH kv6 zbx zaO=true→K (e89 (zjs S5 w zal k zaZ zax zaL zbE iv6 hv6 zdF zaH kv6 zbx zaO))→X6 (zgN w zal zaZ zax zaL.len zbD zbE iv6 hv6.len zd2 zdF zaH kv6 zbx.len zbV zaO.len zbF):=by
    intro k
    induction k with
    | zero=>intro zaZ zax zaL zbE iv6 hv6 zdF zaH kv6 zbx zaO zbD zfu zd2 zsB zbV zhi zbF zfv hs;exact absurd hs Bool.false_ne_true
    | succ k ih =>
      intro zaZ zax zaL zbE iv6 hv6 zdF zaH kv6 zbx zaO zbD zfu zd2 zsB zbV zhi zbF zfv hs hk
      subst zfu
      subst zsB
      subst zhi
      subst zfv
      refine hstep zaZ zax zaL zbE iv6 hv6 zdF zaH kv6 zbx zaO ?_
      have hs:zpg P5 w zal (zjt P5 w zal k) zaZ zax zaL zbE iv6 hv6 zdF zaH kv6 zbx zaO=true:=hs
      have hk:K (e89 (zpf S5 w zal (zjs S5 w zal k) zaZ zax zaL zbE iv6 hv6 zdF zaH kv6 zbx zaO)):=hk
      unfold zpg at hs
      unfold zpf at hk
      generalize zjs S5 w zal k=S6 at hk ih
      generalize zjt P5 w zal k=P6 at hs ih
      have hX6:=ih
      exact (zaP (K := fun r => K (e89 r))
 (fun hs hk=>⟨⟨isE,rfl⟩,(zBH K w zal X5 P5 S5 hX5 X6 P6 S6 hX6 zaZ zax zaL zbE iv6 hv6 zdF zaH kv6 zbx zaO (fun i=>zae (zaL.get i)) rfl (fun i=>zad (hv6.get i)) rfl (fun i=>zaA (zbx.get i)) rfl (fun i=>zae (zaO.get i)) rfl hs hk)⟩)
 (fun hs hk => (za7 hs fun hc hs => ⟨hc, (zaP (K := fun r => K (e89 r))
 (fun hs hk=>(zu8 K w zal X5 P5 S5 hX5 zaZ zax zaL zbE true zbx zaO (fun i=>zae (zaL.get i)) rfl (fun i=>zaA (zbx.get i)) rfl (fun i=>zae (zaO.get i)) rfl hs hk))
 (fun hs hk=>(za7 hs fun hc hs=>⟨⟨isE,isE,hc⟩,(zu8 K w zal X5 P5 S5 hX5 zaZ zax zaL zbE (decide ((zDK zaO zaL) < (0:Int))) zbx zaO (fun i=>zae (zaL.get i)) rfl (fun i=>zaA (zbx.get i)) rfl (fun i=>zae (zaO.get i)) rfl hs hk)⟩)) hs hk)⟩)) hs hk)
  exact key _ zaZ zax zaL zbE iv6 hv6 zdF zaH kv6 zbx zaO zbD zfu zd2 zsB zbV zhi zbF zfv hs hk
def zph (w:web) (zal:(Sl (Sl Tab))) (S5:Int→Bool→(Sl step)→Int→(Sl (Sl Tab))→(Sl step)) (zaK:Int) (zaz:Bool) (zaN:(Sl step)) (zaQ:Int) (za9:(Sl (Sl Tab))):(Sl step) :=
  (cond (decide (zaQ < (zal.len : Int)))
 (cond (decide ((tg 80 ((za9.get zaQ.toNat).get zaK.toNat) (0 + zaQ.toNat * 2 + 0)) ≥ (0:Int)))
 (S5 zaK zaz zaN (w64 (zaQ+(1:Int))) za9)
 (zva S5 w zal zaK zaz zaN zaQ zaQ (za9.get zaQ.toNat) zaQ (0:Int) (w64 (zaK - (1:Int))) za9 (⟨0,(fun _=>default)⟩:Sl step)))
 zaN)
def zpi (w:web) (zal:(Sl (Sl Tab))) (P5:Int→Bool→(Sl step)→Int→(Sl (Sl Tab))→Bool) (zaK:Int) (zaz:Bool) (zaN:(Sl step)) (zaQ:Int) (za9:(Sl (Sl Tab))):Bool :=
  (cond (decide (zaQ < (zal.len : Int)))
 (decide ((0≤zaQ∧zaQ < (za9.len:Int))) &&
 (decide ((zaQ.toNat < za9.len)) &&
 (decide ((0≤zaK∧zaK < ((za9.get zaQ.toNat).len:Int))) &&
 (decide ((0≤zaQ∧zaQ < (40:Int))) &&
 (cond (decide ((tg 80 ((za9.get zaQ.toNat).get zaK.toNat) (0 + zaQ.toNat * 2 + 0)) ≥ (0:Int)))
 (P5 zaK zaz zaN (w64 (zaQ+(1:Int))) za9)
 (zvb P5 w zal zaK zaz zaN zaQ zaQ (za9.get zaQ.toNat) zaQ (0:Int) (w64 (zaK - (1:Int))) za9 (⟨0,(fun _=>default)⟩:Sl step)))))))
 true)
def zju (w : web) (zal : (Sl (Sl Tab))) : Nat → Int → Bool → (Sl step) → Int → (Sl (Sl Tab)) → (Sl step)
  | 0=>fun _ _ _ _ _=>default
  | k+1=>zph w zal (zju w zal k)
def zjv (w : web) (zal : (Sl (Sl Tab))) : Nat → Int → Bool → (Sl step) → Int → (Sl (Sl Tab)) → Bool
  | 0=>fun _ _ _ _ _=>false
  | k+1=>zpi w zal (zjv w zal k)
def zvc (w:web) (zal:(Sl (Sl Tab))) (zaK:Int) (zaz:Bool) (zaN:(Sl step)) (zaQ:Int) (za9:(Sl (Sl Tab))):(Sl step):=zju w zal Fuel zaK zaz zaN zaQ za9
def zvd (w:web) (zal:(Sl (Sl Tab))) (zaK:Int) (zaz:Bool) (zaN:(Sl step)) (zaQ:Int) (za9:(Sl (Sl Tab))):Bool:=zjv w zal Fuel zaK zaz zaN zaQ za9
theorem zBJ (K:List PA→Prop) (w:web) (zal:(Sl (Sl Tab))) (zaK:Int) (zaz:Bool) (zaN:(Sl step)) (zaQ:Int) (za9:(Sl (Sl Tab))) (zbe:Nat→List PV) (zdZ:zbe=fun i=>zae (zaN.get i)) (zbB:Nat→List PV) (ze9:zbB=fun i=>zaA (za9.get i)) (hs:zvd w zal zaK zaz zaN zaQ za9=true) (hk:K (e89 (zvc w zal zaK zaz zaN zaQ za9))):zjl K w zal zaK zaz zaN.len zbe zaQ za9.len zbB:=by
  refine zu5 K w zal zaK zaz zaN.len zbe zaQ za9.len zbB ?_
  intro X5 hstep
  have key:∀ (k:Nat) (zaK:Int) (zaz:Bool) (zaN:(Sl step)) (zaQ:Int) (za9:(Sl (Sl Tab))) (zbe:Nat→List PV) (zdZ:zbe=fun i=>zae (zaN.get i)) (zbB:Nat→List PV) (ze9:zbB=fun i=>zaA (za9.get i)),zjv w zal k zaK zaz zaN zaQ za9=true→K (e89 (zju w zal k zaK zaz zaN zaQ za9))→X5 (zeC w zal zaK zaz zaN.len zbe zaQ za9.len zbB):=by
    intro k
    induction k with
    | zero=>intro zaK zaz zaN zaQ za9 zbe zdZ zbB ze9 hs;exact absurd hs Bool.false_ne_true
    | succ k ih =>
      intro zaK zaz zaN zaQ za9 zbe zdZ zbB ze9 hs hk
      subst zdZ
      subst ze9
      refine hstep zaK zaz zaN zaQ za9 ?_
      have hs:zpi w zal (zjv w zal k) zaK zaz zaN zaQ za9=true:=hs
      have hk:K (e89 (zph w zal (zju w zal k) zaK zaz zaN zaQ za9)):=hk
      unfold zpi at hs
      unfold zph at hk
      generalize zju w zal k=S5 at hk ih
      generalize zjv w zal k=P5 at hs ih
      have hX5:=ih
      exact (zaP (K := fun r => K (e89 r))
 (fun hs hk => (za7 hs fun hc hs => ⟨hc, (za7 hs fun hc hs => ⟨hc, (za7 hs fun hc hs => ⟨hc, (za7 hs fun hc hs => ⟨hc, (zaP (K := fun r => K (e89 r))
 (fun hs hk=>(hX5 zaK zaz zaN (w64 (zaQ+(1:Int))) za9 (fun i=>zae (zaN.get i)) rfl (fun i=>zaA (za9.get i)) rfl hs hk))
 (fun hs hk=>(zBI K w zal X5 P5 S5 hX5 zaK zaz zaN zaQ zaQ (za9.get zaQ.toNat) zaQ (0:Int) (w64 (zaK - (1:Int))) za9 (⟨0,(fun _=>default)⟩:Sl step) (fun i=>zae (zaN.get i)) rfl (fun i=>zad ((za9.get zaQ.toNat).get i)) rfl (fun i=>zaA (za9.get i)) rfl (fun i=>zae ((fun _=>default) i)) rfl hs hk)) hs hk)⟩)⟩)⟩)⟩))
 (fun hs hk=>hk) hs hk)
  exact key _ zaK zaz zaN zaQ za9 zbe zdZ zbB ze9 hs hk
def zmc (w:web) (zdd:Int) (zal:(Sl (Sl Tab))):(Sl step) :=
  (zvc w zal zdd true (⟨0,(fun _=>default)⟩:Sl step) (0:Int) zal)
def zmd (w:web) (zdd:Int) (zal:(Sl (Sl Tab))):Bool :=
  (zvd w zal zdd true (⟨0,(fun _=>default)⟩:Sl step) (0:Int) zal)
theorem zve (K:List PA→Prop) (w:web) (zdd:Int) (zal:(Sl (Sl Tab))) (zhg:Nat→List PV) (zBK:zhg=fun i=>zaA (zal.get i)) (hs:zmd w zdd zal=true) (hk:K (e89 (zmc w zdd zal))):zjk K w zdd zal.len zhg:=by
  subst zBK
  refine zbh (zBE K w zdd zal) ?_
  unfold zmd at hs
  unfold zmc at hk
  exact (zBJ K w zal zdd true (⟨0,(fun _=>default)⟩:Sl step) (0:Int) zal (fun i=>zae ((fun _=>default) i)) rfl (fun i=>zaA (zal.get i)) rfl hs hk)
def zpj (S2:Int→(Sl step)) (w:web) (zaE:(Sl (Sl Tab))) (S3:Int→Int→(Sl step)) (zaV:Int) (zbp:Int):(Sl step) :=
  (cond (decide (zbp < (zaE.len : Int)))
 (cond (decide ((tg 80 ((zaE.get zbp.toNat).get zaV.toNat) (0 + zbp.toNat * 2 + 0)) < (0:Int)))
 (zmc w zaV zaE)
 (S3 zaV (w64 (zbp+(1:Int)))))
 (S2 (w64 (zaV+(1:Int)))))
def zpk (P2:Int→Bool) (w:web) (zaE:(Sl (Sl Tab))) (P3:Int→Int→Bool) (zaV:Int) (zbp:Int):Bool :=
  (cond (decide (zbp < (zaE.len : Int)))
 (decide ((0≤zbp∧zbp < (zaE.len:Int))) &&
 (decide ((zbp.toNat < zaE.len)) &&
 (decide ((0≤zaV∧zaV < ((zaE.get zbp.toNat).len:Int))) &&
 (decide ((0≤zbp∧zbp < (40:Int))) &&
 (cond (decide ((tg 80 ((zaE.get zbp.toNat).get zaV.toNat) (0 + zbp.toNat * 2 + 0)) < (0:Int)))
 (zmd w zaV zaE)
 (P3 zaV (w64 (zbp+(1:Int)))))))))
 (P2 (w64 (zaV+(1:Int)))))
def zjw (S2 : Int → (Sl step)) (w : web) (zaE : (Sl (Sl Tab))) : Nat → Int → Int → (Sl step)
  | 0=>fun _ _=>default
  | k+1=>zpj S2 w zaE (zjw S2 w zaE k)
def zjx (P2 : Int → Bool) (w : web) (zaE : (Sl (Sl Tab))) : Nat → Int → Int → Bool
  | 0=>fun _ _=>false
  | k+1=>zpk P2 w zaE (zjx P2 w zaE k)
def zvf (S2:Int→(Sl step)) (w:web) (zaE:(Sl (Sl Tab))) (zaV:Int) (zbp:Int):(Sl step):=zjw S2 w zaE Fuel zaV zbp
def zvg (P2:Int→Bool) (w:web) (zaE:(Sl (Sl Tab))) (zaV:Int) (zbp:Int):Bool:=zjx P2 w zaE Fuel zaV zbp
theorem zBL (K : List PA → Prop) (w : web) (zaE : (Sl (Sl Tab)))
  (X2:St→Prop) (P2:Int→Bool) (S2:Int→(Sl step))
  (hX2:∀ (za1:Int),P2 za1=true→K (e89 (S2 za1))→X2 (zhI w zaE za1)) (zaV:Int) (zbp:Int) (hs:zvg P2 w zaE zaV zbp=true) (hk:K (e89 (zvf S2 w zaE zaV zbp))):zjj K X2 w zaE zaV zbp:=by
  refine zu4 K X2 w zaE zaV zbp ?_
  intro X3 hstep
  have key:∀ (k:Nat) (zaV:Int) (zbp:Int),zjx P2 w zaE k zaV zbp=true→K (e89 (zjw S2 w zaE k zaV zbp))→X3 (zji w zaE zaV zbp):=by
    intro k
    induction k with
    | zero=>intro zaV zbp hs;exact absurd hs Bool.false_ne_true
    | succ k ih =>
      intro zaV zbp hs hk
      refine hstep zaV zbp ?_
      have hs:zpk P2 w zaE (zjx P2 w zaE k) zaV zbp=true:=hs
      have hk:K (e89 (zpj S2 w zaE (zjw S2 w zaE k) zaV zbp)):=hk
      unfold zpk at hs
      unfold zpj at hk
      generalize zjw S2 w zaE k=S3 at hk ih
      generalize zjx P2 w zaE k=P3 at hs ih
      have hX3:=ih
      exact (zaP (K := fun r => K (e89 r))
 (fun hs hk => (za7 hs fun hc hs => ⟨hc, (za7 hs fun hc hs => ⟨hc, (za7 hs fun hc hs => ⟨hc, (za7 hs fun hc hs => ⟨hc, (zaP (K := fun r => K (e89 r))
 (fun hs hk=>(zve K w zaV zaE (fun i=>zaA (zaE.get i)) rfl hs hk))
 (fun hs hk=>(hX3 zaV (w64 (zbp+(1:Int))) hs hk)) hs hk)⟩)⟩)⟩)⟩))
 (fun hs hk=>(hX2 (w64 (zaV+(1:Int))) hs hk)) hs hk)
  exact key _ zaV zbp hs hk
def zpl (w:web) (zaE:(Sl (Sl Tab))) (S2:Int→(Sl step)) (za1:Int):(Sl step) :=
  (cond (decide (za1 < w.Net.Nodes))
 (zvf S2 w zaE za1 (0:Int))
 (zmc w za1 zaE))
def zpm (w:web) (zaE:(Sl (Sl Tab))) (P2:Int→Bool) (za1:Int):Bool :=
  (cond (decide (za1 < w.Net.Nodes))
 (zvg P2 w zaE za1 (0:Int))
 (zmd w za1 zaE))
def zjy (w : web) (zaE : (Sl (Sl Tab))) : Nat → Int → (Sl step)
  | 0=>fun _=>default
  | k+1=>zpl w zaE (zjy w zaE k)
def zjz (w : web) (zaE : (Sl (Sl Tab))) : Nat → Int → Bool
  | 0=>fun _=>false
  | k+1=>zpm w zaE (zjz w zaE k)
def zvh (w:web) (zaE:(Sl (Sl Tab))) (za1:Int):(Sl step):=zjy w zaE Fuel za1
def zvi (w:web) (zaE:(Sl (Sl Tab))) (za1:Int):Bool:=zjz w zaE Fuel za1
theorem zBM (K:List PA→Prop) (w:web) (zaE:(Sl (Sl Tab))) (za1:Int) (hs:zvi w zaE za1=true) (hk:K (e89 (zvh w zaE za1))):zjh K w zaE za1:=by
  refine zu3 K w zaE za1 ?_
  intro X2 hstep
  have key:∀ (k:Nat) (za1:Int),zjz w zaE k za1=true→K (e89 (zjy w zaE k za1))→X2 (zhI w zaE za1):=by
    intro k
    induction k with
    | zero=>intro za1 hs;exact absurd hs Bool.false_ne_true
    | succ k ih =>
      intro za1 hs hk
      refine hstep za1 ?_
      have hs:zpm w zaE (zjz w zaE k) za1=true:=hs
      have hk:K (e89 (zpl w zaE (zjy w zaE k) za1)):=hk
      unfold zpm at hs
      unfold zpl at hk
      generalize zjy w zaE k=S2 at hk ih
      generalize zjz w zaE k=P2 at hs ih
      have hX2:=ih
      exact (zaP (K := fun r => K (e89 r))
 (fun hs hk=>(zBL K w zaE X2 P2 S2 hX2 za1 (0:Int) hs hk))
 (fun hs hk=>(zve K w za1 zaE (fun i=>zaA (zaE.get i)) rfl hs hk)) hs hk)
  exact key _ za1 hs hk
def zpn (w:web) (zaE:(Sl (Sl Tab))):(Sl step) :=
  (zvh w zaE (1:Int))
def zpo (w:web) (zaE:(Sl (Sl Tab))):Bool :=
  (zvi w zaE (1:Int))
theorem zBN (K:List PA→Prop) (w:web) (zaE:(Sl (Sl Tab))) (zhf:Nat→List PV) (zBO:zhf=fun i=>zaA (zaE.get i)) (hs:zpo w zaE=true) (hk:K (e89 (zpn w zaE))):zl7 K w zaE.len zhf:=by
  subst zBO
  refine zbh (zBD K w zaE) ?_
  unfold zpo at hs
  unfold zpn at hk
  exact (zBM K w zaE (1:Int) hs hk)
def zpp (w:web) (S0:Int→(Sl (Sl Tab))→(Sl step)) (zbi:Int) (zbI:(Sl (Sl Tab))):(Sl step) :=
  (cond (decide (zbi < (w.Net.Nodes.toNat : Int)))
 (S0 (w64 (zbi+(1:Int))) (⟨zbI.len,(setT zbi.toNat (zuL w zbi w.Net.Nodes) zbI.get)⟩:Sl (Sl Tab)))
 (zpn w zbI))
def zpq (w:web) (P0:Int→(Sl (Sl Tab))→Bool) (zbi:Int) (zbI:(Sl (Sl Tab))):Bool :=
  (cond (decide (zbi < (w.Net.Nodes.toNat : Int)))
 (decide ((zEP w zbi w.Net.Nodes=true)) &&
 (decide ((0≤zbi∧zbi < (zbI.len:Int))) &&
 (decide ((zbi.toNat < zbI.len)) &&
 (P0 (w64 (zbi+(1:Int))) (⟨zbI.len,(setT zbi.toNat (zuL w zbi w.Net.Nodes) zbI.get)⟩:Sl (Sl Tab))))))
 (zpo w zbI))
def zjA (w : web) : Nat → Int → (Sl (Sl Tab)) → (Sl step)
  | 0=>fun _ _=>default
  | k+1=>zpp w (zjA w k)
def zjB (w : web) : Nat → Int → (Sl (Sl Tab)) → Bool
  | 0=>fun _ _=>false
  | k+1=>zpq w (zjB w k)
def zvj (w:web) (zbi:Int) (zbI:(Sl (Sl Tab))):(Sl step):=zjA w Fuel zbi zbI
def zvk (w:web) (zbi:Int) (zbI:(Sl (Sl Tab))):Bool:=zjB w Fuel zbi zbI
theorem zBP (K:List PA→Prop) (w:web) (zbi:Int) (zbI:(Sl (Sl Tab))) (zci:Nat→List PV) (zjC:zci=fun i=>zaA (zbI.get i)) (hs:zvk w zbi zbI=true) (hk:K (e89 (zvj w zbi zbI))):zjg K w zbi zbI.len zci:=by
  refine zu1 K w zbi zbI.len zci ?_
  intro X0 hstep
  have key:∀ (k:Nat) (zbi:Int) (zbI:(Sl (Sl Tab))) (zci:Nat→List PV) (zjC:zci=fun i=>zaA (zbI.get i)),zjB w k zbi zbI=true→K (e89 (zjA w k zbi zbI))→X0 (zjf w zbi zbI.len zci):=by
    intro k
    induction k with
    | zero=>intro zbi zbI zci zjC hs;exact absurd hs Bool.false_ne_true
    | succ k ih =>
      intro zbi zbI zci zjC hs hk
      subst zjC
      refine hstep zbi zbI ?_
      have hs:zpq w (zjB w k) zbi zbI=true:=hs
      have hk:K (e89 (zpp w (zjA w k) zbi zbI)):=hk
      unfold zpq at hs
      unfold zpp at hk
      generalize zjA w k=S0 at hk ih
      generalize zjB w k=P0 at hs ih
      have hX0:=ih
      exact (zaP (K := fun r => K (e89 r))
 (fun hs hk=>(za7 hs fun hc hs=>⟨⟨isE,rfl,hc⟩,(za7 hs fun hc hs=>⟨hc,(za7 hs fun hc hs=>⟨hc,(hX0 (w64 (zbi+(1:Int))) (⟨zbI.len,(setT zbi.toNat (zuL w zbi w.Net.Nodes) zbI.get)⟩:Sl (Sl Tab)) (zhT zbi.toNat 0 (fun i=>zaA (zbI.get i)) (zaA (zuL w zbi w.Net.Nodes))) (zkQ (enc:=zaA) (i:=zbi.toNat) (k:=0) (f:=zbI.get) (new:=(zaA (zuL w zbi w.Net.Nodes))) (v:=(zuL w zbi w.Net.Nodes)) rfl rfl) hs hk)⟩)⟩)⟩))
 (fun hs hk=>(zBN K w zbI (fun i=>zaA (zbI.get i)) rfl hs hk)) hs hk)
  exact key _ zbi zbI zci zjC hs hk
def s89 (w:web):(Sl step) :=
  (zvj w (0:Int) (⟨w.Net.Nodes.toNat,(fun _=>(⟨0,fun _=>(fun _=>(0:Int))⟩:(Sl Tab)))⟩:Sl (Sl Tab)))
def p89 (w:web):Bool :=
  (decide ((0≤w.Net.Nodes∧w.Net.Nodes=w.Net.Nodes∧w.Net.Nodes≤1000000)) &&
 (zvk w (0:Int) (⟨w.Net.Nodes.toNat,(fun _=>(⟨0,fun _=>(fun _=>(0:Int))⟩:(Sl Tab)))⟩:Sl (Sl Tab))))
theorem q89 (w:web) (K:List PA→Prop) (hs:p89 w=true) (hk:K (e89 (s89 w))):vcFun Tryd.prog G89 zaM 89 [.one (.fp (zaw w) 0)] K:=by
  refine zbh (zBC w K) ?_
  unfold p89 at hs
  unfold s89 at hk
  exact (za7 hs fun hc hs=>⟨hc,(zBP K w (0:Int) (⟨w.Net.Nodes.toNat,(fun _=>(⟨0,fun _=>(fun _=>(0:Int))⟩:(Sl Tab)))⟩:Sl (Sl Tab)) (fun _=>(zaA (⟨0,fun _=>(fun _=>(0:Int))⟩:(Sl Tab)))) rfl hs hk)⟩)
def zzj : List PA → COut
  | [.one (.fp [.int .i64 a0_Net_Nodes,.sl a0_Net_Ties_n a0_Net_Ties_s a0_Net_Ties_g,.fm a0_out_q a0_out_n a0_out_F] 0)]=>.det (IsE zaj 4 a0_Net_Ties_s a0_Net_Ties_g∧a0_out_q=(false,1,false,[none])∧p89 (⟨(⟨a0_Net_Nodes,(⟨a0_Net_Ties_n,zaa a0_Net_Ties_g⟩:(Sl Tie))⟩:Net),(⟨a0_out_n,a0_out_F⟩:Mp)⟩:web)=true) [.one (.sl ((s89 (⟨(⟨a0_Net_Nodes,(⟨a0_Net_Ties_n,zaa a0_Net_Ties_g⟩:(Sl Tie))⟩:Net),(⟨a0_out_n,a0_out_F⟩:Mp)⟩:web)).len) 5 (fun i=>zae ((s89 (⟨(⟨a0_Net_Nodes,(⟨a0_Net_Ties_n,zaa a0_Net_Ties_g⟩:(Sl Tie))⟩:Net),(⟨a0_out_n,a0_out_F⟩:Mp)⟩:web)).get i)))]
  | _=>.no
theorem zE2:zas Tryd.prog 89:=⟨_,rfl,rfl,by kernel_rfl⟩
theorem zHR:Ok Tryd.prog 89 zzj:=zbJ zGQ zE2 fun args K h=>by
  unfold zzj at h
  split at h
  · rename_i a0_Net_Nodes a0_Net_Ties_n a0_Net_Ties_s a0_Net_Ties_g a0_out_q a0_out_n a0_out_F
    obtain ⟨⟨⟨rfl,a0_Net_Ties_f,rfl⟩,rfl,hs⟩,hk⟩:=h
    try rw [zar a0_Net_Ties_f] at hs
    try rw [zar a0_Net_Ties_f] at hk
    exact ⟨(fun _ _=>[]),(fun _=>false),zaM,q89 (⟨(⟨a0_Net_Nodes,(⟨a0_Net_Ties_n,a0_Net_Ties_f⟩:(Sl Tie))⟩:Net),(⟨a0_out_n,a0_out_F⟩:Mp)⟩:web) K hs hk⟩
  · exact h.elim
end Go.Proofs
/-
  DERIVED: THE SHELF's CONTRACTS AT THIS DUMP,IN PLAIN WORDS (tools/lay-plain.mjs out of 'YtedhjaaikeakoaaDoorPmLk.lean',which tools/lay-shelf.mjs wrote): THE SAME DECLARATIONS UNDER THE SAME NAMES: 'import','namespace','open','def','theorem' AND NOTHING ELSE: no command of the shelf's: FOR A HAND-IN. Each laying: the table of numbers ('.._ren') and one theorem,a field a fact of the dump's own or the kernel's comparison;each contract: ONE APPLICATION.
-/
namespace Go.Proofs
open Go.Shelf
def Tryd.keysA_ren:Go.Shelf.Ren:=⟨fun | 7=>103 | 10=>117 | n=>n,fun | 23=>103 | 26=>3 | 3=>4 | 28=>152 | 0=>0 | 27=>151 | 33=>169 | 4=>4 | n=>n,fun | n=>n⟩
theorem Tryd.keysA : Go.Proofs.SlLaysZI.n7 Tryd.prog Tryd.keysA_ren := {
  mixed:=by kernel_rfl
  f7:=⟨Tryd.f103.name,by decide,Tryd.func103.trans (congrArg some (by kernel_rfl))⟩
  f10:=⟨Tryd.f117.name,by decide,Tryd.func117.trans (congrArg some (by kernel_rfl))⟩
  t0:=Tryd.underlying0
  a0:=Tryd.isAgg0
  z0:=Tryd.sizeOf0
  v0:=Tryd.zeroValue0
  t4:=Tryd.underlying4
  a4:=Tryd.isAgg4
  z4:=Tryd.sizeOf4
  v4:=Tryd.zeroValue4
  t23:=Tryd.underlying103
  a23:=Tryd.isAgg103
  z23:=Tryd.sizeOf103
  v23:=Tryd.zeroValue103
  t26:=Tryd.underlying3
  a26:=Tryd.isAgg3
  z26:=Tryd.sizeOf3
  v26:=Tryd.zeroValue3
  t27:=Tryd.underlying151
  a27:=Tryd.isAgg151
  z27:=Tryd.sizeOf151
  v27:=Tryd.zeroValue151
  t28:=Tryd.underlying152
  a28:=Tryd.isAgg152
  z28:=Tryd.sizeOf152
  v28:=Tryd.zeroValue152
  t33:=Tryd.underlying169
  a33:=Tryd.isAgg169
  z33:=Tryd.sizeOf169
  v33:=Tryd.zeroValue169 }
def Tryd.sortedA_ren:Go.Shelf.Ren:=⟨fun | 6=>102 | 8=>115 | 9=>116 | 11=>129 | 13=>113 | 12=>130 | 23=>127 | 24=>128 | 14=>136 | 15=>137 | 16=>138 | 17=>139 | 18=>140 | 19=>141 | 20=>142 | 21=>143 | 22=>144 | 25=>146 | 26=>132 | 27=>133 | 28=>147 | 29=>148 | 30=>114 | 31=>149 | n=>n,fun | 26=>3 | 28=>152 | 24=>27 | 0=>0 | 3=>3 | 37=>168 | 48=>182 | 50=>184 | 4=>4 | 40=>175 | 39=>174 | 45=>179 | 5=>5 | 9=>9 | 51=>187 | 55=>191 | 57=>199 | 58=>200 | 33=>169 | n=>n,fun | n=>n⟩
theorem Tryd.sortedA : Go.Proofs.SlLaysZI.n6 Tryd.prog Tryd.sortedA_ren := {
  mixed:=by kernel_rfl
  f6:=⟨Tryd.f102.name,by decide,Tryd.func102.trans (congrArg some (by kernel_rfl))⟩
  f8:=⟨Tryd.f115.name,by decide,Tryd.func115.trans (congrArg some (by kernel_rfl))⟩
  f11:=⟨Tryd.f129.name,by decide,Tryd.func129.trans (congrArg some (by kernel_rfl))⟩
  t0:=Tryd.underlying0
  a0:=Tryd.isAgg0
  z0:=Tryd.sizeOf0
  v0:=Tryd.zeroValue0
  t24:=Tryd.underlying27
  a24:=Tryd.isAgg27
  z24:=Tryd.sizeOf27
  v24:=Tryd.zeroValue27
  t26:=Tryd.underlying3
  a26:=Tryd.isAgg3
  z26:=Tryd.sizeOf3
  v26:=Tryd.zeroValue3
  t28:=Tryd.underlying152
  a28:=Tryd.isAgg152
  z28:=Tryd.sizeOf152
  v28:=Tryd.zeroValue152
  i26:=by kernel_rfl }
def Tryd.sortA_ren:Go.Shelf.Ren:=⟨fun | 5=>116 | 8=>113 | 7=>130 | 19=>127 | 20=>128 | 10=>136 | 11=>137 | 12=>138 | 13=>139 | 14=>140 | 15=>141 | 16=>142 | 17=>143 | 18=>144 | 30=>146 | 31=>132 | 32=>133 | 33=>147 | 34=>148 | 35=>114 | 40=>149 | n=>n,fun | 23=>27 | 25=>3 | 3=>3 | 32=>168 | 22=>27 | 0=>0 | 44=>182 | 46=>184 | 4=>4 | 36=>175 | 35=>174 | 41=>179 | 5=>5 | 9=>9 | 53=>187 | 57=>191 | 63=>199 | 64=>200 | n=>n,fun | n=>n⟩
theorem Tryd.sortA : Go.Proofs.SlLaysM.n5 Tryd.prog Tryd.sortA_ren := {
  mixed:=by kernel_rfl
  f5:=⟨Tryd.f116.name,by decide,Tryd.func116.trans (congrArg some (by kernel_rfl))⟩
  f7:=⟨Tryd.f130.name,by decide,Tryd.func130.trans (congrArg some (by kernel_rfl))⟩
  f8:=Tryd.func113.trans (congrArg some (by kernel_rfl))
  f10:=⟨Tryd.f136.name,by decide,Tryd.func136.trans (congrArg some (by kernel_rfl))⟩
  f11:=⟨Tryd.f137.name,by decide,Tryd.func137.trans (congrArg some (by kernel_rfl))⟩
  f12:=⟨Tryd.f138.name,by decide,Tryd.func138.trans (congrArg some (by kernel_rfl))⟩
  f13:=⟨Tryd.f139.name,by decide,Tryd.func139.trans (congrArg some (by kernel_rfl))⟩
  f14:=⟨Tryd.f140.name,by decide,Tryd.func140.trans (congrArg some (by kernel_rfl))⟩
  f15:=⟨Tryd.f141.name,by decide,Tryd.func141.trans (congrArg some (by kernel_rfl))⟩
  f16:=⟨Tryd.f142.name,by decide,Tryd.func142.trans (congrArg some (by kernel_rfl))⟩
  f17:=⟨Tryd.f143.name,by decide,Tryd.func143.trans (congrArg some (by kernel_rfl))⟩
  f18:=⟨Tryd.f144.name,by decide,Tryd.func144.trans (congrArg some (by kernel_rfl))⟩
  f19:=Tryd.func127.trans (congrArg some (by kernel_rfl))
  f20:=Tryd.func128.trans (congrArg some (by kernel_rfl))
  f30:=⟨Tryd.f146.name,by decide,Tryd.func146.trans (congrArg some (by kernel_rfl))⟩
  f31:=Tryd.func132.trans (congrArg some (by kernel_rfl))
  f32:=Tryd.func133.trans (congrArg some (by kernel_rfl))
  f33:=⟨Tryd.f147.name,by decide,Tryd.func147.trans (congrArg some (by kernel_rfl))⟩
  f34:=⟨Tryd.f148.name,by decide,Tryd.func148.trans (congrArg some (by kernel_rfl))⟩
  f35:=⟨Tryd.f114.name,by decide,Tryd.func114.trans (congrArg some (by kernel_rfl))⟩
  f40:=⟨Tryd.f149.name,by decide,Tryd.func149.trans (congrArg some (by kernel_rfl))⟩
  t0:=Tryd.underlying0
  a0:=Tryd.isAgg0
  z0:=Tryd.sizeOf0
  v0:=Tryd.zeroValue0
  t3:=Tryd.underlying3
  a3:=Tryd.isAgg3
  z3:=Tryd.sizeOf3
  v3:=Tryd.zeroValue3
  t4:=Tryd.underlying4
  a4:=Tryd.isAgg4
  z4:=Tryd.sizeOf4
  v4:=Tryd.zeroValue4
  t5:=Tryd.underlying5
  a5:=Tryd.isAgg5
  z5:=Tryd.sizeOf5
  v5:=Tryd.zeroValue5
  t9:=Tryd.underlying9
  a9:=Tryd.isAgg9
  z9:=Tryd.sizeOf9
  v9:=Tryd.zeroValue9
  t22:=Tryd.underlying27
  a22:=Tryd.isAgg27
  z22:=Tryd.sizeOf27
  v22:=Tryd.zeroValue27
  t23:=Tryd.underlying27
  a23:=Tryd.isAgg27
  z23:=Tryd.sizeOf27
  v23:=Tryd.zeroValue27
  t25:=Tryd.underlying3
  a25:=Tryd.isAgg3
  z25:=Tryd.sizeOf3
  v25:=Tryd.zeroValue3
  t32:=Tryd.underlying168
  a32:=Tryd.isAgg168
  z32:=Tryd.sizeOf168
  v32:=Tryd.zeroValue168
  t35:=Tryd.underlying174
  a35:=Tryd.isAgg174
  z35:=Tryd.sizeOf174
  v35:=Tryd.zeroValue174
  t36:=Tryd.underlying175
  a36:=Tryd.isAgg175
  z36:=Tryd.sizeOf175
  v36:=Tryd.zeroValue175
  t41:=Tryd.underlying179
  a41:=Tryd.isAgg179
  z41:=Tryd.sizeOf179
  v41:=Tryd.zeroValue179
  t44:=Tryd.underlying182
  a44:=Tryd.isAgg182
  z44:=Tryd.sizeOf182
  v44:=Tryd.zeroValue182
  t46:=Tryd.underlying184
  a46:=Tryd.isAgg184
  z46:=Tryd.sizeOf184
  v46:=Tryd.zeroValue184
  t53:=Tryd.underlying187
  a53:=Tryd.isAgg187
  z53:=Tryd.sizeOf187
  v53:=Tryd.zeroValue187
  t57:=Tryd.underlying191
  a57:=Tryd.isAgg191
  z57:=Tryd.sizeOf191
  v57:=Tryd.zeroValue191
  t63:=Tryd.underlying199
  a63:=Tryd.isAgg199
  z63:=Tryd.sizeOf199
  v63:=Tryd.zeroValue199
  t64:=Tryd.underlying200
  a64:=Tryd.isAgg200
  z64:=Tryd.sizeOf200
  v64:=Tryd.zeroValue200 }
end Go.Proofs
namespace Go.Pm
open Go.RowKit Go.Maps Go.Sort Go.Shelf Go.Proofs
set_option maxRecDepth 100000

theorem zjD {F : List Int → Option (List Int)} : ∀ (f : Nat) (i : Int) (n : Nat) (l : List Int), zsJ F f i n = some l → l.length = n ∧ (∀ x ∈ l, F [x] ≠ none ∧ i ≤ x ∧ x < i + f) ∧ l.Pairwise (· < ·)
  | _,_,0,l,h=>by simp [zsJ] at h;subst h;exact ⟨rfl,fun x hx=>by simp at hx,List.Pairwise.nil⟩
  | 0,_,n+1,l,h=>by simp [zsJ] at h
  | f+1,i,n+1,l,h=>by
    simp only [zsJ] at h
    split at h
    · rename_i v hv
      split at h
      · rename_i r hr
        simp only [Option.some.injEq] at h;subst h
        obtain ⟨h1,h2,h3⟩:=zjD f (i+1) n r hr
        refine ⟨by simp [h1],fun x hx=>?_,List.pairwise_cons.2 ⟨fun x hx=>by have:=h2 x hx;omega,h3⟩⟩
        rcases List.mem_cons.1 hx with rfl | hx
        · exact ⟨by rw [hv];simp,by omega,by omega⟩
        · have:=h2 x hx;exact ⟨this.1,by omega,by omega⟩
      · cases h
    · obtain ⟨h1, h2, h3⟩ := zjD f (i + 1) (n + 1) l h
      exact ⟨h1,fun x hx=>by have:=h2 x hx;exact ⟨this.1,by omega,by omega⟩,h3⟩
theorem zjE {α : Type} [DecidableEq α] : ∀ {l m : List α}, l.Nodup → (∀ x ∈ l, x ∈ m) → m.length ≤ l.length → l.Perm m
  | [],m,_,_,h=>by
    have:m=[]:=List.eq_nil_of_length_eq_zero (by simpa using h)
    subst this;exact .refl _
  | a :: l,m,hn,hs,h=>by
    obtain ⟨h1,h2⟩:=List.nodup_cons.1 hn
    have ha:=hs a List.mem_cons_self
    have hp:=List.perm_cons_erase ha
    refine (List.Perm.cons a (zjE h2 (fun x hx=>?_) ?_)).trans hp.symm
    · exact (List.mem_erase_of_ne (fun e=>h1 (by rw [← e];exact hx))).2 (hs x (List.mem_cons_of_mem _ hx))
    · have := hp.length_eq
      simp at this h
      omega

theorem zzk:zms Tryd.prog 103 (.keys 117):=fun w mb=>by
 refine ⟨⟨_,rfl,rfl,by kernel_rfl⟩,?_⟩
 have c:CallsIn Fence.wide 5 Tryd.prog 103 #[.map (some mb)] w fun e w'=>e=.returned (.func (.func 117) #[] #[.pointer (some ⟨w.heap.size,0,none⟩)])∧w'=w.alloc (.cells #[.map (some mb)] 103):=AnyZI.keys_in Tryd.keysA Fence.wide 5 trivial rfl (some mb) w
 refine ((callsIn_wide (n:=5)).1 c).mono ?_
 rintro e w' ⟨rfl,rfl⟩
 exact ⟨rfl,_,rfl⟩
theorem sortsA (m:Nat):AnyZI.SortsIn Tryd.prog Tryd.sortedA_ren Fence.wide m :=
  ⟨fun blk off cap ss W hH hblk hsz=>callsIn_wide.2 (AnyM.slices_Sort_int Tryd.sortA blk off cap ss W hH hblk hsz),
   fun p cap W=>callsIn_wide.2 (AnyM.slices_Sort_int_none Tryd.sortA p cap W)⟩

def rdN:Value→Option (DataW Unit×List MemPlace):=fun _=>some (.nil,[])
theorem zsD:zms Tryd.prog 102 (.sorted 117):=fun w h k mb C ty fr es clock vt q n F hw hk hC hb hE hm hn hky=>by
 refine ⟨⟨_,rfl,rfl,by kernel_rfl⟩,?_⟩
 obtain ⟨en,M⟩:=hm
 have E:=zfJ hE
 have hq1:q.1=false:=by
  have e:=E.kag
  rw [show zd3 Tryd.prog 3=some false by kernel_rfl] at e
  exact (Option.some.inj e).symm
 have hq2:q.2.1=1:=by
  have e:=E.key
  rw [show zdg Tryd.prog 8 3=some 1 by kernel_rfl] at e
  exact (Option.some.inj e).symm
 obtain ⟨l,hl⟩:=Option.isSome_iff_exists.1 hky
 have hll:zsK F n=l:=by unfold zsK;rw [hl];rfl
 obtain ⟨l1,l2,l3⟩:=zjD _ _ _ _ hl
 rw [hll]
 have one:∀ x∈en,x.1=[x.1.headD 0]:=fun x hx=>by
  have:=(M.len x hx).1
  rw [hq2] at this
  match x.1,this with
  | [a],_=>rfl
 have hkeys:es.toList.map (·.key)=(en.map fun x=>x.1.headD 0).map encZ:=by
  have:=congrArg (List.map Prod.fst) M.ents
  simp only [List.map_map] at this ⊢
  refine (show es.toList.map (·.key)=_ from this).trans (List.map_congr_left fun x hx=>?_)
  show zbt q.1 x.1=encZ (x.1.headD 0)
  rw [hq1];rfl
 have hkn:(en.map fun x=>x.1.headD 0).Nodup:=by
  have:(en.map (·.1))=(en.map fun x=>x.1.headD 0).map fun a=>[a]:=by
   rw [List.map_map];exact List.map_congr_left fun x hx=>one x hx
  have hd:=M.nodup
  rw [this] at hd
  exact (List.pairwise_map.1 hd).imp fun h e=>h (by rw [e])
 have hperm:l.Perm (en.map fun x=>x.1.headD 0):=by
  refine zjE (l3.imp fun h=>Int.ne_of_lt h) (fun x hx=>?_) (by rw [List.length_map,← M.size,l1];exact Nat.le_refl _)
  have h1:=(l2 x hx).1
  rw [M.find [x] (by rw [hq2];rfl)] at h1
  by_cases hex:∃ y∈en,y.1=[x]
  ·obtain ⟨y, hy, e⟩ := hex
   exact List.mem_map.2 ⟨y,hy,by rw [e];rfl⟩
  ·exact absurd (zfp fun y hy e=>hex ⟨y,hy,e⟩) h1
 have hread:∀ x∈es.toList,∃ a:Int,x.key=encZ a∧keyOf Tryd.prog 3 x.key=some (.int .i64 a):=fun x hx=>by
  have hm:x.key∈es.toList.map (·.key):=List.mem_map.2 ⟨x,hx,rfl⟩
  rw [hkeys] at hm
  obtain ⟨a,ha,e⟩:=List.mem_map.1 hm
  have hb:=(l2 a (hperm.mem_iff.2 ha)).2
  refine ⟨a,e.symm,?_⟩
  rw [← e]
  have hu:Tryd.prog.underlying 3=some (.int .i64):=Tryd.underlying3
  have hwf:(Lit.int .i64 a).wf=true:=by
   simp only [Lit.wf,Bool.and_eq_true,decide_eq_true_eq]
   have e1:IntKind.i64.min = -9223372036854775808:=by decide
   have e2:IntKind.i64.max=9223372036854775807:=by decide
   rw [e1,e2]
   have:=hb.2
   omega
  simp [keyOf,mapKey,hu,hwf]
 have hsize:es.size=n:=by
  have:=congrArg List.length M.ents
  simp at this
  rw [this,M.size]
 have hst:MapKept.Stamped es clock:=⟨M.born,M.bornN,by rw [hkeys];exact List.pairwise_map.2 (hkn.imp fun h e=>h (encZ_inj e))⟩
 have hown:w.ownsMap Tryd.prog 3 rdN mb n (.map ((es.toList.map (WideElems.rg Tryd.prog 3 rdN)).foldr DataW.insert [])) :=
  ⟨es,clock,hb,⟨by rw [hsize];exact Nat.le_trans hn (by decide),hst,fun x hx=>by
   obtain ⟨a,e1,e2⟩:=hread x hx
   exact ⟨(.int .i64 a,.nil),by simp only [WideElems.rd,e2,rdN,Option.bind_some,Option.map_some]⟩⟩,by omega,rfl⟩
 have hik:(intKeys (.map ((es.toList.map (WideElems.rg Tryd.prog 3 rdN)).foldr DataW.insert []))).Perm l:=by
  show (((es.toList.map (WideElems.rg Tryd.prog 3 rdN)).foldr DataW.insert []).map fun p=>intOf p.1).Perm l
  refine ((WideShapes.sorted_perm _).map _).trans (List.Perm.trans (List.Perm.of_eq ?_) hperm.symm)
  rw [List.map_map]
  have e:(en.map fun x=>x.1.headD 0)=es.toList.map fun x=>intOf ((keyOf Tryd.prog 3 x.key).getD (.bool false)):=by
   have h1:(en.map fun x=>x.1.headD 0)=((en.map fun x=>x.1.headD 0).map encZ).map fun v=>match v with | .int _ a=>a | _=>0:=by
    rw [List.map_map];exact (List.map_id _).symm
   rw [h1,← hkeys,List.map_map]
   refine List.map_congr_left fun x hx=>?_
   obtain ⟨a,e1,e2⟩:=hread x hx
   simp only [Function.comp,e2]
   rw [e1];rfl
  rw [e]
  refine List.map_congr_left fun x hx=>?_
  obtain ⟨a,e1,e2⟩:=hread x hx
  simp only [Function.comp,WideElems.rg,WideElems.rd,e2,rdN,Option.bind_some,Option.map_some,Option.getD_some]
 have hsz:Maps.size (DataW.map ((es.toList.map (WideElems.rg Tryd.prog 3 rdN)).foldr DataW.insert []):DataW Unit)=n:=by
  show List.length _=n
  rw [(WideShapes.sorted_perm _).length_eq];simp [hsize]
 have hlt:k < w.heap.size:=hw.lt hk
 have hcell:w.cell? ⟨k,0,none⟩=some (.map (some mb)):=by
  have:=hw.fz hk
  simp [World.cell?,this,hC]
 have hseq:SeqGives Fence.wide 2 Tryd.prog 117 #[.pointer (some ⟨k,0,none⟩)] encZ (fun ss=>ss.Perm (intKeys _)) (Maps.size _) w :=
  AnyZI.keys_gives (ρ:=Tryd.keysA_ren) { Tryd.keysA with } Fence.wide _ trivial rfl (by omega) k mb n _ w hlt hcell hown
 have cS:=AnyZI.sorted_in Tryd.sortedA Fence.wide 5 trivial trivial trivial trivial rfl (by omega) (sortsA _) (enters_of Tryd.func116 (by kernel_rfl) rfl) 117 #[.pointer (some ⟨k,0,none⟩)] trivial (enters_of Tryd.func117 (by kernel_rfl) rfl) _ _ (by rw [hsz];exact Nat.le_trans hn (by decide)) (by rw [hsz];omega) _ hseq
 change CallsIn _ _ Tryd.prog 102 _ _ _ at cS
 refine ((callsIn_wide (n:=5)).1 cS).mono ?_
 rintro e w' ⟨v,ss,rfl,hS,hrow,_,hbel⟩
 refine ⟨v,rfl,?_,⟨hbel,Nat.zero_le _⟩⟩
 have hsl:ss.mergeSort (fun x y=>decide (x≤y))=l:=by
  rw [show ss.mergeSort (fun x y=>decide (x≤y))=l.mergeSort leI from mergeSort_of_perm_i (hS.trans hik)]
  exact List.mergeSort_of_pairwise (l3.imp fun h=>by simp only [leI,decide_eq_true_eq];exact Int.le_of_lt h)
 have hlen:ss.length=n:=by rw [(hS.trans hik).length_eq,l1]
 rw [hsl,hlen] at hrow
 exact hrow
end Go.Pm
namespace Go.Proofs
open Go Go.Pm
set_option maxRecDepth 100000
set_option linter.unusedVariables false
attribute [local irreducible] Go.Pm.vcFun Go.Pm.vc Go.Pm.vcIter
abbrev zz9:OwnK:=.sorted 117
theorem zGR:zms Tryd.prog 102 zz9:=zsD
abbrev zAa:OwnK:=.keys 117
theorem zGS:zms Tryd.prog 103 zAa:=zzk
structure Rec69 where
  S:web→Int→((Sl (Sl Int))×web)
  P:web→Int→Bool
class Slf69 where
  r:Rec69
section
variable [Slf69]
def zvl : MK
  | [.box 105 [.p (.int .i64 b0_Net_Nodes),.p (.sl b0_Net_Ties_n b0_Net_Ties_s b0_Net_Ties_g),.mo 3 4 b0_out_q b0_out_n b0_out_F],.d (.one (.int .i64 b1))]=>some (IsE zaj 4 b0_Net_Ties_s b0_Net_Ties_g∧b0_out_q=(false,1,false,[none])∧Slf69.r.P (⟨(⟨b0_Net_Nodes,(⟨b0_Net_Ties_n,zaa b0_Net_Ties_g⟩:(Sl Tie))⟩:Net),(⟨b0_out_n,b0_out_F⟩:Mp)⟩:web) b1=true,[.one (.sl (((Slf69.r.S (⟨(⟨b0_Net_Nodes,(⟨b0_Net_Ties_n,zaa b0_Net_Ties_g⟩:(Sl Tie))⟩:Net),(⟨b0_out_n,b0_out_F⟩:Mp)⟩:web) b1).1).len) 1 (fun i=>zb0 (((Slf69.r.S (⟨(⟨b0_Net_Nodes,(⟨b0_Net_Ties_n,zaa b0_Net_Ties_g⟩:(Sl Tie))⟩:Net),(⟨b0_out_n,b0_out_F⟩:Mp)⟩:web) b1).1).get i)))],[.box 105 [.p (.int .i64 (((Slf69.r.S (⟨(⟨b0_Net_Nodes,(⟨b0_Net_Ties_n,zaa b0_Net_Ties_g⟩:(Sl Tie))⟩:Net),(⟨b0_out_n,b0_out_F⟩:Mp)⟩:web) b1).2).Net.Nodes)),.p (.sl (((Slf69.r.S (⟨(⟨b0_Net_Nodes,(⟨b0_Net_Ties_n,zaa b0_Net_Ties_g⟩:(Sl Tie))⟩:Net),(⟨b0_out_n,b0_out_F⟩:Mp)⟩:web) b1).2).Net.Ties.len) 4 (fun i=>zaj (((Slf69.r.S (⟨(⟨b0_Net_Nodes,(⟨b0_Net_Ties_n,zaa b0_Net_Ties_g⟩:(Sl Tie))⟩:Net),(⟨b0_out_n,b0_out_F⟩:Mp)⟩:web) b1).2).Net.Ties.get i))),.mo 3 4 (false,1,false,[none]) ((((Slf69.r.S (⟨(⟨b0_Net_Nodes,(⟨b0_Net_Ties_n,zaa b0_Net_Ties_g⟩:(Sl Tie))⟩:Net),(⟨b0_out_n,b0_out_F⟩:Mp)⟩:web) b1).2).out).n) ((((Slf69.r.S (⟨(⟨b0_Net_Nodes,(⟨b0_Net_Ties_n,zaa b0_Net_Ties_g⟩:(Sl Tie))⟩:Net),(⟨b0_out_n,b0_out_F⟩:Mp)⟩:web) b1).2).out).F)],.d (.one (.int .i64 b1))])
  | _=>none
abbrev T69:Tabs:=(((((Tabs.nil.addF 88 zuG).addF 89 zzj).addO 102 zz9).addO 103 zAa).addM 69 zvl)
theorem zGT (hself:zhP Tryd.prog 69 zvl):TabsOk Tryd.prog T69:=(((((TabsOk.nil.addF zGE).addF zHR).addO zGR).addO zGS).addM hself)
abbrev zzl:Ctrs:=csm T69 (fun _ _=>[]) (fun _=>false)
def zeE:Ann:=⟨57,[(0,⟨[0,1],[0,12288],[],[],[],[],[]⟩),(1,⟨[0,1,10],[0,12288],[],[],[],[],[]⟩),(2,⟨[0,4],[0,17,12288],[],[],[],[],[]⟩),(3,⟨[0,1,19],[0,12288],[],[],[],[],[]⟩),(4,⟨[0,4],[0,12288],[],[],[],[],[]⟩),(5,⟨[0,1,5],[0,12288],[],[],[],[],[]⟩),(6,⟨[0,1,5,21,22,23],[0,12288],[],[],[],[],[]⟩),(7,⟨[0,1,5,21,22,23,24],[0,47,12288],[],[],[],[],[]⟩),(8,⟨[0,1,5,7,21,22,23],[0,7,47,12288],[],[],[],[],[]⟩),(9,⟨[0,1,5,7,21,22,23,34],[0,7,47,12288],[],[],[],[],[]⟩),(10,⟨[0,1,5,7,21,22,23],[0,7,47,12288],[],[],[],[],[]⟩),(11,⟨[0,1,5,7,21,22,23],[0,7,47,12288],[],[],[],[],[]⟩),(12,⟨[0,1,5,21,22,23],[0,47,12288],[],[],[],[],[]⟩),(13,⟨[0,1,5,21,22,23],[0,47,12288],[],[],[],[],[]⟩),(14,⟨[0,4],[0,47,12288],[],[],[],[],[]⟩)],
 [(7,⟨[0,1,5,21,22,23],[0,47,12288],[(5,47,27,fun _=>zb0 default)],[],[],[],[]⟩)],
 [],
 [],[]⟩
def zfa (w:web) (left:Int) (zaB:Int) (zaY:Int) (zfb:Nat) (zcl:Nat→List PV) (zfc:Nat) (zcm:Nat→List PV) (zaf:Nat) (zab:(List Int→Option (List Int))):St:=⟨[(0,.one (.c (.ptr 0 0))),(1,.one (.c (.p (.int .i64 left)))),(5,.one (.c (.vec 47))),(21,.one (.c (.p (.sl ((s89 w).len) 5 (fun i=>zae ((s89 w).get i)))))),(22,.one (.c (.p (.int .i64 ((s89 w).len:Int))))),(23,.one (.c (.p (.int .i64 zaB))))],[(0,.box 105 [.p (.int .i64 zaY),.p (.sl zfb 4 zcl),.mo 12288]),(47,.vec 27 1 24 zfc zcm),(12288,.mo 3 4 (false,1,false,[none]) zaf zab)],[]⟩
def zgO (K:List PA×List XA→Prop) (w:web) (left:Int) (zaB:Int) (zaY:Int) (zfb:Nat) (zcl:Nat→List PV) (zfc:Nat) (zcm:Nat→List PV) (zaf:Nat) (zab:(List Int→Option (List Int))):Prop:=vc Tryd.prog zzl zeE (cdF Tryd.f69 [1,1,1,1,0,1,0]) (zak 0 (sqK Tryd.prog zzl zeE (cdF Tryd.f69 [1,1,1,1,1]) (zki Tryd.prog Tryd.f69 [.box 105 [.p (.int .i64 w.Net.Nodes),.p (.sl w.Net.Ties.len 4 (fun i=>zaj (w.Net.Ties.get i))),.mo 3 4 (false,1,false,[none]) w.out.n w.out.F],.d (.one (.int .i64 left))] (fun a b=>K (a,b))))) (zfa w left zaB zaY zfb zcl zfc zcm zaf zab)
theorem zzm (w : web) (left : Int) (K : List PA × List XA → Prop) :
  ziZ Tryd.prog zzl zeE 69 [.box 105 [.p (.int .i64 w.Net.Nodes),.p (.sl w.Net.Ties.len 4 (fun i=>zaj (w.Net.Ties.get i))),.mo 3 4 (false,1,false,[none]) w.out.n w.out.F],.d (.one (.int .i64 left))] (fun a b=>K (a,b)) =
  ((IsE zaj 4 4 (fun i=>zaj (w.Net.Ties.get i))∧((false,1,false,[none]):MQ)=(false,1,false,[none])∧(p88 w=true)) ∧
 (zbA (!(s88 w))
 (((w.out.n≤1000000∧(zsJ w.out.F 9223372036854775808 0 w.out.n).isSome=true)) ∧
 (K ([.one (.sl 1 1 (fun _=>(zb0 (⟨w.out.n,(fun i=>(zsK w.out.F w.out.n).getD i 0)⟩:(Sl Int)))))],[.box 105 [.p (.int .i64 w.Net.Nodes),.p (.sl w.Net.Ties.len 4 (fun i=>zaj (w.Net.Ties.get i))),.mo 3 4 (false,1,false,[none]) w.out.n w.out.F],.d (.one (.int .i64 left))])))
 (zbA (left == (0:Int))
 (K ([.one (.nils)],[.box 105 [.p (.int .i64 w.Net.Nodes),.p (.sl w.Net.Ties.len 4 (fun i=>zaj (w.Net.Ties.get i))),.mo 3 4 (false,1,false,[none]) w.out.n w.out.F],.d (.one (.int .i64 left))]))
 (((∀ i,sc2 ((fun i=>zae ((s89 w).get i)) i)=true)∧IsE zaj 4 4 (fun i=>zaj (w.Net.Ties.get i))∧((false,1,false,[none]):MQ)=(false,1,false,[none])∧(p89 w=true)) ∧
 (zgO K w left (0:Int) w.Net.Nodes w.Net.Ties.len (fun i=>zaj (w.Net.Ties.get i)) 0 (fun i=>zb0 ((fun _=>default) i)) w.out.n w.out.F))))):=by kernel_rfl
def zkY (K:List PA×List XA→Prop) (X0:St→Prop) (w:web) (left:Int) (zaB:Int) (zaY:Int) (za0:(Sl Tie)) (zbq:(Sl (Sl Int))) (zaf:Nat) (zab:(List Int→Option (List Int))):Prop :=
  (zbA (decide (zaB < ((s89 w).len : Int)))
 (((0≤zaB∧zaB < ((s89 w).len:Int))) ∧
 (zbA ((zx0 (zab [((s89 w).get zaB.toNat).Use.Tie]) 0) != 0)
 (X0 (zfa w left (w64 (zaB+(1:Int))) zaY za0.len (fun i=>zaj (za0.get i)) zbq.len (fun i=>zb0 (zbq.get i)) zaf zab))
 ((IsE zaj 4 4 (fun i=>zaj (za0.get i))∧((false,1,false,[none]):MQ)=(false,1,false,[none])∧(Slf69.r.P (⟨(⟨zaY,za0⟩:Net),(⟨(addN (zab [((s89 w).get zaB.toNat).Use.Tie]) zaf),(zdo [((s89 w).get zaB.toNat).Use.Tie] [1] zab)⟩:Mp)⟩:web) (w64 (left - (1:Int)))=true)) ∧
 ((((zbq.len+((Slf69.r.S (⟨(⟨zaY,za0⟩:Net),(⟨(addN (zab [((s89 w).get zaB.toNat).Use.Tie]) zaf),(zdo [((s89 w).get zaB.toNat).Use.Tie] [1] zab)⟩:Mp)⟩:web) (w64 (left - (1:Int)))).1).len) * 24≤140737488355328∧zbq.len+((Slf69.r.S (⟨(⟨zaY,za0⟩:Net),(⟨(addN (zab [((s89 w).get zaB.toNat).Use.Tie]) zaf),(zdo [((s89 w).get zaB.toNat).Use.Tie] [1] zab)⟩:Mp)⟩:web) (w64 (left - (1:Int)))).1).len≤9223372036854775807)) ∧
 (X0 (zfa w left (w64 (zaB+(1:Int))) (((Slf69.r.S (⟨(⟨zaY,za0⟩:Net),(⟨(addN (zab [((s89 w).get zaB.toNat).Use.Tie]) zaf),(zdo [((s89 w).get zaB.toNat).Use.Tie] [1] zab)⟩:Mp)⟩:web) (w64 (left - (1:Int)))).2).Net.Nodes) (((Slf69.r.S (⟨(⟨zaY,za0⟩:Net),(⟨(addN (zab [((s89 w).get zaB.toNat).Use.Tie]) zaf),(zdo [((s89 w).get zaB.toNat).Use.Tie] [1] zab)⟩:Mp)⟩:web) (w64 (left - (1:Int)))).2).Net.Ties.len) (fun i=>zaj (((Slf69.r.S (⟨(⟨zaY,za0⟩:Net),(⟨(addN (zab [((s89 w).get zaB.toNat).Use.Tie]) zaf),(zdo [((s89 w).get zaB.toNat).Use.Tie] [1] zab)⟩:Mp)⟩:web) (w64 (left - (1:Int)))).2).Net.Ties.get i)) (zbq.len+((Slf69.r.S (⟨(⟨zaY,za0⟩:Net),(⟨(addN (zab [((s89 w).get zaB.toNat).Use.Tie]) zaf),(zdo [((s89 w).get zaB.toNat).Use.Tie] [1] zab)⟩:Mp)⟩:web) (w64 (left - (1:Int)))).1).len) (appG zbq.len (fun i=>zb0 (zbq.get i)) (fun i=>zb0 (((Slf69.r.S (⟨(⟨zaY,za0⟩:Net),(⟨(addN (zab [((s89 w).get zaB.toNat).Use.Tie]) zaf),(zdo [((s89 w).get zaB.toNat).Use.Tie] [1] zab)⟩:Mp)⟩:web) (w64 (left - (1:Int)))).1).get i))) (zzG (((((Slf69.r.S (⟨(⟨zaY,za0⟩:Net),(⟨(addN (zab [((s89 w).get zaB.toNat).Use.Tie]) zaf),(zdo [((s89 w).get zaB.toNat).Use.Tie] [1] zab)⟩:Mp)⟩:web) (w64 (left - (1:Int)))).2).out).F) [((s89 w).get zaB.toNat).Use.Tie]) ((((Slf69.r.S (⟨(⟨zaY,za0⟩:Net),(⟨(addN (zab [((s89 w).get zaB.toNat).Use.Tie]) zaf),(zdo [((s89 w).get zaB.toNat).Use.Tie] [1] zab)⟩:Mp)⟩:web) (w64 (left - (1:Int)))).2).out).n)) (zx6 [((s89 w).get zaB.toNat).Use.Tie] ((((Slf69.r.S (⟨(⟨zaY,za0⟩:Net),(⟨(addN (zab [((s89 w).get zaB.toNat).Use.Tie]) zaf),(zdo [((s89 w).get zaB.toNat).Use.Tie] [1] zab)⟩:Mp)⟩:web) (w64 (left - (1:Int)))).2).out).F))))))))
 (K ([.one (.sl zbq.len 1 (fun i=>zb0 (zbq.get i)))],[.box 105 [.p (.int .i64 zaY),.p (.sl za0.len 4 (fun i=>zaj (za0.get i))),.mo 3 4 (false,1,false,[none]) zaf zab],.d (.one (.int .i64 left))])))
theorem znE (K : List PA × List XA → Prop) (X0 : St → Prop) (w : web) (left : Int) (zaB : Int) (zaY : Int) (za0 : (Sl Tie)) (zbq : (Sl (Sl Int))) (zaf : Nat) (zab : (List Int → Option (List Int))) :
  vc Tryd.prog zzl zeE (cd (cdF Tryd.f69 [1,1,1,1,0,1,0]) [0]) (zbb Tryd.prog zeE 7 X0 (zak 0 (sqK Tryd.prog zzl zeE (cdF Tryd.f69 [1,1,1,1,1]) (zki Tryd.prog Tryd.f69 [.box 105 [.p (.int .i64 w.Net.Nodes),.p (.sl w.Net.Ties.len 4 (fun i=>zaj (w.Net.Ties.get i))),.mo 3 4 (false,1,false,[none]) w.out.n w.out.F],.d (.one (.int .i64 left))] (fun a b=>K (a,b)))))) (zfa w left zaB zaY za0.len (fun i=>zaj (za0.get i)) zbq.len (fun i=>zb0 (zbq.get i)) zaf zab) =
  zkY K X0 w left zaB zaY za0 zbq zaf zab:=by kernel_rfl
theorem zsE (K : List PA × List XA → Prop) (w : web) (left : Int) (zaB : Int) (zaY : Int) (zfb : Nat) (zcl : Nat → List PV) (zfc : Nat) (zcm : Nat → List PV) (zaf : Nat) (zab : (List Int → Option (List Int)))
  (h:∀ X0:St→Prop,(∀ (zaB:Int) (zaY:Int) (za0:(Sl Tie)) (zbq:(Sl (Sl Int))) (zaf:Nat) (zab:(List Int→Option (List Int))),zkY K X0 w left zaB zaY za0 zbq zaf zab→X0 (zfa w left zaB zaY za0.len (fun i=>zaj (za0.get i)) zbq.len (fun i=>zb0 (zbq.get i)) zaf zab))→X0 (zfa w left zaB zaY zfb zcl zfc zcm zaf zab)) :
  zgO K w left zaB zaY zfb zcl zfc zcm zaf zab:=by
  have e:zgO K w left zaB zaY zfb zcl zfc zcm zaf zab=(∀ X:St→Prop,(∀ s,vc Tryd.prog zzl zeE (cd (cdF Tryd.f69 [1,1,1,1,0,1,0]) [0]) (zbb Tryd.prog zeE 7 X (zak 0 (sqK Tryd.prog zzl zeE (cdF Tryd.f69 [1,1,1,1,1]) (zki Tryd.prog Tryd.f69 [.box 105 [.p (.int .i64 w.Net.Nodes),.p (.sl w.Net.Ties.len 4 (fun i=>zaj (w.Net.Ties.get i))),.mo 3 4 (false,1,false,[none]) w.out.n w.out.F],.d (.one (.int .i64 left))] (fun a b=>K (a,b)))))) s→X s)→X (zfa w left zaB zaY zfb zcl zfc zcm zaf zab)):=by kernel_rfl
  refine zbh e ?_
  intro X hX
  refine h X ?_
  intro zaB zaY za0 zbq zaf zab hs
  refine hX _ ?_
  have e2:=znE K X w left zaB zaY za0 zbq zaf zab
  rw [e2]
  exact hs
abbrev zAb (left:Int) (r:((Sl (Sl Int))×web)):List PA×List XA:=([.one (.sl r.1.len 1 (fun i=>zb0 (r.1.get i)))],[.box 105 [.p (.int .i64 r.2.Net.Nodes),.p (.sl r.2.Net.Ties.len 4 (fun i=>zaj (r.2.Net.Ties.get i))),.mo 3 4 (false,1,false,[none]) r.2.out.n r.2.out.F],.d (.one (.int .i64 left))])
attribute [irreducible] zgO
def zme (w:web) (left:Int) (S0:Int→Int→(Sl Tie)→(Sl (Sl Int))→Nat→(List Int→Option (List Int))→((Sl (Sl Int))×web)) (zaB:Int) (zaY:Int) (za0:(Sl Tie)) (zbq:(Sl (Sl Int))) (zaf:Nat) (zab:(List Int→Option (List Int))):((Sl (Sl Int))×web) :=
  (cond (decide (zaB < ((s89 w).len : Int)))
 (cond ((zx0 (zab [((s89 w).get zaB.toNat).Use.Tie]) 0) != 0)
 (S0 (w64 (zaB+(1:Int))) zaY za0 zbq zaf zab)
 (S0 (w64 (zaB+(1:Int))) (((Slf69.r.S (⟨(⟨zaY,za0⟩:Net),(⟨(addN (zab [((s89 w).get zaB.toNat).Use.Tie]) zaf),(zdo [((s89 w).get zaB.toNat).Use.Tie] [1] zab)⟩:Mp)⟩:web) (w64 (left - (1:Int)))).2).Net.Nodes) (((Slf69.r.S (⟨(⟨zaY,za0⟩:Net),(⟨(addN (zab [((s89 w).get zaB.toNat).Use.Tie]) zaf),(zdo [((s89 w).get zaB.toNat).Use.Tie] [1] zab)⟩:Mp)⟩:web) (w64 (left - (1:Int)))).2).Net.Ties) (⟨(zbq.len+((Slf69.r.S (⟨(⟨zaY,za0⟩:Net),(⟨(addN (zab [((s89 w).get zaB.toNat).Use.Tie]) zaf),(zdo [((s89 w).get zaB.toNat).Use.Tie] [1] zab)⟩:Mp)⟩:web) (w64 (left - (1:Int)))).1).len),(zkP zbq.len zbq.get ((Slf69.r.S (⟨(⟨zaY,za0⟩:Net),(⟨(addN (zab [((s89 w).get zaB.toNat).Use.Tie]) zaf),(zdo [((s89 w).get zaB.toNat).Use.Tie] [1] zab)⟩:Mp)⟩:web) (w64 (left - (1:Int)))).1).get)⟩:Sl (Sl Int)) (zzG (((((Slf69.r.S (⟨(⟨zaY,za0⟩:Net),(⟨(addN (zab [((s89 w).get zaB.toNat).Use.Tie]) zaf),(zdo [((s89 w).get zaB.toNat).Use.Tie] [1] zab)⟩:Mp)⟩:web) (w64 (left - (1:Int)))).2).out).F) [((s89 w).get zaB.toNat).Use.Tie]) ((((Slf69.r.S (⟨(⟨zaY,za0⟩:Net),(⟨(addN (zab [((s89 w).get zaB.toNat).Use.Tie]) zaf),(zdo [((s89 w).get zaB.toNat).Use.Tie] [1] zab)⟩:Mp)⟩:web) (w64 (left - (1:Int)))).2).out).n)) (zx6 [((s89 w).get zaB.toNat).Use.Tie] ((((Slf69.r.S (⟨(⟨zaY,za0⟩:Net),(⟨(addN (zab [((s89 w).get zaB.toNat).Use.Tie]) zaf),(zdo [((s89 w).get zaB.toNat).Use.Tie] [1] zab)⟩:Mp)⟩:web) (w64 (left - (1:Int)))).2).out).F))))
 (zbq,(⟨(⟨zaY,za0⟩:Net),(⟨zaf,zab⟩:Mp)⟩:web)))
def zmf (w:web) (left:Int) (P0:Int→Int→(Sl Tie)→(Sl (Sl Int))→Nat→(List Int→Option (List Int))→Bool) (zaB:Int) (zaY:Int) (za0:(Sl Tie)) (zbq:(Sl (Sl Int))) (zaf:Nat) (zab:(List Int→Option (List Int))):Bool :=
  (cond (decide (zaB < ((s89 w).len : Int)))
 (decide ((0≤zaB∧zaB < ((s89 w).len:Int))) &&
 (cond ((zx0 (zab [((s89 w).get zaB.toNat).Use.Tie]) 0) != 0)
 (P0 (w64 (zaB+(1:Int))) zaY za0 zbq zaf zab)
 (decide ((Slf69.r.P (⟨(⟨zaY,za0⟩:Net),(⟨(addN (zab [((s89 w).get zaB.toNat).Use.Tie]) zaf),(zdo [((s89 w).get zaB.toNat).Use.Tie] [1] zab)⟩:Mp)⟩:web) (w64 (left - (1:Int)))=true)) &&
 (decide (((zbq.len+((Slf69.r.S (⟨(⟨zaY,za0⟩:Net),(⟨(addN (zab [((s89 w).get zaB.toNat).Use.Tie]) zaf),(zdo [((s89 w).get zaB.toNat).Use.Tie] [1] zab)⟩:Mp)⟩:web) (w64 (left - (1:Int)))).1).len) * 24≤140737488355328∧zbq.len+((Slf69.r.S (⟨(⟨zaY,za0⟩:Net),(⟨(addN (zab [((s89 w).get zaB.toNat).Use.Tie]) zaf),(zdo [((s89 w).get zaB.toNat).Use.Tie] [1] zab)⟩:Mp)⟩:web) (w64 (left - (1:Int)))).1).len≤9223372036854775807)) &&
 (P0 (w64 (zaB+(1:Int))) (((Slf69.r.S (⟨(⟨zaY,za0⟩:Net),(⟨(addN (zab [((s89 w).get zaB.toNat).Use.Tie]) zaf),(zdo [((s89 w).get zaB.toNat).Use.Tie] [1] zab)⟩:Mp)⟩:web) (w64 (left - (1:Int)))).2).Net.Nodes) (((Slf69.r.S (⟨(⟨zaY,za0⟩:Net),(⟨(addN (zab [((s89 w).get zaB.toNat).Use.Tie]) zaf),(zdo [((s89 w).get zaB.toNat).Use.Tie] [1] zab)⟩:Mp)⟩:web) (w64 (left - (1:Int)))).2).Net.Ties) (⟨(zbq.len+((Slf69.r.S (⟨(⟨zaY,za0⟩:Net),(⟨(addN (zab [((s89 w).get zaB.toNat).Use.Tie]) zaf),(zdo [((s89 w).get zaB.toNat).Use.Tie] [1] zab)⟩:Mp)⟩:web) (w64 (left - (1:Int)))).1).len),(zkP zbq.len zbq.get ((Slf69.r.S (⟨(⟨zaY,za0⟩:Net),(⟨(addN (zab [((s89 w).get zaB.toNat).Use.Tie]) zaf),(zdo [((s89 w).get zaB.toNat).Use.Tie] [1] zab)⟩:Mp)⟩:web) (w64 (left - (1:Int)))).1).get)⟩:Sl (Sl Int)) (zzG (((((Slf69.r.S (⟨(⟨zaY,za0⟩:Net),(⟨(addN (zab [((s89 w).get zaB.toNat).Use.Tie]) zaf),(zdo [((s89 w).get zaB.toNat).Use.Tie] [1] zab)⟩:Mp)⟩:web) (w64 (left - (1:Int)))).2).out).F) [((s89 w).get zaB.toNat).Use.Tie]) ((((Slf69.r.S (⟨(⟨zaY,za0⟩:Net),(⟨(addN (zab [((s89 w).get zaB.toNat).Use.Tie]) zaf),(zdo [((s89 w).get zaB.toNat).Use.Tie] [1] zab)⟩:Mp)⟩:web) (w64 (left - (1:Int)))).2).out).n)) (zx6 [((s89 w).get zaB.toNat).Use.Tie] ((((Slf69.r.S (⟨(⟨zaY,za0⟩:Net),(⟨(addN (zab [((s89 w).get zaB.toNat).Use.Tie]) zaf),(zdo [((s89 w).get zaB.toNat).Use.Tie] [1] zab)⟩:Mp)⟩:web) (w64 (left - (1:Int)))).2).out).F)))))))
 true)
def zgP (w : web) (left : Int) : Nat → Int → Int → (Sl Tie) → (Sl (Sl Int)) → Nat → (List Int → Option (List Int)) → ((Sl (Sl Int)) × web)
  | 0=>fun _ _ _ _ _ _=>default
  | k+1=>zme w left (zgP w left k)
def zgQ (w : web) (left : Int) : Nat → Int → Int → (Sl Tie) → (Sl (Sl Int)) → Nat → (List Int → Option (List Int)) → Bool
  | 0=>fun _ _ _ _ _ _=>false
  | k+1=>zmf w left (zgQ w left k)
def zrO (w:web) (left:Int) (zaB:Int) (zaY:Int) (za0:(Sl Tie)) (zbq:(Sl (Sl Int))) (zaf:Nat) (zab:(List Int→Option (List Int))):((Sl (Sl Int))×web):=zgP w left Fuel zaB zaY za0 zbq zaf zab
def zrP (w:web) (left:Int) (zaB:Int) (zaY:Int) (za0:(Sl Tie)) (zbq:(Sl (Sl Int))) (zaf:Nat) (zab:(List Int→Option (List Int))):Bool:=zgQ w left Fuel zaB zaY za0 zbq zaf zab
theorem zzn (K:List PA×List XA→Prop) (w:web) (left:Int) (zaB:Int) (zaY:Int) (za0:(Sl Tie)) (zbq:(Sl (Sl Int))) (zaf:Nat) (zab:(List Int→Option (List Int))) (zcl:Nat→List PV) (zjF:zcl=fun i=>zaj (za0.get i)) (zcm:Nat→List PV) (zjG:zcm=fun i=>zb0 (zbq.get i)) (hs:zrP w left zaB zaY za0 zbq zaf zab=true) (hk:K (zAb left (zrO w left zaB zaY za0 zbq zaf zab))):zgO (WkM K) w left zaB zaY za0.len zcl zbq.len zcm zaf zab:=by
  refine zsE (WkM K) w left zaB zaY za0.len zcl zbq.len zcm zaf zab ?_
  intro X0 hstep
  have key:∀ (k:Nat) (zaB:Int) (zaY:Int) (za0:(Sl Tie)) (zbq:(Sl (Sl Int))) (zaf:Nat) (zab:(List Int→Option (List Int))) (zcl:Nat→List PV) (zjF:zcl=fun i=>zaj (za0.get i)) (zcm:Nat→List PV) (zjG:zcm=fun i=>zb0 (zbq.get i)),zgQ w left k zaB zaY za0 zbq zaf zab=true→K (zAb left (zgP w left k zaB zaY za0 zbq zaf zab))→X0 (zfa w left zaB zaY za0.len zcl zbq.len zcm zaf zab):=by
    intro k
    induction k with
    | zero=>intro zaB zaY za0 zbq zaf zab zcl zjF zcm zjG hs;exact absurd hs Bool.false_ne_true
    | succ k ih =>
      intro zaB zaY za0 zbq zaf zab zcl zjF zcm zjG hs hk
      subst zjF
      subst zjG
      refine hstep zaB zaY za0 zbq zaf zab ?_
      have hs:zmf w left (zgQ w left k) zaB zaY za0 zbq zaf zab=true:=hs
      have hk:K (zAb left (zme w left (zgP w left k) zaB zaY za0 zbq zaf zab)):=hk
      unfold zmf at hs
      unfold zme at hk
      generalize zgP w left k=S0 at hk ih
      generalize zgQ w left k=P0 at hs ih
      have hX0:=ih
      exact (zaP (K := fun r => K (zAb left r))
 (fun hs hk => (za7 hs fun hc hs => ⟨hc, (zaP (K := fun r => K (zAb left r))
 (fun hs hk=>(hX0 (w64 (zaB+(1:Int))) zaY za0 zbq zaf zab (fun i=>zaj (za0.get i)) rfl (fun i=>zb0 (zbq.get i)) rfl hs hk))
 (fun hs hk=>(za7 hs fun hc hs=>⟨⟨isE,rfl,hc⟩,(za7 hs fun hc hs=>⟨hc,(hX0 (w64 (zaB+(1:Int))) (((Slf69.r.S (⟨(⟨zaY,za0⟩:Net),(⟨(addN (zab [((s89 w).get zaB.toNat).Use.Tie]) zaf),(zdo [((s89 w).get zaB.toNat).Use.Tie] [1] zab)⟩:Mp)⟩:web) (w64 (left - (1:Int)))).2).Net.Nodes) (((Slf69.r.S (⟨(⟨zaY,za0⟩:Net),(⟨(addN (zab [((s89 w).get zaB.toNat).Use.Tie]) zaf),(zdo [((s89 w).get zaB.toNat).Use.Tie] [1] zab)⟩:Mp)⟩:web) (w64 (left - (1:Int)))).2).Net.Ties) (⟨(zbq.len+((Slf69.r.S (⟨(⟨zaY,za0⟩:Net),(⟨(addN (zab [((s89 w).get zaB.toNat).Use.Tie]) zaf),(zdo [((s89 w).get zaB.toNat).Use.Tie] [1] zab)⟩:Mp)⟩:web) (w64 (left - (1:Int)))).1).len),(zkP zbq.len zbq.get ((Slf69.r.S (⟨(⟨zaY,za0⟩:Net),(⟨(addN (zab [((s89 w).get zaB.toNat).Use.Tie]) zaf),(zdo [((s89 w).get zaB.toNat).Use.Tie] [1] zab)⟩:Mp)⟩:web) (w64 (left - (1:Int)))).1).get)⟩:Sl (Sl Int)) (zzG (((((Slf69.r.S (⟨(⟨zaY,za0⟩:Net),(⟨(addN (zab [((s89 w).get zaB.toNat).Use.Tie]) zaf),(zdo [((s89 w).get zaB.toNat).Use.Tie] [1] zab)⟩:Mp)⟩:web) (w64 (left - (1:Int)))).2).out).F) [((s89 w).get zaB.toNat).Use.Tie]) ((((Slf69.r.S (⟨(⟨zaY,za0⟩:Net),(⟨(addN (zab [((s89 w).get zaB.toNat).Use.Tie]) zaf),(zdo [((s89 w).get zaB.toNat).Use.Tie] [1] zab)⟩:Mp)⟩:web) (w64 (left - (1:Int)))).2).out).n)) (zx6 [((s89 w).get zaB.toNat).Use.Tie] ((((Slf69.r.S (⟨(⟨zaY,za0⟩:Net),(⟨(addN (zab [((s89 w).get zaB.toNat).Use.Tie]) zaf),(zdo [((s89 w).get zaB.toNat).Use.Tie] [1] zab)⟩:Mp)⟩:web) (w64 (left - (1:Int)))).2).out).F)) (fun i=>zaj (((Slf69.r.S (⟨(⟨zaY,za0⟩:Net),(⟨(addN (zab [((s89 w).get zaB.toNat).Use.Tie]) zaf),(zdo [((s89 w).get zaB.toNat).Use.Tie] [1] zab)⟩:Mp)⟩:web) (w64 (left - (1:Int)))).2).Net.Ties.get i)) rfl (appG zbq.len (fun i=>zb0 (zbq.get i)) (fun i=>zb0 (((Slf69.r.S (⟨(⟨zaY,za0⟩:Net),(⟨(addN (zab [((s89 w).get zaB.toNat).Use.Tie]) zaf),(zdo [((s89 w).get zaB.toNat).Use.Tie] [1] zab)⟩:Mp)⟩:web) (w64 (left - (1:Int)))).1).get i))) (zi3 (enc:=zb0) (f:=zbq.get) (h:=((Slf69.r.S (⟨(⟨zaY,za0⟩:Net),(⟨(addN (zab [((s89 w).get zaB.toNat).Use.Tie]) zaf),(zdo [((s89 w).get zaB.toNat).Use.Tie] [1] zab)⟩:Mp)⟩:web) (w64 (left - (1:Int)))).1).get) rfl rfl) hs hk)⟩)⟩)) hs hk)⟩))
 (fun hs hk=>(zus hk)) hs hk)
  exact key _ zaB zaY za0 zbq zaf zab zcl zjF zcm zjG hs hk
def zx3 (w:web) (left:Int):((Sl (Sl Int))×web) :=
  (cond (!(s88 w))
 ((⟨1,fun _=>(⟨w.out.n,(fun i=>(zsK w.out.F w.out.n).getD i 0)⟩:(Sl Int))⟩:(Sl (Sl Int))),w)
 (cond (left == (0:Int))
 ((⟨0,fun _=>default⟩:(Sl (Sl Int))),w)
 (zrO w left (0:Int) w.Net.Nodes w.Net.Ties (⟨0,(fun _=>default)⟩:Sl (Sl Int)) w.out.n w.out.F)))
def zGi (w:web) (left:Int):Bool :=
  (decide ((p88 w=true)) &&
 (cond (!(s88 w))
 (decide ((w.out.n≤1000000∧(zsJ w.out.F 9223372036854775808 0 w.out.n).isSome=true)) &&
 true)
 (cond (left == (0:Int))
 true
 (decide ((p89 w=true)) &&
 (zrP w left (0:Int) w.Net.Nodes w.Net.Ties (⟨0,(fun _=>default)⟩:Sl (Sl Int)) w.out.n w.out.F)))))
theorem zIq (w:web) (left:Int) (K:List PA×List XA→Prop) (hs:zGi w left=true) (hk:K (zAb left (zx3 w left))):ziZ Tryd.prog zzl zeE 69 [.box 105 [.p (.int .i64 w.Net.Nodes),.p (.sl w.Net.Ties.len 4 (fun i=>zaj (w.Net.Ties.get i))),.mo 3 4 (false,1,false,[none]) w.out.n w.out.F],.d (.one (.int .i64 left))] (fun a b=>(WkM K) (a,b)):=by
  refine zbh (zzm w left (WkM K)) ?_
  unfold zGi at hs
  unfold zx3 at hk
  exact (za7 hs fun hc hs => ⟨⟨isE, rfl, hc⟩, (zaP (K := fun r => K (zAb left r))
 (fun hs hk=>(za7 hs fun hc hs=>⟨hc,(zus hk)⟩))
 (fun hs hk => (zaP (K := fun r => K (zAb left r))
 (fun hs hk=>(wkM hk (zc5 (.one (.nil _ _)) zgw)))
 (fun hs hk=>(za7 hs fun hc hs=>⟨⟨(fun _=>rfl),isE,rfl,hc⟩,(zzn K w left (0:Int) w.Net.Nodes w.Net.Ties (⟨0,(fun _=>default)⟩:Sl (Sl Int)) w.out.n w.out.F (fun i=>zaj (w.Net.Ties.get i)) rfl (fun i=>zb0 ((fun _=>default) i)) rfl hs hk)⟩)) hs hk)) hs hk)⟩)
def zE3 : MK
  | [.box 105 [.p (.int .i64 b0_Net_Nodes),.p (.sl b0_Net_Ties_n b0_Net_Ties_s b0_Net_Ties_g),.mo 3 4 b0_out_q b0_out_n b0_out_F],.d (.one (.int .i64 b1))]=>some (IsE zaj 4 b0_Net_Ties_s b0_Net_Ties_g∧b0_out_q=(false,1,false,[none])∧zGi (⟨(⟨b0_Net_Nodes,(⟨b0_Net_Ties_n,zaa b0_Net_Ties_g⟩:(Sl Tie))⟩:Net),(⟨b0_out_n,b0_out_F⟩:Mp)⟩:web) b1=true,[.one (.sl (((zx3 (⟨(⟨b0_Net_Nodes,(⟨b0_Net_Ties_n,zaa b0_Net_Ties_g⟩:(Sl Tie))⟩:Net),(⟨b0_out_n,b0_out_F⟩:Mp)⟩:web) b1).1).len) 1 (fun i=>zb0 (((zx3 (⟨(⟨b0_Net_Nodes,(⟨b0_Net_Ties_n,zaa b0_Net_Ties_g⟩:(Sl Tie))⟩:Net),(⟨b0_out_n,b0_out_F⟩:Mp)⟩:web) b1).1).get i)))],[.box 105 [.p (.int .i64 (((zx3 (⟨(⟨b0_Net_Nodes,(⟨b0_Net_Ties_n,zaa b0_Net_Ties_g⟩:(Sl Tie))⟩:Net),(⟨b0_out_n,b0_out_F⟩:Mp)⟩:web) b1).2).Net.Nodes)),.p (.sl (((zx3 (⟨(⟨b0_Net_Nodes,(⟨b0_Net_Ties_n,zaa b0_Net_Ties_g⟩:(Sl Tie))⟩:Net),(⟨b0_out_n,b0_out_F⟩:Mp)⟩:web) b1).2).Net.Ties.len) 4 (fun i=>zaj (((zx3 (⟨(⟨b0_Net_Nodes,(⟨b0_Net_Ties_n,zaa b0_Net_Ties_g⟩:(Sl Tie))⟩:Net),(⟨b0_out_n,b0_out_F⟩:Mp)⟩:web) b1).2).Net.Ties.get i))),.mo 3 4 (false,1,false,[none]) ((((zx3 (⟨(⟨b0_Net_Nodes,(⟨b0_Net_Ties_n,zaa b0_Net_Ties_g⟩:(Sl Tie))⟩:Net),(⟨b0_out_n,b0_out_F⟩:Mp)⟩:web) b1).2).out).n) ((((zx3 (⟨(⟨b0_Net_Nodes,(⟨b0_Net_Ties_n,zaa b0_Net_Ties_g⟩:(Sl Tie))⟩:Net),(⟨b0_out_n,b0_out_F⟩:Mp)⟩:web) b1).2).out).F)],.d (.one (.int .i64 b1))])
  | _=>none
theorem zE4:zas Tryd.prog 69:=⟨_,rfl,rfl,by kernel_rfl⟩
theorem zGU (hself:zhP Tryd.prog 69 zvl):zhP Tryd.prog 69 zE3:=zyY (zGT hself) zE4 fun xs safe rs ys h hs K hk=>by
  unfold zE3 at h
  split at h
  · rename_i b0_Net_Nodes b0_Net_Ties_n b0_Net_Ties_s b0_Net_Ties_g b0_out_q b0_out_n b0_out_F b1
    simp only [Option.some.injEq,Prod.mk.injEq] at h
    obtain ⟨rfl,rfl,rfl⟩:=h
    obtain ⟨⟨rfl,b0_Net_Ties_f,rfl⟩,rfl,hs⟩:=hs
    try rw [zar b0_Net_Ties_f] at hs
    try rw [zar b0_Net_Ties_f] at hk
    refine ⟨fun _ _=>[],fun _=>false,zeE,?_⟩
    show ziZ Tryd.prog zzl zeE 69 _ _
    exact zIq (⟨(⟨b0_Net_Nodes,(⟨b0_Net_Ties_n,b0_Net_Ties_f⟩:(Sl Tie))⟩:Net),(⟨b0_out_n,b0_out_F⟩:Mp)⟩:web) b1 (fun x=>K x.1 x.2) hs hk
  · cases h
end
def zsF : Nat → Rec69
  | 0=>⟨fun _ _=>default,fun _ _=>false⟩
  | k+1=>⟨@zx3 ⟨zsF k⟩,@zGi ⟨zsF k⟩⟩
theorem zE5 : ∀ k, zhP Tryd.prog 69 (@zvl ⟨zsF k⟩)
  | 0=>fun xs ys safe rs h hs=>by
    unfold zvl at h
    split at h
    · simp only [Option.some.injEq, Prod.mk.injEq] at h
      obtain ⟨rfl,rfl,rfl⟩:=h
      exact absurd hs.2.2 Bool.false_ne_true
    · cases h
  | k+1=>@zGU ⟨zsF k⟩ (zE5 k)
def s69 (w:web) (left:Int):((Sl (Sl Int))×web):=(zsF 64).S w left
def p69 (w:web) (left:Int):Bool:=(zsF 64).P w left
def zE6 : MK
  | [.box 105 [.p (.int .i64 b0_Net_Nodes),.p (.sl b0_Net_Ties_n b0_Net_Ties_s b0_Net_Ties_g),.mo 3 4 b0_out_q b0_out_n b0_out_F],.d (.one (.int .i64 b1))]=>some (IsE zaj 4 b0_Net_Ties_s b0_Net_Ties_g∧b0_out_q=(false,1,false,[none])∧p69 (⟨(⟨b0_Net_Nodes,(⟨b0_Net_Ties_n,zaa b0_Net_Ties_g⟩:(Sl Tie))⟩:Net),(⟨b0_out_n,b0_out_F⟩:Mp)⟩:web) b1=true,[.one (.sl (((s69 (⟨(⟨b0_Net_Nodes,(⟨b0_Net_Ties_n,zaa b0_Net_Ties_g⟩:(Sl Tie))⟩:Net),(⟨b0_out_n,b0_out_F⟩:Mp)⟩:web) b1).1).len) 1 (fun i=>zb0 (((s69 (⟨(⟨b0_Net_Nodes,(⟨b0_Net_Ties_n,zaa b0_Net_Ties_g⟩:(Sl Tie))⟩:Net),(⟨b0_out_n,b0_out_F⟩:Mp)⟩:web) b1).1).get i)))],[.box 105 [.p (.int .i64 (((s69 (⟨(⟨b0_Net_Nodes,(⟨b0_Net_Ties_n,zaa b0_Net_Ties_g⟩:(Sl Tie))⟩:Net),(⟨b0_out_n,b0_out_F⟩:Mp)⟩:web) b1).2).Net.Nodes)),.p (.sl (((s69 (⟨(⟨b0_Net_Nodes,(⟨b0_Net_Ties_n,zaa b0_Net_Ties_g⟩:(Sl Tie))⟩:Net),(⟨b0_out_n,b0_out_F⟩:Mp)⟩:web) b1).2).Net.Ties.len) 4 (fun i=>zaj (((s69 (⟨(⟨b0_Net_Nodes,(⟨b0_Net_Ties_n,zaa b0_Net_Ties_g⟩:(Sl Tie))⟩:Net),(⟨b0_out_n,b0_out_F⟩:Mp)⟩:web) b1).2).Net.Ties.get i))),.mo 3 4 (false,1,false,[none]) ((((s69 (⟨(⟨b0_Net_Nodes,(⟨b0_Net_Ties_n,zaa b0_Net_Ties_g⟩:(Sl Tie))⟩:Net),(⟨b0_out_n,b0_out_F⟩:Mp)⟩:web) b1).2).out).n) ((((s69 (⟨(⟨b0_Net_Nodes,(⟨b0_Net_Ties_n,zaa b0_Net_Ties_g⟩:(Sl Tie))⟩:Net),(⟨b0_out_n,b0_out_F⟩:Mp)⟩:web) b1).2).out).F)],.d (.one (.int .i64 b1))])
  | _=>none
theorem zIr:zhP Tryd.prog 69 zE6:=zE5 64
abbrev T71:Tabs:=(Tabs.nil.addF 101 zrC)
theorem zGV:TabsOk Tryd.prog T71:=(TabsOk.nil.addF zEU)
abbrev G71:Ctrs:=csm T71 (fun _ _=>[]) (fun _=>false)
def zBQ:Ann:=⟨36,[(0,zK [0,1] []),(1,zK [0,1,9,10,11] []),(2,zK [0,1,9,10,11,12] []),(3,zK [0,1,5,6,9,10,11] []),(4,zK [0,1,5,6,9,10,11,19] []),(5,zK [4] []),(6,zK [0,1,6,7,9,10,11] []),(7,zK [0,1,8,9,10,11] []),(8,zK [0,1,8,9,10,11,28] []),(9,zK [4] []),(10,zK [0,1,9,10,11] []),(11,zK [35] []),(12,zK [4] []),(13,zK [4] [])],
 [(2,zK [0,1,9,10,11] [])],
 [(6,zK [0,1,5,6,9,10,11] []),(8,zK [0,1,8,9,10,11] [])],
 [],[]⟩
abbrev R71:=Int
abbrev e71 (r:R71):List PA:=[.one (.int .i64 r)]
@[irreducible] def z71:=ptF Tryd.prog G71 zBQ Tryd.f71
def zAc (zd1:(Sl Int)) (zdC:(Sl Int)) (zjH:(Sl Int)) (zaD:Int) (zaS:Int) (zc0:Nat→List PV) (zc1:Nat→List PV) (zhJ:Nat→List PV):St:=⟨[(0,zP (.sl zd1.len 1 zc0)),(1,zP (.sl zdC.len 1 zc1)),(9,zP (.sl zjH.len 1 zhJ)),(10,zI zaD),(11,zI zaS)],[],[]⟩
abbrev zzo (K:List PA→Prop) (X:St→Prop) (P:(Sl Int)→(Sl Int)→(Sl Int)→Int→Int→Bool) (S:(Sl Int)→(Sl Int)→(Sl Int)→Int→Int→Int):Prop:=∀ ⦃zd1:(Sl Int)⦄ ⦃zdC:(Sl Int)⦄ ⦃zjH:(Sl Int)⦄ ⦃zaD:Int⦄ ⦃zaS:Int⦄ ⦃zc0:Nat→List PV⦄ ⦃zc1:Nat→List PV⦄ ⦃zhJ:Nat→List PV⦄,P zd1 zdC zjH zaD zaS=true→K (e71 (S zd1 zdC zjH zaD zaS))→zc0=zg zai zd1→zc1=zg zai zdC→zhJ=zg zai zjH→X (zAc zd1 zdC zjH zaD zaS zc0 zc1 zhJ)
section
variable {K:List PA→Prop} {s1_a0:(Sl Int)} {s2_a1:(Sl Int)} {zd1:(Sl Int)} {zdC:(Sl Int)} {zjH:(Sl Int)} {zaD:Int} {zaS:Int} {zc0:Nat→List PV} {zc1:Nat→List PV} {zhJ:Nat→List PV} {X0:St→Prop} {P0:(Sl Int)→(Sl Int)→(Sl Int)→Int→Int→Bool} {S0:(Sl Int)→(Sl Int)→(Sl Int)→Int→Int→Int} {zno:(Sl Int)} {zh5:(Sl Int)} {iv1:Int} {zBR:Int} {zpr:(Sl Int)} {zgR:Int} {zcy:Int} {znp:Nat→List PV} {znq:Nat→List PV} {zAd:Nat→List PV} {znr:(Sl Int)} {zns:(Sl Int)} {cv2:Int} {zps:Int} {znt:Nat→List PV} {znu:Nat→List PV}
def zvm (S0:(Sl Int)→(Sl Int)→(Sl Int)→Int→Int→Int) (zpr:(Sl Int)) (zgR:Int) (znr:(Sl Int)) (zns:(Sl Int)) (cv2:Int) (zps:Int):Int :=
  (cond (cv2 != (0:Int))
 cv2
 (S0 znr zns zpr zgR (w64 (zps+(1:Int)))))
def zvn (P0:(Sl Int)→(Sl Int)→(Sl Int)→Int→Int→Bool) (zpr:(Sl Int)) (zgR:Int) (znr:(Sl Int)) (zns:(Sl Int)) (cv2:Int) (zps:Int):Bool :=
  (cond (cv2 != (0:Int))
 true
 (P0 znr zns zpr zgR (w64 (zps+(1:Int)))))
theorem zBS (hX0:zzo K X0 P0 S0) (hs:zvn P0 zpr zgR znr zns cv2 zps=true) (hk:K (e71 (zvm S0 zpr zgR znr zns cv2 zps))) (zuW:znt=zg zai znr) (zuX:znu=zg zai zns):z71 K [1,0,1,0,0,1,1,0,0,1,1,1,1] [X0] ⟨[(0,zP (.sl znr.len 1 znt)),(1,zP (.sl zns.len 1 znu)),(8,zI cv2),(9,zS zai 1 zpr),(10,zI zgR),(11,zI zps)],[],[]⟩:=by subst zuW;subst zuX;exact zbh (by kernel_rfl) (zc hs hk (fun hs hk=>hk) (fun hs hk=>(hX0 hs hk rfl rfl rfl)))
def zvo (S0:(Sl Int)→(Sl Int)→(Sl Int)→Int→Int→Int) (zno:(Sl Int)) (zh5:(Sl Int)) (iv1:Int) (zBR:Int) (zpr:(Sl Int)) (zgR:Int) (zcy:Int):Int :=
  (zvm S0 zpr zgR zno zh5 (zx2 zBR (zh5.get iv1.toNat)) zcy)
def zvp (P0:(Sl Int)→(Sl Int)→(Sl Int)→Int→Int→Bool) (zno:(Sl Int)) (zh5:(Sl Int)) (iv1:Int) (zBR:Int) (zpr:(Sl Int)) (zgR:Int) (zcy:Int):Bool :=
  (decide ((0≤iv1∧iv1 < (zh5.len:Int))) &&
 (zvn P0 zpr zgR zno zh5 (zx2 zBR (zh5.get iv1.toNat)) zcy))
theorem zBT (hX0:zzo K X0 P0 S0) (hs:zvp P0 zno zh5 iv1 zBR zpr zgR zcy=true) (hk:K (e71 (zvo S0 zno zh5 iv1 zBR zpr zgR zcy))) (zuY:znp=zg zai zno) (zuZ:znq=zg zai zh5) (zE7:zAd=zg zai zpr):z71 K [1,0,1,0,0,1,1,0,0,1,1] [X0] ⟨[(0,zP (.sl zno.len 1 znp)),(1,zP (.sl zh5.len 1 znq)),(5,zI iv1),(6,zI zBR),(9,zP (.sl zpr.len 1 zAd)),(10,zI zgR),(11,zI zcy)],[],[]⟩:=by subst zuY;subst zuZ;subst zE7;exact zbh (by kernel_rfl) (za7 hs fun hc hs=>And.intro hc (zBS hX0 hs hk rfl rfl))
def zvq (S0:(Sl Int)→(Sl Int)→(Sl Int)→Int→Int→Int) (zd1:(Sl Int)) (zdC:(Sl Int)) (zjH:(Sl Int)) (zaD:Int) (zaS:Int):Int :=
  (cond (decide (zaS < zaD))
 (cond (decide (zaS ≥ (zdC.len : Int)))
 (1:Int)
 (zvo S0 zd1 zdC zaS (zjH.get zaS.toNat) zjH zaD zaS))
 (cond (decide ((zd1.len : Int) < (zdC.len : Int)))
 (-1:Int)
 (0:Int)))
def zvr (P0:(Sl Int)→(Sl Int)→(Sl Int)→Int→Int→Bool) (zd1:(Sl Int)) (zdC:(Sl Int)) (zjH:(Sl Int)) (zaD:Int) (zaS:Int):Bool :=
  (cond (decide (zaS < zaD))
 (decide ((0≤zaS∧zaS < (zjH.len:Int))) &&
 (cond (decide (zaS ≥ (zdC.len : Int)))
 true
 (zvp P0 zd1 zdC zaS (zjH.get zaS.toNat) zjH zaD zaS)))
 true)
def zvs:Nat→(Sl Int)→(Sl Int)→(Sl Int)→Int→Int→Int:=lpO (fun _ _ _ _ _=>default) (zvq)
def zvt:Nat→(Sl Int)→(Sl Int)→(Sl Int)→Int→Int→Bool:=lpO (fun _ _ _ _ _=>false) (zvr)
def zvu (zd1:(Sl Int)) (zdC:(Sl Int)) (zjH:(Sl Int)) (zaD:Int) (zaS:Int):Int:=zvs Fuel zd1 zdC zjH zaD zaS
def zvv (zd1:(Sl Int)) (zdC:(Sl Int)) (zjH:(Sl Int)) (zaD:Int) (zaS:Int):Bool:=zvt Fuel zd1 zdC zjH zaD zaS
theorem zBU (hs:zvv zd1 zdC zjH zaD zaS=true) (hk:K (e71 (zvu zd1 zdC zjH zaD zaS))) (zjd:zc0=zg zai zd1) (zje:zc1=zg zai zdC) (zvw:zhJ=zg zai zjH):z71 K [1,0,1,0] [] (zAc zd1 zdC zjH zaD zaS zc0 zc1 zhJ) :=
  zl (fun X=>z71 K [1,0,1,0,0] [X]) (by kernel_rfl) fun X0 hX =>
  (show ∀ k, zzo K X0 (zvt k) (zvs k) from zkR _ _ (zvr) (zvq) (zzo K X0)
 (by intro _ _ _ _ _ _ _ _ hs;exact absurd hs Bool.false_ne_true)
 (by intro P0 S0 hX0 zd1 zdC zjH zaD zaS zc0 zc1 zhJ hs hk zjd zje zvw;subst zjd;subst zje;subst zvw;exact hX _ (zbh (by kernel_rfl) (zc hs hk (fun hs hk=>(za7 hs fun hc hs=>And.intro hc (zc hs hk (fun hs hk=>hk) (fun hs hk=>(zBT hX0 hs hk rfl rfl rfl))))) (fun hs hk=>(zt hk (fun hk=>hk) (fun hk=>hk))))))) _ hs hk zjd zje zvw
def s71 (s1_a0:(Sl Int)) (s2_a1:(Sl Int)):Int :=
  (zvu s1_a0 s2_a1 s1_a0 (s1_a0.len:Int) (0:Int))
def p71 (s1_a0:(Sl Int)) (s2_a1:(Sl Int)):Bool :=
  (zvv s1_a0 s2_a1 s1_a0 (s1_a0.len:Int) (0:Int))
end
theorem q71 (s1_a0:(Sl Int)) (s2_a1:(Sl Int)) (K:List PA→Prop) (hs:p71 s1_a0 s2_a1=true) (hk:K (e71 (s71 s1_a0 s2_a1))):vcFun Tryd.prog G71 zBQ 71 [.one (.sl s1_a0.len 1 (fun i=>zai (s1_a0.get i))),.one (.sl s2_a1.len 1 (fun i=>zai (s2_a1.get i)))] K :=
  zbh (by kernel_rfl) (zBU hs hk rfl rfl rfl)
def zBV : List PA → COut
  | [.one (.sl a0_n a0_s a0_g),.one (.sl a1_n a1_s a1_g)]=>.det (IsE zai 1 a0_s a0_g∧IsE zai 1 a1_s a1_g∧p71 (⟨a0_n,zat a0_g⟩:(Sl Int)) (⟨a1_n,zat a1_g⟩:(Sl Int))=true) [.one (.int .i64 (s71 (⟨a0_n,zat a0_g⟩:(Sl Int)) (⟨a1_n,zat a1_g⟩:(Sl Int))))]
  | _=>.no
theorem zE8:zas Tryd.prog 71:=⟨_,rfl,rfl,by kernel_rfl⟩
theorem zIs:Ok Tryd.prog 71 zBV:=zbJ zGV zE8 fun args K h=>by
  unfold zBV at h
  split at h
  · rename_i a0_n a0_s a0_g a1_n a1_s a1_g
    obtain ⟨⟨⟨rfl,a0_f,rfl⟩,⟨rfl,a1_f,rfl⟩,hs⟩,hk⟩:=h
    try rw [zbR a0_f] at hs
    try rw [zbR a0_f] at hk
    try rw [zbR a1_f] at hs
    try rw [zbR a1_f] at hk
    exact ⟨(fun _ _=>[]),(fun _=>false),zBQ,q71 (⟨a0_n,a0_f⟩:(Sl Int)) (⟨a1_n,a1_f⟩:(Sl Int)) K hs hk⟩
  · exact h.elim
abbrev T70:Tabs:=(Tabs.nil.addF 71 zBV)
theorem zGW:TabsOk Tryd.prog T70:=(TabsOk.nil.addF zIs)
abbrev G70:Ctrs:=csm T70 (fun _ _=>[]) (fun _=>false)
def zBW:Ann:=⟨33,[(0,zK [0,1] []),(1,zK [0,1,9] []),(3,zK [0,1,5] []),(4,zK [0,1,5,6] []),(5,zK [0,1,5,6,17] []),(6,zK [0,1,5,6] []),(7,zK [0,1,5,6,27] []),(8,zK [0,1,5,6] []),(9,zK [4] [])],
 [(5,zK [0,1,5,6] [])],
 [(3,zK [0,1] []),(8,zK [0,1,5,6,27] [])],
 [],[]⟩
abbrev R70:=(Sl Int)
abbrev e70 (r:R70):List PA:=[.one (.sl r.len 1 (fun i=>zai (r.get i)))]
@[irreducible] def z70:=ptF Tryd.prog G70 zBW Tryd.f70
def zAe (x:(Sl (Sl Int))) (mv1:(Sl Int)) (iv1:Int) (znF:Nat→List PV):St:=⟨[(0,zS zb0 1 x),(1,zP (.fn 71 [] [])),(5,zP (.sl mv1.len 1 znF)),(6,zI iv1)],[],[]⟩
abbrev zBX (K:List PA→Prop) (x:(Sl (Sl Int))) (X:St→Prop) (P:(Sl Int)→Int→Bool) (S:(Sl Int)→Int→(Sl Int)):Prop:=∀ ⦃mv1:(Sl Int)⦄ ⦃iv1:Int⦄ ⦃znF:Nat→List PV⦄,P mv1 iv1=true→K (e70 (S mv1 iv1))→znF=zg zai mv1→X (zAe x mv1 iv1 znF)
section
variable {K:List PA→Prop} {x:(Sl (Sl Int))} {mv1:(Sl Int)} {iv1:Int} {znF:Nat→List PV} {X1:St→Prop} {P1:(Sl Int)→Int→Bool} {S1:(Sl Int)→Int→(Sl Int)} {mv2:(Sl Int)} {iv2:Int} {zpt:Bool} {zE9:Nat→List PV}
def zvx (S1:(Sl Int)→Int→(Sl Int)) (x:(Sl (Sl Int))) (mv2:(Sl Int)) (iv2:Int) (zpt:Bool):(Sl Int) :=
  (cond zpt
 (S1 (x.get iv2.toNat) (w64 (iv2+(1:Int))))
 (S1 mv2 (w64 (iv2+(1:Int)))))
def zvy (P1:(Sl Int)→Int→Bool) (x:(Sl (Sl Int))) (mv2:(Sl Int)) (iv2:Int) (zpt:Bool):Bool :=
  (cond zpt
 (decide ((0≤iv2∧iv2 < (x.len:Int))) &&
 (P1 (x.get iv2.toNat) (w64 (iv2+(1:Int)))))
 (P1 mv2 (w64 (iv2+(1:Int)))))
theorem zBY (hX1:zBX K x X1 P1 S1) (hs:zvy P1 x mv2 iv2 zpt=true) (hk:K (e70 (zvx S1 x mv2 iv2 zpt))) (zGX:zE9=zg zai mv2):z70 K [1,1,1,0,1,0,0,1,0,0,1] [X1] ⟨[(0,zS zb0 1 x),(1,zP (.fn 71 [] [])),(5,zP (.sl mv2.len 1 zE9)),(6,zI iv2),(27,zB zpt)],[],[]⟩:=by subst zGX;exact zbh (by kernel_rfl) (zc hs hk (fun hs hk=>(za7 hs fun hc hs=>And.intro hc (hX1 hs hk rfl))) (fun hs hk=>(hX1 hs hk rfl)))
def zvz (x:(Sl (Sl Int))) (S1:(Sl Int)→Int→(Sl Int)) (mv1:(Sl Int)) (iv1:Int):(Sl Int) :=
  (cond (decide (iv1 < (x.len : Int)))
 (zvx S1 x mv1 iv1 (decide ((s71 (x.get iv1.toNat) mv1) < (0:Int))))
 mv1)
def zvA (x:(Sl (Sl Int))) (P1:(Sl Int)→Int→Bool) (mv1:(Sl Int)) (iv1:Int):Bool :=
  (cond (decide (iv1 < (x.len : Int)))
 (decide ((0≤iv1∧iv1 < (x.len:Int))) &&
 (decide ((p71 (x.get iv1.toNat) mv1=true)) &&
 (zvy P1 x mv1 iv1 (decide ((s71 (x.get iv1.toNat) mv1) < (0:Int))))))
 true)
def zvB (x:(Sl (Sl Int))):Nat→(Sl Int)→Int→(Sl Int):=lpO (fun _ _=>default) (zvz x)
def zvC (x:(Sl (Sl Int))):Nat→(Sl Int)→Int→Bool:=lpO (fun _ _=>false) (zvA x)
def zvD (x:(Sl (Sl Int))) (mv1:(Sl Int)) (iv1:Int):(Sl Int):=zvB x Fuel mv1 iv1
def zvE (x:(Sl (Sl Int))) (mv1:(Sl Int)) (iv1:Int):Bool:=zvC x Fuel mv1 iv1
theorem zBZ (hs:zvE x mv1 iv1=true) (hk:K (e70 (zvD x mv1 iv1))) (zB0:znF=zg zai mv1):z70 K [1,1,1,0,1,0] [] (zAe x mv1 iv1 znF) :=
  zl (fun X=>z70 K [1,1,1,0,1,0,0] [X]) (by kernel_rfl) fun X1 hX =>
  (show ∀ k, zBX K x X1 (zvC x k) (zvB x k) from zkR _ _ (zvA x) (zvz x) (zBX K x X1)
 (by intro _ _ _ hs;exact absurd hs Bool.false_ne_true)
 (by intro P1 S1 hX1 mv1 iv1 znF hs hk zB0;subst zB0;exact hX _ (zbh (by kernel_rfl) (zc hs hk (fun hs hk=>(za7 hs fun hc hs=>And.intro hc (za7 hs fun hc hs=>And.intro (And.intro (zE zai 1 ((x.get iv1.toNat).get)) (And.intro (zE zai 1 mv1.get) hc)) (zBY hX1 hs hk rfl)))) (fun hs hk=>hk))))) _ hs hk zB0
def zvF (x:(Sl (Sl Int))):(Sl Int) :=
  (zvD x (x.get 0) (1:Int))
def zvG (x:(Sl (Sl Int))):Bool :=
  (decide ((0≤(0:Int)∧(0:Int) < (x.len:Int))) &&
 (zvE x (x.get 0) (1:Int)))
theorem zB1 (hs:zvG x=true) (hk:K (e70 (zvF x))):z70 K [1,1] [] ⟨[(0,zS zb0 1 x),(1,zP (.fn 71 [] []))],[],[]⟩:=zbh (by kernel_rfl) (za7 hs fun hc hs=>And.intro hc (zBZ hs hk rfl))
def s70 (x:(Sl (Sl Int))):(Sl Int) :=
  (cond (decide ((x.len : Int) < (1:Int)))
 default
 (zvF x))
def p70 (x:(Sl (Sl Int))):Bool :=
  (cond (decide ((x.len : Int) < (1:Int)))
 false
 (zvG x))
end
theorem q70 (x:(Sl (Sl Int))) (K:List PA→Prop) (hs:p70 x=true) (hk:K (e70 (s70 x))):vcFun Tryd.prog G70 zBW 70 [.one (.sl x.len 1 (fun i=>zb0 (x.get i))),.one (.fn 71 [] [])] K :=
  zbh (by kernel_rfl) (zc hs hk (fun hs hk=>(absurd hs Bool.false_ne_true:False)) (fun hs hk=>(zB1 hs hk)))
def zB2 : List PA → COut
  | [.one (.sl a0_n a0_s a0_g),.one (.fn 71 [] [])]=>.det (IsE zb0 1 a0_s a0_g∧p70 (⟨a0_n,zlO a0_g⟩:(Sl (Sl Int)))=true) [.one (.sl ((s70 (⟨a0_n,zlO a0_g⟩:(Sl (Sl Int)))).len) 1 (fun i=>zai ((s70 (⟨a0_n,zlO a0_g⟩:(Sl (Sl Int)))).get i)))]
  | _=>.no
theorem zFa:zas Tryd.prog 70:=⟨_,rfl,rfl,by kernel_rfl⟩
theorem zIt:Ok Tryd.prog 70 zB2:=zbJ zGW zFa fun args K h=>by
  unfold zB2 at h
  split at h
  · rename_i a0_n a0_s a0_g
    obtain ⟨⟨⟨rfl,a0_f,rfl⟩,hs⟩,hk⟩:=h
    try rw [zi4 a0_f] at hs
    try rw [zi4 a0_f] at hk
    exact ⟨(fun _ _=>[]),(fun _=>false),zBW,q70 (⟨a0_n,a0_f⟩:(Sl (Sl Int))) K hs hk⟩
  · exact h.elim
end Go.Proofs
