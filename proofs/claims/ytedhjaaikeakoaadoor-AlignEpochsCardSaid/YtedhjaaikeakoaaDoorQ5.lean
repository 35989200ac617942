/- Part 5 of what the proof rests on: a machine that runs functions of the program on pure values, proved sound; the functions that the law reaches, and what they compute. -/
import Derived.Test.YtedhjaaikeakoaaDoorQ4
import Derived.Sort.OwnSortedInts
import Derived.Lib.SlicesCompact
import Derived.Test.YtedhjaaikeakoaaDoorProg
import Derived.ProofKit
import Derived.Deep.Slices
import Derived.OpenShut
import Derived.Shelf.SlIterI.Nil
import Derived.Shelf.SortM.Plain
import Derived.Shelf.SortM.SortNone
import Derived.Ground.GgzProg
import Derived.Ground.SlgmProg
set_option linter.all false
namespace Go.Pm

structure Tabs where
  fn:List (Nat×(List PA→COut))
  own:List (Nat×OwnK)
  it:List (Nat×(List PA→Option (Prop×List (List PA))))
  mt:List (Nat×MK)
def zxx : List (Nat × (List PA → COut)) → Nat → List PA → COut
  | [],_=>fun _=>.no
  | (k,c) :: r,n=>match Nat.beq k n with | true=>c | false=>zxx r n
def zxy (l:List (Nat×OwnK)) (f:Nat):OwnK:=match lk l f with | some c=>c | none=>.none
def zEI (l:List (Nat×(List PA→Option (Prop×List (List PA))))) (f:Nat):List PA→Option (Prop×List (List PA)):=match lk l f with | some c=>c | none=>fun _=>none
def csm (T:Tabs) (memo:Nat→Int→List Int) (vv:Nat→Bool):Ctrs:=⟨zxx T.fn,zxy T.own,zEI T.it,memo,vv,lk T.mt⟩
abbrev cs (T:Tabs):Ctrs:=csm T (fun _ _=>[]) (fun _=>false)
def Tabs.nil:Tabs:=⟨[],[],[],[]⟩
def Tabs.addF (T:Tabs) (f:Nat) (c:List PA→COut):Tabs:=⟨(f,c) :: T.fn,T.own,T.it,T.mt⟩
def Tabs.addO (T:Tabs) (f:Nat) (c:OwnK):Tabs:=⟨T.fn,(f,c) :: T.own,T.it,T.mt⟩
def Tabs.addI (T:Tabs) (f:Nat) (c:List PA→Option (Prop×List (List PA))):Tabs:=⟨T.fn,T.own,(f,c) :: T.it,T.mt⟩
def Tabs.addM (T:Tabs) (f:Nat) (c:MK):Tabs:=⟨T.fn,T.own,T.it,(f,c) :: T.mt⟩

theorem zKC {P:Program} {f:Nat} : Ok P f (fun _=>.no):=fun _ _ h=>h.elim
theorem zKD {P:Program} {f:Nat} : zDb P f (fun _=>none):=fun _ _ _ h=>by cases h

structure TabsOk (P : Program) (T : Tabs) : Prop where
  fn:∀ x∈T.fn,Ok P x.1 x.2
  own:∀ x∈T.own,zpa P x.1 x.2
  it:∀ x∈T.it,zDb P x.1 x.2
  mt:∀ x∈T.mt,zjO P x.1 x.2
theorem TabsOk.nil {P:Program} : TabsOk P .nil:=⟨fun _ h=>(by cases h),fun _ h=>(by cases h),fun _ h=>(by cases h),fun _ h=>(by cases h)⟩
theorem TabsOk.addF {P:Program} {T:Tabs} (h:TabsOk P T) {f:Nat} {c:List PA→COut} (hc:Ok P f c):TabsOk P (T.addF f c) :=
 ⟨fun x hx=>(List.mem_cons.1 hx).elim (fun e=>by rw [e];exact hc) (fun hx=>h.fn x hx),h.own,h.it,h.mt⟩
theorem TabsOk.addO {P:Program} {T:Tabs} (h:TabsOk P T) {f:Nat} {c:OwnK} (hc:zpa P f c):TabsOk P (T.addO f c) :=
 ⟨h.fn,fun x hx=>(List.mem_cons.1 hx).elim (fun e=>by rw [e];exact hc) (fun hx=>h.own x hx),h.it,h.mt⟩
theorem TabsOk.addI {P:Program} {T:Tabs} (h:TabsOk P T) {f:Nat} {c:List PA→Option (Prop×List (List PA))} (hc:zDb P f c):TabsOk P (T.addI f c) :=
 ⟨h.fn,h.own,fun x hx=>(List.mem_cons.1 hx).elim (fun e=>by rw [e];exact hc) (fun hx=>h.it x hx),h.mt⟩
theorem TabsOk.addM {P:Program} {T:Tabs} (h:TabsOk P T) {f:Nat} {c:MK} (hc:zjO P f c):TabsOk P (T.addM f c) :=
 ⟨h.fn,h.own,h.it,fun x hx=>(List.mem_cons.1 hx).elim (fun e=>by rw [e];exact hc) (fun hx=>h.mt x hx)⟩
theorem TabsOk.all {P:Program} {T:Tabs} (h:TabsOk P T) (memo:Nat→Int→List Int) (vv:Nat→Bool):OkAll P (csm T memo vv):=by
 refine ⟨fun f C hC=>h.mt _ (zcb hC),fun f=>?_,fun f=>?_,fun f=>?_⟩
 ·show Ok P f (zxx T.fn f)
  have key:∀ l:List (Nat×(List PA→COut)),(∀ x∈l,Ok P x.1 x.2)→Ok P f (zxx l f):=by
   intro l
   induction l with
   | nil=>intro _;exact zKC
   | cons x l ih =>
    intro hl
    obtain ⟨k,c⟩:=x
    simp only [zxx]
    split
    ·rename_i e
     have:=hl (k,c) List.mem_cons_self
     rw [← Nat.eq_of_beq_eq_true e];exact this
    ·exact ih fun x hx=>hl x (List.mem_cons_of_mem _ hx)
  exact key T.fn h.fn
 ·show zpa P f (zxy T.own f)
  unfold zxy
  split
  ·rename_i c hc;exact h.own _ (zcb hc)
  ·trivial
 ·show zDb P f (zEI T.it f)
  unfold zEI
  split
  ·rename_i c hc;exact h.it _ (zcb hc)
  ·exact zKD

theorem zbY {P : Program} {T : Tabs} (hT : TabsOk P T) {f : FuncId} {C : List PA → COut} (hc : zax P f)
    (h:∀ args K,(C args).wp K→∃ memo vv ann,vcFun P (csm T memo vv) ann f args K):Ok P f C :=
  zB7 (hT.all (fun _ _=>[]) (fun _=>false)) hc h
theorem zEJ {P : Program} {T : Tabs} (hT : TabsOk P T) {f : FuncId} {C : MK} (hc : zax P f)
    (h:∀ xs safe rs ys,C xs=some (safe,rs,ys)→safe→∀ K:List PA→List XA→Prop,K rs ys→∃ memo vv ann,zk1 P (csm T memo vv) ann f xs K):zjO P f C :=
  zxw (hT.all (fun _ _=>[]) (fun _=>false)) hc h
theorem zIn {P : Program} {T : Tabs} (hT : TabsOk P T) {f : FuncId} {C : List PA → Option (Prop × List (List PA))} (hc : zax P f)
    (h:∀ l caps safe ys,C caps=some (safe,ys)→safe→∃ memo vv ann,vcIter P (csm T memo vv) ann f l caps ys):zDb P f C :=
  zCb (hT.all (fun _ _=>[]) (fun _=>false)) hc h
structure Sl (α : Type) where
  len:Nat
  get:Nat→α
instance {α:Type} [Inhabited α]:Inhabited (Sl α):=⟨⟨0,fun _=>default⟩⟩
abbrev w64 (x:Int):Int:=IntKind.i64.wrap x

def IsE {α:Type} (enc:α→List PV) (size s:Nat) (g:Nat→List PV):Prop:=s=size∧∃ f:Nat→α,g=fun i=>enc (f i)
theorem isE {α:Type} {enc:α→List PV} {size:Nat} {f:Nat→α} : IsE enc size size (fun i=>enc (f i)):=⟨rfl,f,rfl⟩
theorem zxz {α:Type} {enc:α→List PV} {size:Nat} {x:α} : IsE enc size size (fun _=>enc x):=⟨rfl,fun _=>x,rfl⟩
def zms {α:Type} (n:Nat) (get new:Nat→α):Nat→α:=fun j=>match Nat.ble n j with | true=>new (j - n) | false=>get j
theorem zCf {α:Type} {enc:α→List PV} {n:Nat} {f h:Nat→α} : appG n (fun i=>enc (f i)) (fun i=>enc (h i))=fun i=>enc (zms n f h i):=by
 funext j;simp only [appG,zms];cases Nat.ble n j <;> rfl
def zqQ {α : Type} (x : α) : List α → Nat → α
  | [],_=>x
  | y :: _,0=>y
  | _ :: r,i+1=>zqQ x r i
theorem zuj {α:Type} {enc:α→List PV} {x y:α} {r:List α} : zbU (enc x :: enc y :: r.map enc)=fun i=>enc (zqQ x (x :: y :: r) i):=by
 have key:∀ (l:List α) (i:Nat),(match (l.map enc)[i]? with | some z=>z | none=>enc x)=enc (zqQ x l i):=by
  intro l
  induction l with
  | nil=>intro i;rfl
  | cons a l ih =>
   intro i
   cases i with
   | zero=>rfl
   | succ i=>simpa [zqQ] using ih i
 funext i
 exact key (x :: y :: r) i
theorem zeN {α:Type} {enc:α→List PV} {size:Nat} {x y:α} (r:List α):IsE enc size size (zbU (enc x :: enc y :: r.map enc)):=⟨rfl,_,zuj⟩

theorem za2 {b:Bool} {A B:Prop} {S S':Bool} {α:Type} {K:α→Prop} {x y:α} (h1:S=true→K x→A) (h2:S'=true→K y→B) (hs:cond b S S'=true) (hk:K (cond b x y)):zbV b A B:=by
 cases b
 ·exact h2 hs hk
 ·exact h1 hs hk
theorem zhZ {b:Bool} {A B:Prop} {S S':Bool} {α β:Type} {f:α→β} {ys:List β} {x y:List α} (hs:cond b S S'=true) (hk:ys=(cond b x y).map f) (h1:S=true→ys=x.map f→A) (h2:S'=true→ys=y.map f→B):zbV b A B:=by
 cases b
 ·exact h2 hs hk
 ·exact h1 hs hk
theorem itY {α β:Type} {f:α→β} {ys:List β} {p:β} {x r:List α} {l:Nat} {A:List β→Prop} (hk:ys=x.map f) (e:x.map f=p :: r.map f) (h:∀ zs,zs=r.map f→A zs):l=l∧∃ z,ys=p :: z∧A z∧True :=
 ⟨rfl,_,hk.trans e,h _ rfl,trivial⟩
theorem za6 {C A:Prop} [d:Decidable C] {r:Bool} (hs:(decide C && r)=true) (k:C→r=true→A):A:=by
 rw [Bool.and_eq_true] at hs
 exact k (of_decide_eq_true hs.1) hs.2
abbrev Fuel:Nat:=9223372036854775808
def setT {α:Type} (i:Nat) (v:α) (get:Nat→α):Nat→α:=fun j=>match Nat.beq j i with | true=>v | false=>get j
theorem zh0 {α:Type} {enc:α→List PV} {n:Nat} {g g':Nat→List PV} {f h:Nat→α} (h1:g=fun i=>enc (f i)) (h2:g'=fun i=>enc (h i)):appG n g g'=fun i=>enc (zms n f h i):=by
 subst h1;subst h2;exact zCf
theorem zm5 {α:Type} {enc:α→List PV} {i k:Nat} {g:Nat→List PV} {f:Nat→α} {new:List PV} {v:α} (h1:g=fun i=>enc (f i)) (h2:spl (enc (f i)) k new=enc v):zjR i k g new=fun j=>enc (setT i v f j):=by
 subst h1
 funext j
 simp only [zjR,setT]
 cases e:Nat.beq j i
 ·rfl
 ·have := Nat.eq_of_beq_eq_true e
  subst this;exact h2
def zv1 (P:Program) (G:Ctrs) (ann:Ann) (hd:Nat) (ps:List Nat) (assign body:Code) (X:List (List PA)→St→Prop) (K:Exit→St→Prop) (y:List PA) (rest:List (List PA)) (s:St):Prop :=
 match lk ann.head hd with
 | some k=>match zhL ps y s.env with
  | some env=>vc P G ann assign (zDa (vc P G ann body (zmE P k (X rest) K)) fun _ _=>False) ⟨env,s.objs,[]⟩
  | none=>False
 | none=>False
end Go.Pm
namespace Go.Pm
open Go Go.Sort

/-! Nil slices are slices of length 0. -/
inductive PVle : PV → PV → Prop
  | rfl (p:PV):PVle p p
  | nil (s:Nat) (g:Nat→List PV):PVle .nils (.sl 0 s g)
  | nilm (q:MQ):PVle .nilm (.fm q 0 (fun _=>none))
inductive PAle : PA → PA → Prop
  | one {p q:PV} : PVle p q→PAle (.one p) (.one q)
  | agg {l m:List PV} : RL PVle l m→PAle (.agg l) (.agg m)
theorem zeB {α β:Type} {R:α→β→Prop} : RL R [] []:=trivial
theorem zcw {α β:Type} {R:α→β→Prop} {a:α} {b:β} {l:List α} {m:List β} (h:R a b) (h':RL R l m):RL R (a :: l) (b :: m):=⟨h,h'⟩
theorem zff {α : Type} {R : α → α → Prop} (h : ∀ a, R a a) : ∀ l : List α, RL R l l
  | []=>trivial
  | a :: l=>⟨h a,zff h l⟩
theorem zfR (a:PA):PAle a a:=by
 cases a with
 | one p=>exact .one (.rfl p)
 | agg l=>exact .agg (zff .rfl l)
def Wk (K:List PA→Prop) (l:List PA):Prop:=∃ l',RL PAle l l'∧K l'
theorem wk {K:List PA→Prop} {l l':List PA} (hk:K l') (h:RL PAle l l'):Wk K l:=⟨l',h,hk⟩
theorem zfS {K:List PA→Prop} {l:List PA} (hk:K l):Wk K l:=⟨l,zff zfR l,hk⟩
theorem zIo {h:Fz} {p q:PV} {v:Value} (e:PVle p q) (r:Rep h p v):Rep h q v:=by
 cases e with
 | rfl=>exact r
 | nil s g=>cases r;exact .sl0 s g
 | nilm q=>cases r;exact .fmn q _ (fun _ _=>rfl)
theorem zxA {α β γ : Type} {R : α → β → Prop} {S : α → γ → Prop} {T : γ → β → Prop} (h : ∀ a b c, S a c → R a b → T c b) : ∀ (l : List α) (m : List β) (k : List γ), RL S l k → RL R l m → RL T k m
  | [],[],[],_,_=>trivial
  | a :: l,b :: m,c :: k,hs,hr=>⟨h a b c hs.1 hr.1,zxA h l m k hs.2 hr.2⟩
  | [],_ :: _,[],_,hr=>hr.elim
  | [],_,_ :: _,hs,_=>hs.elim
  | _ :: _,_,[],hs,_=>hs.elim
  | _ :: _,[],_ :: _,_,hr=>hr.elim
theorem zCg {h:Fz} {a b:PA} {v:Value} (e:PAle a b) (r:paR h a v):paR h b v:=by
 cases e with
 | one e=>exact zIo e r
 | agg e =>
  obtain ⟨vs,rfl,hv⟩:=r
  exact ⟨vs,rfl,zxA (R:=Rep h) (S:=PVle) (T:=Rep h) (fun _ _ _ e r=>zIo e r) _ _ _ e hv⟩
theorem zxB {h:Fz} {l m:List PA} {v:Value} (e:RL PAle l m) (r:zo3 h l v):zo3 h m v:=by
 match l,m,e,r with
 | [a],[b],e,r=>exact zCg e.1 r
 | [],[],_,r=>exact r
 | a :: b :: l,c :: d :: m,e,r =>
  obtain ⟨vs,hv,hr⟩:=r
  exact ⟨vs,hv,zxA (R:=paR h) (S:=PAle) (T:=paR h) (fun _ _ _ e r=>zCg e r) _ _ _ e hr⟩
 | [_],_ :: _ :: _,e,_=>exact e.2.elim
 | _ :: _ :: _,[_],e,_=>exact e.2.elim
 | [],_ :: _,e,_=>exact e.elim
 | _ :: _,[],e,_=>exact e.elim
theorem zgf {P : Program} {T : Tabs} (hT : TabsOk P T) {f : FuncId} {C : List PA → COut} (hc : zax P f)
    (h:∀ args K,(C args).wp K→∃ args',RL PAle args args'∧∃ memo vv ann,vcFun P (csm T memo vv) ann f args' (Wk K)):Ok P f C:=by
  intro args K hK w h0 vs hvs hfz hgl
  obtain ⟨args',hle,memo,vv,ann,hv⟩:=h args K hK
  refine ⟨hc,(zxp (hT.all memo vv) hv (zxA (R:=paR h0) (S:=PAle) (T:=paR h0) (fun _ _ _ e r=>zCg e r) _ _ _ hle hvs) hfz hgl).mono ?_⟩
  rintro e w' ⟨h',rs,v,⟨rs',hr,hk⟩,he,hres,rest⟩
  exact ⟨h',rs',v,hk,he,zxB hr hres,rest⟩
theorem zCh {P : Program} {T : Tabs} (hT : TabsOk P T) {f : FuncId} {C : MK} (hc : zax P f)
    (h:∀ xs safe rs ys,C xs=some (safe,rs,ys)→safe→∀ K:List PA→List XA→Prop,K rs ys→∃ memo vv ann,zk1 P (csm T memo vv) ann f xs (fun a b=>Wk (fun a'=>K a' b) a)):zjO P f C:=by
  intro xs ys safe rs hC hs w h0 base vs hvs hn hK hw hgl hB
  obtain ⟨memo,vv,ann,hv⟩:=h xs safe rs ys hC hs (fun l zs=>l=rs∧zs=ys) ⟨rfl,rfl⟩
  refine ⟨hc,(zxv (hT.all memo vv) hv hvs hn hK hw hgl hB).mono ?_⟩
  rintro e w' ⟨h',v,rs',ys',⟨rs2,hr,rfl,rfl⟩,he,hres,r⟩
  exact ⟨h',v,he,zxB hr hres,r⟩
def WkM (K:List PA×List XA→Prop) (p:List PA×List XA):Prop:=Wk (fun a=>K (a,p.2)) p.1
theorem wkM {K:List PA×List XA→Prop} {l l':List PA} {b:List XA} (hk:K (l',b)) (h:RL PAle l l'):WkM K (l,b):=⟨l',h,hk⟩
theorem zxC {K:List PA×List XA→Prop} {p:List PA×List XA} (hk:K p):WkM K p:=⟨p.1,zff zfR p.1,hk⟩
/-! Maps, as typed values; the keys of a map. -/
structure Mp where
  n:Nat
  F:List Int→Option (List Int)
instance:Inhabited Mp:=⟨⟨0,fun _=>none⟩⟩

end Go.Pm
namespace Go.Pm

abbrev zI (x:Int):DV:=.one (.c (.p (.int .i64 x)))
abbrev zB (x:Bool):DV:=.one (.c (.p (.bool x)))
abbrev zP (x:PV):DV:=.one (.c (.p x))
abbrev zp (L k:Nat):DV:=.one (.c (.ptr L k))
abbrev zv (L:Nat):DV:=.one (.c (.vec L))
abbrev zs {α:Type} (enc:α→List PV) (s:Nat) (x:Sl α):PV:=.sl x.len s (fun i=>enc (x.get i))
abbrev zS {α:Type} (enc:α→List PV) (s:Nat) (x:Sl α):DV:=zP (zs enc s x)
abbrev zm (l:List PV):List Cl:=l.map Cl.p
abbrev zi (x:Int):Cl:=.p (.int .i64 x)
abbrev zg {α:Type} (enc:α→List PV) (x:Sl α):Nat→List PV:=fun i=>enc (x.get i)
abbrev zK (a b:List Nat):Keep:=⟨a,b,[],[],[],[],[]⟩
theorem zE {α:Type} (enc:α→List PV) (size:Nat) (f:Nat→α):IsE enc size size (fun i=>enc (f i)):=⟨rfl,f,rfl⟩

theorem zxD {α : Type} : ∀ (new l pre : List α), l.length = new.length → spl (pre ++ l) pre.length new = pre ++ new
  | [],l,pre,h=>by
    have:l=[]:=List.eq_nil_of_length_eq_zero h
    subst this;rfl
  | x :: r,[],pre,h=>by simp at h
  | x :: r,y :: l,pre,h=>by
    have e:=zxD r l (pre ++ [x]) (by simpa using h)
    simp only [spl,List.append_assoc,List.singleton_append,List.length_append,List.length_singleton] at e ⊢
    rw [List.set_append_right _ _ (Nat.le_refl _),Nat.sub_self,List.set_cons_zero]
    exact e
theorem zn1 {n:Nat} {F G:Nat→Int} : spl (zis 0 n F) 0 (zis 0 n G)=zis 0 n G:=by
 have h:=zxD (zis 0 n G) (zis 0 n F) [] (by rw [zfl,zfl])
 simpa using h
theorem zn2 {n:Nat} {F:Nat→Int} : zis 0 n F=zis 0 n (znk (zm (zis 0 n F))):=by
 refine List.ext_getElem? fun k=>?_
 by_cases hk:k < n
 ·rw [zhO n 0 F k hk, zhO n 0 _ k hk, Nat.zero_add]
  congr 2
  have h:(zm (zis 0 n F))[k]? = some (.p (.int .i64 (F k))):=by
   rw [zm,List.getElem?_map,zhO n 0 F k hk,Nat.zero_add];rfl
  unfold znk
  rw [h]
 ·rw [List.getElem?_eq_none (by rw [zfl];omega),List.getElem?_eq_none (by rw [zfl];omega)]

@[reducible] def lpO {A : Type} (d : A) (st : A → A) : Nat → A
  | 0=>d
  | k+1=>st (lpO d st k)
theorem zhs {A B : Type} (a : A) (b : B) (p : A → A) (s : B → B) (M : A → B → Prop) (h0 : M a b) (h1 : ∀ P S, M P S → M (p P) (s S)) : ∀ k, M (lpO a p k) (lpO b s k)
  | 0=>h0
  | k+1=>h1 _ _ (zhs a b p s M h0 h1 k)
def xcm (l:List PV):List XC:=l.map .p
def unX : List XC → List PV
  | []=>[]
  | .p v :: r=>v :: unX r
  | _ :: r=>.nilp :: unX r
theorem zxE : ∀ l : List PV, unX (xcm l) = l
  | []=>rfl
  | v :: r=>by show v :: unX (xcm r)=v :: r;rw [zxE r]
theorem zEK {n:Nat} {F:Nat→Int} : xcm (zis 0 n F)=xcm (zis 0 n (znk (zm (unX (xcm (zis 0 n F)))))):=by
 rw [zxE,← zn2]

section
variable (P:Program) (Γ:Ctrs) (ann:Ann)
def pt : Code → (Exit → St → Prop) → List Nat → List (St → Prop) → St → Prop
  | .seq a b,K,i :: r,X=>match i with | 0=>pt a (sqK P Γ ann b K) r X | _=>pt b K r X
  | .cond _ a b,K,i :: r,X=>match i with | 0=>pt a K r X | _=>pt b K r X
  | .block id b,K,_ :: r,X=>pt b (zai id K) r X
  | .loop b,K,_ :: r,x :: X=>pt b (zbp P ann (zmD b) x K) r X
  | .scope b,K,_ :: r,X=>pt b (zcJ K) r X
  | c,K,_,_=>vc P Γ ann c K
def ptF (fn:Func) (K:List PA→Prop) (l:List Nat) (X:List (St→Prop)):St→Prop :=
 match fn.body with
 | some c=>pt P Γ ann c (zbo P fn K) l X
 | none=>fun _=>False
end

theorem zc {b:Bool} {A B:Prop} {S S':Bool} {α:Type} {e:α→List PA} {K:List PA→Prop} {x y:α} (hs:cond b S S'=true) (hk:K (e (cond b x y))) (h1:S=true→K (e x)→A) (h2:S'=true→K (e y)→B):zbV b A B:=by
 cases b
 ·exact h2 hs hk
 ·exact h1 hs hk
theorem zt {b:Bool} {A B:Prop} {α:Type} {e:α→List PA} {K:List PA→Prop} {x y:α} (hk:K (e (cond b x y))) (h1:K (e x)→A) (h2:K (e y)→B):zbV b A B:=by
 cases b
 ·exact h2 hk
 ·exact h1 hk
theorem zIp {b:Bool} {s:Prop} {r1 r2:List PA} {K:List PA→Prop} (h:(COut.alt b s r1 s r2).wp K):s∧K (cond b r1 r2):=by
 cases b
 ·exact h.2 rfl
 ·exact h.1 rfl
theorem zl {at_:Prop} {g:St} (B:(St→Prop)→St→Prop) (e:at_ = ∀ X:St→Prop,(∀ s,B X s→X s)→X g) (h:∀ X:St→Prop,(∀ s,B X s→X s)→X g):at_:=e ▸ h
end Go.Pm
namespace Go.Proofs
open Go Go.Pm
set_option maxRecDepth 100000
set_option linter.unusedVariables false
attribute [local irreducible] Go.Pm.vcFun Go.Pm.vc Go.Pm.vcIter
abbrev Tab:=Nat→Int
def tg (n:Nat) (F:Tab) (k:Nat):Int:=znk (zm (zis 0 n F)) k
def ts (n:Nat) (F:Tab) (k:Nat) (vs:List Int):Tab:=zC5 k vs (znk (zm (zis 0 n F)))
abbrev enc_3 (x:Int):List PV:=[.int .i64 x]
def zKE : List PV → Int
  | [.int .i64 x]=>x
  | _=>default
def zav (g:Nat→List PV):Nat→Int:=fun i=>zKE (g i)
theorem zby (f:Nat→Int):zav (fun i=>enc_3 (f i))=f:=rfl
structure Tie where
  From:Int
  To:Int
  Low:Int
  High:Int
deriving Inhabited
abbrev zae (x:Tie):List PV:=[.int .i64 x.From,.int .i64 x.To,.int .i64 x.Low,.int .i64 x.High]
def zIq : List PV → Tie
  | [.int .i64 x_From,.int .i64 x_To,.int .i64 x_Low,.int .i64 x_High]=>(⟨x_From,x_To,x_Low,x_High⟩:Tie)
  | _=>default
def zar (g:Nat→List PV):Nat→Tie:=fun i=>zIq (g i)
theorem zau (f:Nat→Tie):zar (fun i=>zae (f i))=f:=rfl
abbrev zIr (x:(Sl Tie)):List PV:=[.sl x.len 4 (fun i=>zae (x.get i))]
structure Net where
  Nodes:Int
  Ties:(Sl Tie)
deriving Inhabited
abbrev enc_24 (x:Net):List PV:=[.int .i64 x.Nodes,.sl x.Ties.len 4 (fun i=>zae (x.Ties.get i))]
def zIs : List PV → Net
  | [.int .i64 x_Nodes,.sl x_Ties_n _ x_Ties_g]=>(⟨x_Nodes,(⟨x_Ties_n,zar x_Ties_g⟩:(Sl Tie))⟩:Net)
  | _=>default
def zdA (g:Nat→List PV):Nat→Net:=fun i=>zIs (g i)
theorem zdB (f:Nat→Net):zdA (fun i=>enc_24 (f i))=f:=rfl
abbrev zcu (x:(Sl Int)):List PV:=[.sl x.len 1 (fun i=>enc_3 (x.get i))]
def zIt : List PV → (Sl Int)
  | [.sl x_n _ x_g]=>(⟨x_n,zav x_g⟩:(Sl Int))
  | _=>default
def zn3 (g:Nat→List PV):Nat→(Sl Int):=fun i=>zIt (g i)
theorem zk5 (f:Nat→(Sl Int)):zn3 (fun i=>zcu (f i))=f:=rfl
structure Span where
  Low:Int
  High:Int
deriving Inhabited
abbrev zbQ (x:Span):List PV:=[.int .i64 x.Low,.int .i64 x.High]
def zIu : List PV → Span
  | [.int .i64 x_Low,.int .i64 x_High]=>(⟨x_Low,x_High⟩:Span)
  | _=>default
def zgg (g:Nat→List PV):Nat→Span:=fun i=>zIu (g i)
theorem zfv (f:Nat→Span):zgg (fun i=>zbQ (f i))=f:=rfl
structure Pulse where
  A:Int
  B:Int
  TimeA:Int
  TimeB:Int
  Flight:Span
  Jitter:Int
deriving Inhabited
structure Use where
  Tie:Int
  Back:Bool
deriving Inhabited
abbrev za4 (x:Use):List PV:=[.int .i64 x.Tie,.bool x.Back]
def zIv : List PV → Use
  | [.int .i64 x_Tie,.bool x_Back]=>(⟨x_Tie,x_Back⟩:Use)
  | _=>default
def zdC (g:Nat→List PV):Nat→Use:=fun i=>zIv (g i)
theorem zdD (f:Nat→Use):zdC (fun i=>za4 (f i))=f:=rfl
structure Flash where
  A:Int
  B:Int
  Time:Int
  Flight:Int
  Wrong:Int
deriving Inhabited
abbrev zIw (x:(Sl Net)):List PV:=[.sl x.len 2 (fun i=>enc_24 (x.get i))]
structure web where
  Net:Net
  out:Mp
deriving Inhabited
abbrev zaC (x:web):List PV:=[.int .i64 x.Net.Nodes,.sl x.Net.Ties.len 4 (fun i=>zae (x.Net.Ties.get i)),.fm (false,1,false,[none]) x.out.n x.out.F]
structure far where
  length:Int
  uses:Int
deriving Inhabited
abbrev zcI (x:far):List PV:=[.int .i64 x.length,.int .i64 x.uses]
def zEL : List PV → far
  | [.int .i64 x_length,.int .i64 x_uses]=>(⟨x_length,x_uses⟩:far)
  | _=>default
def zj1 (g:Nat→List PV):Nat→far:=fun i=>zEL (g i)
theorem zjq (f:Nat→far):zj1 (fun i=>zcI (f i))=f:=rfl
abbrev zac (x:Tab):List PV:=zis 0 80 x
def zbl (l:List PV):Tab:=znk (zm l)
structure Step where
  From:Int
  To:Int
  Length:Int
  Use:Use
deriving Inhabited
structure step where
  Use:Use
  from_:Int
  to:Int
  length:Int
deriving Inhabited
abbrev zad (x:step):List PV:=[.int .i64 x.Use.Tie,.bool x.Use.Back,.int .i64 x.from_,.int .i64 x.to,.int .i64 x.length]
def zEM : List PV → step
  | [.int .i64 x_Use_Tie,.bool x_Use_Back,.int .i64 x_from_,.int .i64 x_to,.int .i64 x_length]=>(⟨(⟨x_Use_Tie,x_Use_Back⟩:Use),x_from_,x_to,x_length⟩:step)
  | _=>default
def zh1 (g:Nat→List PV):Nat→step:=fun i=>zEM (g i)
theorem zeO (f:Nat→step):zh1 (fun i=>zad (f i))=f:=rfl
structure tie where
  Tie:Tie
  index:Int
deriving Inhabited
abbrev zxF (x:tie):List PV:=[.int .i64 x.Tie.From,.int .i64 x.Tie.To,.int .i64 x.Tie.Low,.int .i64 x.Tie.High,.int .i64 x.index]
abbrev zxG (x:Tab):List PV:=zis 0 40 x
abbrev zaG (x:(Sl Tab)):List PV:=[.sl x.len 80 (fun i=>zac (x.get i))]
abbrev tL (T:Tab) (i:Int):Int:=tg 80 T (0+i.toNat * 2+0)
abbrev tU (T:Tab) (i:Int):Int:=tg 80 T (0+i.toNat * 2+0+1)
abbrev tV (T:Tab) (i:Int):Int:=tg 80 T (0+i.toNat * 2+1)
abbrev nvr (x y:Int):Bool:=match (x == (1000000000000:Int)) with | true=>(match (y == (0:Int)) with | true=>true | false=>false) | false=>false
end Go.Proofs
namespace Go.Pm
open Go Go.Deep

theorem zCi (b o i j:Nat):((⟨b,o,none⟩:Addr).add i).add j=⟨b,o+i+j,none⟩:=by
 simp only [Addr.add]
 by_cases h1:i=0
 ·subst h1
  by_cases h2:j=0
  ·subst h2;rfl
  ·rw [if_neg h2];rfl
 ·rw [if_neg h1]
  by_cases h2:j=0
  ·subst h2;rfl
  ·rw [if_neg h2]
def H0 (w:World):Fz:=fun b=>(w.heap[b]?).map .fz
theorem hw_H0 (w:World):Hw (H0 w) w:=by
 intro b x h
 unfold H0 at h
 cases e:w.heap[b]? with
 | none=>rw [e] at h;cases h
 | some o=>rw [e] at h;cases h;exact ⟨o,rfl,rfl⟩
def wfI (x:Int):Prop:=-9223372036854775808≤x∧x≤9223372036854775807
section
variable {H:Type} {en:TypeId×Value→H} {P:Program} {w:World} {sp:Nat→Bool} {held:Bool}
def Rd (H:Type) (en:TypeId×Value→H) (P:Program) (w:World) (sp:Nat→Bool) (held:Bool) (t:TypeId) {α:Type} (enc:α→List PV) (wf:α→Prop):Prop :=
 ∀ (fuel:Nat) (cs:List Value) (x:DataW H×List MemPlace),DataW.trod en P w 0 sp held fuel t cs=some x→∃ a:α,RL (Rep (H0 w)) (enc a) cs∧wf a
theorem zIx {t:TypeId} (ht:P.underlying t=some (.int .i64)):Rd H en P w sp held t (fun x=>[.int .i64 x]) wfI:=by
 intro fuel cs x h
 obtain ⟨n,rfl,_,hw⟩:=DataW.trod_int ht h
 refine ⟨n,⟨.int _ _,trivial⟩,?_⟩
 simp only [Lit.wf,Bool.and_eq_true,decide_eq_true_eq] at hw
 exact ⟨hw.1,hw.2⟩
theorem zpT {t : TypeId} {fs : Array Field} (ht : P.underlying t = some (.struct fs)) {fuel : Nat} {cs : List Value} {x : DataW H × List MemPlace} (h : DataW.trod en P w 0 sp held fuel t cs = some x) :
  cs.length=P.cellsOf t∧∀ (i:Nat) (f:Field),fs[i]? = some f→∃ n y,DataW.trod en P w 0 sp held n f.type ((cs.drop f.offset).take (P.cellsOf f.type))=some y:=by
 obtain ⟨xs,n,_,_,hl,hx,hf⟩:=DataW.trod_struct ht h
 refine ⟨hl,fun i f hi=>?_⟩
 have hlt:i < xs.length:=by rw [hx];exact (Array.getElem?_eq_some_iff.1 hi).1
 exact ⟨n,xs[i],by rw [hf i f hi,List.getElem?_eq_getElem hlt]⟩
theorem zn4 {t e : TypeId} {α : Type} [Inhabited α] {enc : α → List PV} {wf : α → Prop} {s : Nat} (ht : P.underlying t = some (.slice e)) (hc : P.cellsOf e = s) (hs : 0 < s) (hlen : ∀ a, (enc a).length = s)
    (hel:Rd H en P w sp held e enc wf):Rd H en P w sp held t (fun x:Sl α=>[.sl x.len s (fun i=>enc (x.get i))]) (fun x=>x.len≤9223372036854775807∧∀ i,i < x.len→wf (x.get i)):=by
  intro fuel cs x h
  rcases open_slice ht h with ⟨rfl,_⟩ | ⟨a,len,cap,m,n,D,Pl,rfl,_,hl,hm,hmm,_,hget⟩
  · exact ⟨⟨0,default⟩,⟨.sl0 _ _,trivial⟩,Nat.zero_le _,fun i hi=>absurd hi (Nat.not_lt_zero i)⟩
  · by_cases h0 : len = 0
    · subst h0
      exact ⟨⟨0,default⟩,⟨.sle _ _ _ _,trivial⟩,Nat.zero_le _,fun i hi=>absurd hi (Nat.not_lt_zero i)⟩
    · have hlm : len ≤ m := by rw [hmm]; split <;> omega
      rw [hc] at hget
      have hex:∀ i,i < len→∃ y:α,(∃ cs',w.cells? 0 (a.add (i * s)) s=some cs'∧RL (Rep (H0 w)) (enc y) cs')∧wf y:=by
        intro i hi
        obtain ⟨cs',h1,h2⟩:=hget i (by omega)
        obtain ⟨y,h3,h4⟩:=hel _ _ _ h2
        exact ⟨y,⟨cs',h1,h3⟩,h4⟩
      have hch:∃ f:Nat→α,∀ i,i < len→(∃ cs',w.cells? 0 (a.add (i * s)) s=some cs'∧RL (Rep (H0 w)) (enc (f i)) cs')∧wf (f i):=by
        refine ⟨fun i=>if hi:i < len then Classical.choose (hex i hi) else default,fun i hi=>?_⟩
        simp only [dif_pos hi]
        exact Classical.choose_spec (hex i hi)
      obtain ⟨f,hf⟩:=hch
      -- the block
      have hcell:∀ i,i < len→∀ j,j < s→∃ cs',w.cells? 0 (a.add (i * s)) s=some cs'∧RL (Rep (H0 w)) (enc (f i)) cs'∧w.cell? ((a.add (i * s)).add j)=cs'[j]?∧cs'.length=s:=by
        intro i hi j hj
        obtain ⟨⟨cs',h1,h2⟩,_⟩:=hf i hi
        obtain ⟨_,h3,h4⟩:=World.cells?_some h1
        exact ⟨cs',h1,h2,h4 j hj,h3⟩
      obtain ⟨cs0,_,_,hc0,hl0⟩:=hcell 0 (by omega) 0 hs
      have ha0:w.cell? a=cs0[0]?:=by simpa [Addr.add] using hc0
      rw [List.getElem?_eq_getElem (by omega)] at ha0
      obtain ⟨C,ty,fr,hblk,hspot⟩:∃ C ty fr,w.heap[a.block]? = some (.cells C ty fr)∧a.spot=none:=by
        unfold World.cell? at ha0
        split at ha0
        · rename_i C ty fr hb
          refine ⟨C,ty,fr,hb,?_⟩
          cases hsp:a.spot with
          | none=>rfl
          | some k=>rw [hsp] at ha0;simp at ha0
        · cases ha0
      have ea:a=⟨a.block,a.off,none⟩:=by rw [← hspot]
      have hat:∀ i j,i < len→j < s→∃ cs',RL (Rep (H0 w)) (enc (f i)) cs'∧C[a.off+i * s+j]? = cs'[j]?∧cs'.length=s:=by
        intro i j hi hj
        obtain ⟨cs',_,h2,h3,h4⟩:=hcell i hi j hj
        refine ⟨cs',h2,?_,h4⟩
        rw [← h3]
        have e2:(a.add (i * s)).add j=⟨a.block,a.off+i * s+j,none⟩:=(congrArg (fun z:Addr=>(z.add (i * s)).add j) ea).trans (zCi _ _ _ _)
        rw [e2]
        simp [World.cell?,hblk]
      refine ⟨⟨len,f⟩,⟨?_,trivial⟩,by simp only [maxLen] at hm;show len≤_;omega,fun i hi=>(hf i hi).2⟩
      rw [ea]
      refine .sl len s _ a.block a.off cap C ty fr (fun i j=>C.getD (a.off+i * s+j) undef) (by simp [H0,hblk]) hl (fun i _=>hlen _) ?_ ?_
      · intro i j x hi hx
        have hj:j < s:=by have:=(List.getElem?_eq_some_iff.1 hx).1;rw [hlen] at this;exact this
        obtain ⟨cs',h1,h2,h3⟩:=hat i j hi hj
        rw [Array.getD_eq_getD_getElem?,h2,List.getElem?_eq_getElem (by omega)]
        rfl
      · intro i j x hi hx
        have hj:j < s:=by have:=(List.getElem?_eq_some_iff.1 hx).1;rw [hlen] at this;exact this
        obtain ⟨cs',h1,h2,h3⟩:=hat i j hi hj
        obtain ⟨v,hv,hr⟩:=h1.get j x hx
        rw [Array.getD_eq_getD_getElem?,h2,hv]
        exact hr
theorem zej {α:Type} (l:List α) (o s:Nat):l.drop o=(l.drop o).take s ++ l.drop (o+s):=by
 rw [← List.drop_drop]
 exact (List.take_append_drop s (l.drop o)).symm
def zKF : TypeDesc → Bool
  | .struct _=>false
  | .array _ _=>false
  | _=>true
theorem okWide_one {t:TypeId} {d:TypeDesc} {r:Reach} {base:Nat} {v:Value} (ht:P.underlying t=some d) (hd:zKF d=true) (h:Value.okWide P w r base t v):v.cells.toList=[v]:=by
 unfold Value.okWide at h
 rw [ht] at h
 cases v with
 | agg cs =>
  exfalso
  cases d <;> first | (cases hd;done) | (simp only [Cell.okWide,Cell.ok,ht] at h)
 | _=>rfl
theorem pa_one {h:Fz} {p:PV} {v:Value} (hv:v.cells.toList=[v]) (r:RL (Rep h) [p] v.cells.toList):paR h (.one p) v:=by
 rw [hv] at r
 exact r.1
theorem below_H0 {w':World} (b:Bel (H0 w) w.heap.size w w'):Go.RowKit.Below w.heap.size w w' :=
 ⟨b.os,b.tape,b.output,b.size,fun k hk=>b.block k hk fun F e=>by
  unfold H0 at e
  cases hb:w.heap[k]? <;> rw [hb] at e <;> cases e⟩
end
end Go.Pm
namespace Go.Proofs
open Go Go.Pm
set_option maxRecDepth 100000
set_option linter.unusedVariables false
attribute [local irreducible] Go.Pm.vcFun Go.Pm.vc Go.Pm.vcIter
theorem C_3:Tryd.prog.cellsOf 3=1:=by kernel_rfl
theorem zMw:Tryd.prog.cellsOf 22=1:=by kernel_rfl
theorem zMb:Tryd.prog.cellsOf 24=2:=by kernel_rfl
theorem zMc:Tryd.prog.cellsOf 40=4:=by kernel_rfl
abbrev zEN (x:Int):Prop:=wfI x
theorem zHI {H:Type} {en:TypeId×Value→H} {w:World} {sp:Nat→Bool} {held:Bool} : Rd H en Tryd.prog w sp held 3 enc_3 zEN:=zIx Tryd.underlying3
def zIy (x:Tie):Prop:=zEN x.From∧zEN x.To∧zEN x.Low∧zEN x.High
theorem zKG {H:Type} {en:TypeId×Value→H} {w:World} {sp:Nat→Bool} {held:Bool} : Rd H en Tryd.prog w sp held 40 zae zIy:=by
  intro fuel cs x h
  obtain ⟨hl,hf⟩:=zpT Tryd.underlying40 h
  rw [zMc] at hl
  obtain ⟨n0,y0,g0⟩:=hf 0 _ rfl
  have g0:DataW.trod en Tryd.prog w 0 sp held n0 3 ((cs.drop 0).take (Tryd.prog.cellsOf 3))=some y0:=g0
  rw [C_3] at g0
  obtain ⟨a0,r0,w0⟩:=zHI _ _ _ g0
  obtain ⟨n1,y1,g1⟩:=hf 1 _ rfl
  have g1:DataW.trod en Tryd.prog w 0 sp held n1 3 ((cs.drop 1).take (Tryd.prog.cellsOf 3))=some y1:=g1
  rw [C_3] at g1
  obtain ⟨a1,r1,w1⟩:=zHI _ _ _ g1
  obtain ⟨n2,y2,g2⟩:=hf 2 _ rfl
  have g2:DataW.trod en Tryd.prog w 0 sp held n2 3 ((cs.drop 2).take (Tryd.prog.cellsOf 3))=some y2:=g2
  rw [C_3] at g2
  obtain ⟨a2,r2,w2⟩:=zHI _ _ _ g2
  obtain ⟨n3,y3,g3⟩:=hf 3 _ rfl
  have g3:DataW.trod en Tryd.prog w 0 sp held n3 3 ((cs.drop 3).take (Tryd.prog.cellsOf 3))=some y3:=g3
  rw [C_3] at g3
  obtain ⟨a3,r3,w3⟩:=zHI _ _ _ g3
  have z:cs.drop 4=[]:=List.drop_eq_nil_of_le (by omega)
  have R:=(r0.append (r1.append (r2.append (r3.append (show RL (Rep (H0 w)) [] (cs.drop 4) by rw [z];exact zeB)))))
  rw [← (show cs.drop 3=(cs.drop 3).take 1 ++ cs.drop 4 from zej cs 3 1)] at R
  rw [← (show cs.drop 2=(cs.drop 2).take 1 ++ cs.drop 3 from zej cs 2 1)] at R
  rw [← (show cs.drop 1=(cs.drop 1).take 1 ++ cs.drop 2 from zej cs 1 1)] at R
  rw [← (show cs.drop 0=(cs.drop 0).take 1 ++ cs.drop 1 from zej cs 0 1)] at R
  exact ⟨⟨a0,a1,a2,a3⟩,R,⟨w0,w1,w2,w3⟩⟩
def zIz (x:(Sl Tie)):Prop:=x.len≤9223372036854775807∧∀ i,i < x.len→zIy (x.get i)
theorem zKH {H:Type} {en:TypeId×Value→H} {w:World} {sp:Nat→Bool} {held:Bool} : Rd H en Tryd.prog w sp held 22 zIr zIz:=zn4 Tryd.underlying22 zMc (by decide) (fun _=>rfl) zKG
def zIA (x:Net):Prop:=zEN x.Nodes∧zIz x.Ties
theorem zKI {H:Type} {en:TypeId×Value→H} {w:World} {sp:Nat→Bool} {held:Bool} : Rd H en Tryd.prog w sp held 24 enc_24 zIA:=by
  intro fuel cs x h
  obtain ⟨hl,hf⟩:=zpT Tryd.underlying24 h
  rw [zMb] at hl
  obtain ⟨n0,y0,g0⟩:=hf 0 _ rfl
  have g0:DataW.trod en Tryd.prog w 0 sp held n0 3 ((cs.drop 0).take (Tryd.prog.cellsOf 3))=some y0:=g0
  rw [C_3] at g0
  obtain ⟨a0,r0,w0⟩:=zHI _ _ _ g0
  obtain ⟨n1,y1,g1⟩:=hf 1 _ rfl
  have g1:DataW.trod en Tryd.prog w 0 sp held n1 22 ((cs.drop 1).take (Tryd.prog.cellsOf 22))=some y1:=g1
  rw [zMw] at g1
  obtain ⟨a1,r1,w1⟩:=zKH _ _ _ g1
  have z:cs.drop 2=[]:=List.drop_eq_nil_of_le (by omega)
  have R:=(r0.append (r1.append (show RL (Rep (H0 w)) [] (cs.drop 2) by rw [z];exact zeB)))
  rw [← (show cs.drop 1=(cs.drop 1).take 1 ++ cs.drop 2 from zej cs 1 1)] at R
  rw [← (show cs.drop 0=(cs.drop 0).take 1 ++ cs.drop 1 from zej cs 0 1)] at R
  exact ⟨⟨a0,a1⟩,R,⟨w0,w1⟩⟩
def wf_27 (x:(Sl Int)):Prop:=x.len≤9223372036854775807∧∀ i,i < x.len→zEN (x.get i)
theorem rd_27 {H:Type} {en:TypeId×Value→H} {w:World} {sp:Nat→Bool} {held:Bool} : Rd H en Tryd.prog w sp held 27 zcu wf_27:=zn4 Tryd.underlying27 C_3 (by decide) (fun _=>rfl) zHI
def wf_89 (x:(Sl Net)):Prop:=x.len≤9223372036854775807∧∀ i,i < x.len→zIA (x.get i)
theorem rd_89 {H:Type} {en:TypeId×Value→H} {w:World} {sp:Nat→Bool} {held:Bool} : Rd H en Tryd.prog w sp held 89 zIw wf_89:=zn4 Tryd.underlying89 zMb (by decide) (fun _=>rfl) zKI
end Go.Proofs
namespace Go.Proofs
open Go Go.Pm
set_option maxRecDepth 100000
set_option linter.unusedVariables false
attribute [local irreducible] Go.Pm.vcFun Go.Pm.vc Go.Pm.vcIter
abbrev T81:Tabs:=Tabs.nil
theorem zKJ:TabsOk Tryd.prog T81:=TabsOk.nil
abbrev G81:Ctrs:=csm T81 (fun _ _=>[]) (fun _=>false)
def zIB:Ann:=⟨15,[(0,zK [0,1,2] []),(1,zK [6] [])],
 [],
 [],
 [],[]⟩
abbrev R81:=Bool
abbrev e81 (r:R81):List PA:=[.one (.bool r)]
section
variable {K:List PA→Prop} {n:Int} {low:Int} {high:Int}
def s81 (n:Int) (low:Int) (high:Int):Bool :=
  (cond (decide (n ≥ low))
 (decide (n≤high))
 false)
end
theorem q81 (n:Int) (low:Int) (high:Int) (K:List PA→Prop) (hk:K (e81 (s81 n low high))):vcFun Tryd.prog G81 zIB 81 [.one (.int .i64 n),.one (.int .i64 low),.one (.int .i64 high)] K :=
  zbd (by kernel_rfl) (zt hk (fun hk=>hk) (fun hk=>hk))
def zvG : List PA → COut
  | [.one (.int .i64 a0),.one (.int .i64 a1),.one (.int .i64 a2)]=>.tot [.one (.bool (s81 a0 a1 a2))]
  | _=>.no
theorem zIC:zax Tryd.prog 81:=⟨_,rfl,rfl,by kernel_rfl⟩
theorem zKk:Ok Tryd.prog 81 zvG:=zbY zKJ zIC fun args K h=>by
  unfold zvG at h
  split at h
  · rename_i a0 a1 a2
    have hk:=h
    exact ⟨(fun _ _=>[]),(fun _=>false),zIB,q81 a0 a1 a2 K hk⟩
  · exact h.elim
abbrev T78:Tabs:=(Tabs.nil.addF 81 zvG)
theorem zKK:TabsOk Tryd.prog T78:=(TabsOk.nil.addF zKk)
abbrev G78:Ctrs:=csm T78 (fun _ _=>[]) (fun _=>false)
def zEO:Ann:=⟨55,[(0,zK [1,2] [2]),(1,zK [1,2,5] [2]),(2,zK [1,2,5,6] [2]),(3,zK [4] [])],
 [],
 [(2,zK [1,2,5] [2]),(3,zK [1,2,5,6] [2])],
 [],[]⟩
abbrev R78:=Bool
abbrev e78 (r:R78):List PA:=[.one (.bool r)]
@[irreducible] def z78:=ptF Tryd.prog G78 zEO Tryd.f78
section
variable {K:List PA→Prop} {t:Tie} {nodes:Int} {zn5:Bool} {zuk:Bool}
def zk6 (t:Tie) (nodes:Int) (zn5:Bool) (zuk:Bool):Bool :=
  (cond (s81 t.From (0:Int) (w64 (nodes - (1:Int))))
 (cond (s81 t.To (0:Int) (w64 (nodes - (1:Int))))
 (cond (t.From != t.To)
 (cond zn5
 (cond zuk
 (decide (t.Low≤t.High))
 false)
 false)
 false)
 false)
 false)
theorem zxH (hk:K (e78 (zk6 t nodes zn5 zuk))):z78 K [1,1,1] [] ⟨[(1,zI nodes),(2,zp 2 0),(5,zB zn5),(6,zB zuk)],[(2,.box 40 (zm (zae t)))],[]⟩:=zbd (by kernel_rfl) (zt hk (fun hk=>(zt hk (fun hk=>(zt hk (fun hk=>(zt hk (fun hk=>(zt hk (fun hk=>hk) (fun hk=>hk))) (fun hk=>hk))) (fun hk=>hk))) (fun hk=>hk))) (fun hk=>hk))
def zk7 (t:Tie) (nodes:Int) (zn5:Bool):Bool :=
  (cond (t.High == (1000000000000:Int))
 (zk6 t nodes zn5 true)
 (zk6 t nodes zn5 (s81 t.High (-1000000000:Int) (1000000000:Int))))
theorem zxI (hk:K (e78 (zk7 t nodes zn5))):z78 K [1,1] [] ⟨[(1,zI nodes),(2,zp 2 0),(5,zB zn5)],[(2,.box 40 (zm (zae t)))],[]⟩:=zbd (by kernel_rfl) (zt hk (fun hk=>(zxH hk)) (fun hk=>(zxH hk)))
def s78 (t:Tie) (nodes:Int):Bool :=
  (cond (t.Low == (-1000000000000:Int))
 (zk7 t nodes true)
 (zk7 t nodes (s81 t.Low (-1000000000:Int) (1000000000:Int))))
end
theorem q78 (t:Tie) (nodes:Int) (K:List PA→Prop) (hk:K (e78 (s78 t nodes))):vcFun Tryd.prog G78 zEO 78 [.agg (zae t),.one (.int .i64 nodes)] K :=
  zbd (by kernel_rfl) (zt hk (fun hk=>(zxI hk)) (fun hk=>(zxI hk)))
def zEP : List PA → COut
  | [.agg [.int .i64 zrr,.int .i64 zEQ,.int .i64 zxJ,.int .i64 zrt],.one (.int .i64 a1)]=>.tot [.one (.bool (s78 (⟨zrr,zEQ,zxJ,zrt⟩:Tie) a1))]
  | _=>.no
theorem zID:zax Tryd.prog 78:=⟨_,rfl,rfl,by kernel_rfl⟩
theorem zMx:Ok Tryd.prog 78 zEP:=zbY zKK zID fun args K h=>by
  unfold zEP at h
  split at h
  · rename_i zrr zEQ zxJ zrt a1
    have hk:=h
    exact ⟨(fun _ _=>[]),(fun _=>false),zEO,q78 (⟨zrr,zEQ,zxJ,zrt⟩:Tie) a1 K hk⟩
  · exact h.elim
abbrev T67:Tabs:=((Tabs.nil.addF 78 zEP).addF 81 zvG)
theorem zKL:TabsOk Tryd.prog T67:=((TabsOk.nil.addF zMx).addF zKk)
abbrev G67:Ctrs:=csm T67 (fun _ _=>[]) (fun _=>false)
def zCj:Ann:=⟨27,[(0,zK [1] [1]),(1,zK [1,6,7,8] [1]),(2,zK [1,6,7,8,9] [1]),(3,zK [1,4,6,7,8] [1,4]),(4,zK [1,6,7,8,16] [1]),(5,zK [2] []),(6,zK [1,6,7,8] [1]),(7,zK [2] [])],
 [(2,zK [1,6,7,8] [1])],
 [(5,zK [1,6,7,8,16] [1])],
 [],[]⟩
abbrev R67:=Bool
abbrev e67 (r:R67):List PA:=[.one (.bool r)]
@[irreducible] def z67:=ptF Tryd.prog G67 zCj Tryd.f67
def zDs (n:Net) (zd1:Int):St:=⟨[(1,zp 1 0),(6,zS zae 4 n.Ties),(7,zI (n.Ties.len:Int)),(8,zI zd1)],[(1,.box 24 (zm (enc_24 n)))],[]⟩
abbrev zER (K:List PA→Prop) (n:Net) (X:St→Prop) (P:Int→Bool) (S:Int→Bool):Prop:=∀ ⦃zd1:Int⦄,P zd1=true→K (e67 (S zd1))→X (zDs n zd1)
section
variable {K:List PA→Prop} {n:Net} {zd1:Int} {X0:St→Prop} {P0:Int→Bool} {S0:Int→Bool} {zES:Int} {zpU:Bool}
def zru (S0:Int→Bool) (n:Net) (zES:Int) (zpU:Bool):Bool :=
  (cond zpU
 false
 (S0 (w64 (zES+(1:Int)))))
def zrv (P0:Int→Bool) (n:Net) (zES:Int) (zpU:Bool):Bool :=
  (cond zpU
 true
 (P0 (w64 (zES+(1:Int)))))
theorem zET (hX0:zER K n X0 P0 S0) (hs:zrv P0 n zES zpU=true) (hk:K (e67 (zru S0 n zES zpU))):z67 K [1,0,1,0,0,1,1,0,0,1,1] [X0] ⟨[(1,zp 1 0),(6,zS zae 4 n.Ties),(7,zI (n.Ties.len:Int)),(8,zI zES),(16,zB zpU)],[(1,.box 24 (zm (enc_24 n)))],[]⟩:=zbd (by kernel_rfl) (zc hs hk (fun hs hk=>hk) (fun hs hk=>(hX0 hs hk)))
def ziF (n:Net) (S0:Int→Bool) (zd1:Int):Bool :=
  (cond (decide (zd1 < (n.Ties.len : Int)))
 (zru S0 n zd1 (!(s78 (n.Ties.get zd1.toNat) n.Nodes)))
 (cond (s81 n.Nodes (1:Int) (40:Int))
 (decide ((n.Ties.len:Int)≤(200:Int)))
 false))
def ziG (n:Net) (P0:Int→Bool) (zd1:Int):Bool :=
  (cond (decide (zd1 < (n.Ties.len : Int)))
 (decide ((0≤zd1∧zd1 < (n.Ties.len:Int))) &&
 (zrv P0 n zd1 (!(s78 (n.Ties.get zd1.toNat) n.Nodes))))
 true)
def ziH (n:Net):Nat→Int→Bool:=lpO (fun _=>default) (ziF n)
def ziI (n:Net):Nat→Int→Bool:=lpO (fun _=>false) (ziG n)
def zxK (n:Net) (zd1:Int):Bool:=ziH n Fuel zd1
def zxL (n:Net) (zd1:Int):Bool:=ziI n Fuel zd1
theorem zEU (hs:zxL n zd1=true) (hk:K (e67 (zxK n zd1))):z67 K [1,0,1,0] [] (zDs n zd1) :=
  zl (fun X=>z67 K [1,0,1,0,0] [X]) (by kernel_rfl) fun X0 hX =>
  (show ∀ k, zER K n X0 (ziI n k) (ziH n k) from zhs _ _ (ziG n) (ziF n) (zER K n X0)
 (by intro _ hs;exact absurd hs Bool.false_ne_true)
 (by intro P0 S0 hX0 zd1 hs hk;exact hX _ (zbd (by kernel_rfl) (zc hs hk (fun hs hk=>(za6 hs fun hc hs=>And.intro hc (zET hX0 hs hk))) (fun hs hk=>(zt hk (fun hk=>hk) (fun hk=>hk))))))) _ hs hk
def s67 (n:Net):Bool :=
  (zxK n (0:Int))
def p67 (n:Net):Bool :=
  (zxL n (0:Int))
end
theorem q67 (n:Net) (K:List PA→Prop) (hs:p67 n=true) (hk:K (e67 (s67 n))):vcFun Tryd.prog G67 zCj 67 [.agg (enc_24 n)] K :=
  zbd (by kernel_rfl) (zEU hs hk)
def zvH : List PA → COut
  | [.agg [.int .i64 zao,.sl zak zaV zaj]]=>.det (IsE zae 4 zaV zaj∧p67 (⟨zao,(⟨zak,zar zaj⟩:(Sl Tie))⟩:Net)=true) [.one (.bool (s67 (⟨zao,(⟨zak,zar zaj⟩:(Sl Tie))⟩:Net)))]
  | [.agg [.int .i64 zao,.nils]]=>.det (p67 (⟨zao,(⟨0,fun _=>default⟩:(Sl Tie))⟩:Net)=true) [.one (.bool (s67 (⟨zao,(⟨0,fun _=>default⟩:(Sl Tie))⟩:Net)))]
  | _=>.no
theorem zIE:zax Tryd.prog 67:=⟨_,rfl,rfl,by kernel_rfl⟩
theorem zKl:Ok Tryd.prog 67 zvH:=zgf zKL zIE fun args K h=>by
  unfold zvH at h
  split at h
  · rename_i zao zak zaV zaj
    obtain ⟨⟨⟨rfl,zaL,rfl⟩,hs⟩,hk⟩:=h
    try rw [zau zaL] at hs
    try rw [zau zaL] at hk
    exact ⟨_,zff zfR _,(fun _ _=>[]),(fun _=>false),zCj,q67 (⟨zao,(⟨zak,zaL⟩:(Sl Tie))⟩:Net) (Wk K) hs (zfS hk)⟩
  · rename_i zao
    obtain ⟨hs,hk⟩:=h
    exact ⟨_,(zcw (.agg (zcw (.rfl _) (zcw (.nil _ _) zeB))) zeB),(fun _ _=>[]),(fun _=>false),zCj,q67 (⟨zao,(⟨0,fun _=>default⟩:(Sl Tie))⟩:Net) (Wk K) hs (zfS hk)⟩
  · exact h.elim
abbrev T93:Tabs:=Tabs.nil
theorem zKM:TabsOk Tryd.prog T93:=TabsOk.nil
abbrev G93:Ctrs:=csm T93 (fun _ _=>[]) (fun _=>false)
def zEV:Ann:=⟨4,[(0,zK [1] [1]),(1,zK [2] [])],
 [],
 [],
 [],[]⟩
theorem zEW (w : web) (K : List PA → Prop) :
  vcFun Tryd.prog G93 zEV 93 [.one (.fp (zaC w) 0)] K =
  (K [.one (.fn 110 [] [.fp [.fp (zaC w) 0] 0])]):=by kernel_rfl
theorem q93 (w:web) (K:List PA→Prop) (hk:K [.one (.fn 110 [] [.fp [.fp (zaC w) 0] 0])]):vcFun Tryd.prog G93 zEV 93 [.one (.fp (zaC w) 0)] K:=zbd (zEW w K) hk
def zpV : List PA → COut
  | [.one (.fp [.int .i64 zas,.sl zal zaP zam,.fm zbK zaS zaT] 0)]=>.det (IsE zae 4 zaP zam∧zbK=(false,1,false,[none])) [.one (.fn 110 [] [.fp [.fp (zaC (⟨(⟨(⟨zas,(⟨zal,zar zam⟩:(Sl Tie))⟩:Net),(⟨zaS,zaT⟩:Mp)⟩:web).Net,((⟨(⟨zas,(⟨zal,zar zam⟩:(Sl Tie))⟩:Net),(⟨zaS,zaT⟩:Mp)⟩:web).out)⟩:web)) 0] 0])]
  | _=>.no
theorem zIF:zax Tryd.prog 93:=⟨_,rfl,rfl,by kernel_rfl⟩
theorem zHJ:Ok Tryd.prog 93 zpV:=zbY zKM zIF fun args K h=>by
  unfold zpV at h
  split at h
  · rename_i zas zal zaP zam zbK zaS zaT
    obtain ⟨⟨⟨rfl,zaB,rfl⟩,rfl⟩,hk⟩:=h
    try rw [zau zaB] at hk
    exact ⟨fun _ _=>[],fun _=>false,zEV,q93 (⟨(⟨zas,(⟨zal,zaB⟩:(Sl Tie))⟩:Net),(⟨zaS,zaT⟩:Mp)⟩:web) K hk⟩
  · exact h.elim
abbrev T94:Tabs:=Tabs.nil
theorem zKN:TabsOk Tryd.prog T94:=TabsOk.nil
abbrev G94:Ctrs:=csm T94 (fun _ _=>[]) (fun _=>false)
def zIG:Ann:=⟨21,[(0,zK [1,2] [1,2]),(1,zK [2,3] [2])],
 [],
 [],
 [],[]⟩
abbrev R94:=(step×Bool)
abbrev e94 (r:R94):List PA:=[.agg [.int .i64 r.1.Use.Tie,.bool r.1.Use.Back,.int .i64 r.1.from_,.int .i64 r.1.to,.int .i64 r.1.length],.one (.bool r.2)]
section
variable {K:List PA→Prop} {t:tie}
def s94 (t:tie):(step×Bool) :=
  ((⟨(⟨t.index,false⟩:Use),t.Tie.From,t.Tie.To,t.Tie.High⟩:step),(t.Tie.High != (1000000000000:Int)))
end
theorem q94 (t:tie) (K:List PA→Prop) (hk:K (e94 (s94 t))):vcFun Tryd.prog G94 zIG 94 [.agg (zxF t)] K :=
  zbd (by kernel_rfl) hk
def zEX : List PA → COut
  | [.agg [.int .i64 zbq,.int .i64 zb4,.int .i64 zbG,.int .i64 zbr,.int .i64 zcl]]=>.tot [.agg [.int .i64 (((s94 (⟨(⟨zbq,zb4,zbG,zbr⟩:Tie),zcl⟩:tie)).1).Use.Tie),.bool (((s94 (⟨(⟨zbq,zb4,zbG,zbr⟩:Tie),zcl⟩:tie)).1).Use.Back),.int .i64 (((s94 (⟨(⟨zbq,zb4,zbG,zbr⟩:Tie),zcl⟩:tie)).1).from_),.int .i64 (((s94 (⟨(⟨zbq,zb4,zbG,zbr⟩:Tie),zcl⟩:tie)).1).to),.int .i64 (((s94 (⟨(⟨zbq,zb4,zbG,zbr⟩:Tie),zcl⟩:tie)).1).length)],.one (.bool ((s94 (⟨(⟨zbq,zb4,zbG,zbr⟩:Tie),zcl⟩:tie)).2))]
  | _=>.no
theorem zIH:zax Tryd.prog 94:=⟨_,rfl,rfl,by kernel_rfl⟩
theorem zMy:Ok Tryd.prog 94 zEX:=zbY zKN zIH fun args K h=>by
  unfold zEX at h
  split at h
  · rename_i zbq zb4 zbG zbr zcl
    have hk:=h
    exact ⟨(fun _ _=>[]),(fun _=>false),zIG,q94 (⟨(⟨zbq,zb4,zbG,zbr⟩:Tie),zcl⟩:tie) K hk⟩
  · exact h.elim
abbrev T95:Tabs:=Tabs.nil
theorem zKO:TabsOk Tryd.prog T95:=TabsOk.nil
abbrev G95:Ctrs:=csm T95 (fun _ _=>[]) (fun _=>false)
def zII:Ann:=⟨22,[(0,zK [1,2] [1,2]),(1,zK [2,3] [2])],
 [],
 [],
 [],[]⟩
abbrev R95:=(step×Bool)
abbrev e95 (r:R95):List PA:=[.agg [.int .i64 r.1.Use.Tie,.bool r.1.Use.Back,.int .i64 r.1.from_,.int .i64 r.1.to,.int .i64 r.1.length],.one (.bool r.2)]
section
variable {K:List PA→Prop} {t:tie}
def s95 (t:tie):(step×Bool) :=
  ((⟨(⟨t.index,true⟩:Use),t.Tie.To,t.Tie.From,(w64 (0 - t.Tie.Low))⟩:step),(t.Tie.Low != (-1000000000000:Int)))
end
theorem q95 (t:tie) (K:List PA→Prop) (hk:K (e95 (s95 t))):vcFun Tryd.prog G95 zII 95 [.agg (zxF t)] K :=
  zbd (by kernel_rfl) hk
def zEY : List PA → COut
  | [.agg [.int .i64 zbq,.int .i64 zb4,.int .i64 zbG,.int .i64 zbr,.int .i64 zcl]]=>.tot [.agg [.int .i64 (((s95 (⟨(⟨zbq,zb4,zbG,zbr⟩:Tie),zcl⟩:tie)).1).Use.Tie),.bool (((s95 (⟨(⟨zbq,zb4,zbG,zbr⟩:Tie),zcl⟩:tie)).1).Use.Back),.int .i64 (((s95 (⟨(⟨zbq,zb4,zbG,zbr⟩:Tie),zcl⟩:tie)).1).from_),.int .i64 (((s95 (⟨(⟨zbq,zb4,zbG,zbr⟩:Tie),zcl⟩:tie)).1).to),.int .i64 (((s95 (⟨(⟨zbq,zb4,zbG,zbr⟩:Tie),zcl⟩:tie)).1).length)],.one (.bool ((s95 (⟨(⟨zbq,zb4,zbG,zbr⟩:Tie),zcl⟩:tie)).2))]
  | _=>.no
theorem zIJ:zax Tryd.prog 95:=⟨_,rfl,rfl,by kernel_rfl⟩
theorem zMz:Ok Tryd.prog 95 zEY:=zbY zKO zIJ fun args K h=>by
  unfold zEY at h
  split at h
  · rename_i zbq zb4 zbG zbr zcl
    have hk:=h
    exact ⟨(fun _ _=>[]),(fun _=>false),zII,q95 (⟨(⟨zbq,zb4,zbG,zbr⟩:Tie),zcl⟩:tie) K hk⟩
  · exact h.elim
abbrev zMd:Tabs:=((Tabs.nil.addF 94 zEX).addF 95 zEY)
theorem zIK:TabsOk Tryd.prog zMd:=((TabsOk.nil.addF zMy).addF zMz)
abbrev zIL:Ctrs:=csm zMd (fun _ _=>[]) (fun _=>false)
def zjr:Ann:=⟨52,[(0,zK [0,1,14,15,16] []),(1,zK [0,1,14,15,16,17] []),(2,zK [0,1,3,4,14,15,16] [4]),(3,zK [0,1,3,4,14,15,16,26] [4]),(4,zK [0,1,5,14,15,16] [5]),(5,zK [0,1,14,15,16,34,35] []),(6,zK [0,1,14,15,16,34,35,36] []),(7,zK [0,1,7,14,15,16,34,35] []),(8,zK [0,1,8,9,14,15,16,34,35] [8]),(9,zK [0,1,14,15,16,34,35,49] []),(10,zK [0,1,14,15,16,34,35] []),(11,zK [0,1,14,15,16] [])],
 [(1,zK [0,1,14,15,16] [])],
 [],
 [(6,3,zK [0,1,14,15,16,34,35] [])],[9]⟩
def zeq (l:Nat) (a:web) (zaO:Int):St:=⟨[(0,.one (.c (.p (.yl l)))),(1,.one (.c (.p (.fp [.fp (zaC a) 0] 0)))),(14,.one (.c (.p (.sl a.Net.Ties.len 4 (fun i=>zae (a.Net.Ties.get i)))))),(15,.one (.c (.p (.int .i64 (a.Net.Ties.len:Int))))),(16,.one (.c (.p (.int .i64 zaO))))],[],[]⟩
def zh2 (l:Nat) (ys:List (List PA)) (a:web) (zaO:Int):Prop:=vcY Tryd.prog zIL zjr l (cdF Tryd.f110 [1,0]) (zo8 0 zBv) ys false (zeq l a zaO)
theorem zCk (l : Nat) (a : web) (ys : List (List PA)) :
  vcIter Tryd.prog zIL zjr 110 l [.one (.fp [.fp (zaC a) 0] 0)] ys =
  (zh2 l ys a (0:Int)):=by kernel_rfl
def zm6 (l:Nat) (X0:List (List PA)→Bool→St→Prop) (ys:List (List PA)) (a:web) (zaO:Int):Prop :=
  (zbV (decide (zaO < (a.Net.Ties.len : Int)))
 (((0≤zaO∧zaO < (a.Net.Ties.len:Int))) ∧
 (zbV ((zv3 (a.out.F [zaO]) 0) != 0)
 (X0 ys false (zeq l a (w64 (zaO+(1:Int)))))
 (zbV ((s94 (⟨(a.Net.Ties.get zaO.toNat), zaO⟩ : tie)).2)
 (l=l∧∃ r1,ys=[.agg [.int .i64 (((s94 (⟨(a.Net.Ties.get zaO.toNat),zaO⟩:tie)).1).Use.Tie),.bool (((s94 (⟨(a.Net.Ties.get zaO.toNat),zaO⟩:tie)).1).Use.Back),.int .i64 (((s94 (⟨(a.Net.Ties.get zaO.toNat),zaO⟩:tie)).1).from_),.int .i64 (((s94 (⟨(a.Net.Ties.get zaO.toNat),zaO⟩:tie)).1).to),.int .i64 (((s94 (⟨(a.Net.Ties.get zaO.toNat),zaO⟩:tie)).1).length)]] :: r1 ∧
 (zbV ((s95 (⟨(a.Net.Ties.get zaO.toNat), zaO⟩ : tie)).2)
 (l=l∧∃ r2,r1=[.agg [.int .i64 (((s95 (⟨(a.Net.Ties.get zaO.toNat),zaO⟩:tie)).1).Use.Tie),.bool (((s95 (⟨(a.Net.Ties.get zaO.toNat),zaO⟩:tie)).1).Use.Back),.int .i64 (((s95 (⟨(a.Net.Ties.get zaO.toNat),zaO⟩:tie)).1).from_),.int .i64 (((s95 (⟨(a.Net.Ties.get zaO.toNat),zaO⟩:tie)).1).to),.int .i64 (((s95 (⟨(a.Net.Ties.get zaO.toNat),zaO⟩:tie)).1).length)]] :: r2 ∧
 (X0 r2 false (zeq l a (w64 (zaO+(1:Int)))))∧True)
 (X0 r1 false (zeq l a (w64 (zaO+(1:Int))))))∧True)
 (zbV ((s95 (⟨(a.Net.Ties.get zaO.toNat), zaO⟩ : tie)).2)
 (l=l∧∃ r3,ys=[.agg [.int .i64 (((s95 (⟨(a.Net.Ties.get zaO.toNat),zaO⟩:tie)).1).Use.Tie),.bool (((s95 (⟨(a.Net.Ties.get zaO.toNat),zaO⟩:tie)).1).Use.Back),.int .i64 (((s95 (⟨(a.Net.Ties.get zaO.toNat),zaO⟩:tie)).1).from_),.int .i64 (((s95 (⟨(a.Net.Ties.get zaO.toNat),zaO⟩:tie)).1).to),.int .i64 (((s95 (⟨(a.Net.Ties.get zaO.toNat),zaO⟩:tie)).1).length)]] :: r3 ∧
 (X0 r3 false (zeq l a (w64 (zaO+(1:Int)))))∧True)
 (X0 ys false (zeq l a (w64 (zaO+(1:Int)))))))))
 (ys=[]))
theorem zpW (l : Nat) (X0 : List (List PA) → Bool → St → Prop) (ys : List (List PA)) (a : web) (zaO : Int) :
  vcY Tryd.prog zIL zjr l (cd (cdF Tryd.f110 [1,0]) [0]) (zBt Tryd.prog zjr 1 X0 (zo8 0 zBv)) ys false (zeq l a zaO) =
  zm6 l X0 ys a zaO:=by kernel_rfl
theorem zvI (l : Nat) (ys : List (List PA)) (a : web) (zaO : Int)
  (h:∀ X0:List (List PA)→Bool→St→Prop,(∀ (ys:List (List PA)) (zaO:Int),zm6 l X0 ys a zaO→X0 ys false (zeq l a zaO))→X0 ys false (zeq l a zaO)) :
  zh2 l ys a zaO:=by
  have e:zh2 l ys a zaO=(∀ X:List (List PA)→Bool→St→Prop,(∀ ys q s,vcY Tryd.prog zIL zjr l (cd (cdF Tryd.f110 [1,0]) [0]) (zBt Tryd.prog zjr 1 X (zo8 0 zBv)) ys q s→X ys q s)→X ys false (zeq l a zaO)):=by kernel_rfl
  refine zbd e ?_
  intro X hX
  refine h X ?_
  intro ys zaO hs
  refine hX _ _ _ ?_
  have e2:=zpW l X ys a zaO
  rw [e2]
  exact hs
attribute [irreducible] zh2
def zn6 (a:web) (S0:Int→List step) (zaO:Int):List step :=
  (cond (decide (zaO < (a.Net.Ties.len : Int)))
 (cond ((zv3 (a.out.F [zaO]) 0) != 0)
 (S0 (w64 (zaO+(1:Int))))
 (cond ((s94 (⟨(a.Net.Ties.get zaO.toNat), zaO⟩ : tie)).2)
 (((s94 (⟨(a.Net.Ties.get zaO.toNat), zaO⟩ : tie)).1) :: (cond ((s95 (⟨(a.Net.Ties.get zaO.toNat), zaO⟩ : tie)).2)
 (((s95 (⟨(a.Net.Ties.get zaO.toNat),zaO⟩:tie)).1) :: (S0 (w64 (zaO+(1:Int)))))
 (S0 (w64 (zaO+(1:Int))))))
 (cond ((s95 (⟨(a.Net.Ties.get zaO.toNat), zaO⟩ : tie)).2)
 (((s95 (⟨(a.Net.Ties.get zaO.toNat),zaO⟩:tie)).1) :: (S0 (w64 (zaO+(1:Int)))))
 (S0 (w64 (zaO+(1:Int)))))))
 [])
def zn7 (a:web) (P0:Int→Bool) (zaO:Int):Bool :=
  (cond (decide (zaO < (a.Net.Ties.len : Int)))
 (decide ((0≤zaO∧zaO < (a.Net.Ties.len:Int))) &&
 (cond ((zv3 (a.out.F [zaO]) 0) != 0)
 (P0 (w64 (zaO+(1:Int))))
 (cond ((s94 (⟨(a.Net.Ties.get zaO.toNat), zaO⟩ : tie)).2)
 (cond ((s95 (⟨(a.Net.Ties.get zaO.toNat), zaO⟩ : tie)).2)
 (P0 (w64 (zaO+(1:Int))))
 (P0 (w64 (zaO+(1:Int)))))
 (cond ((s95 (⟨(a.Net.Ties.get zaO.toNat), zaO⟩ : tie)).2)
 (P0 (w64 (zaO+(1:Int))))
 (P0 (w64 (zaO+(1:Int))))))))
 true)
def zh3 (a : web) : Nat → Int → List step
  | 0=>fun _=>[]
  | k+1=>zn6 a (zh3 a k)
def zh4 (a : web) : Nat → Int → Bool
  | 0=>fun _=>false
  | k+1=>zn7 a (zh4 a k)
def zul (a:web) (zaO:Int):List step:=zh3 a Fuel zaO
def zum (a:web) (zaO:Int):Bool:=zh4 a Fuel zaO
theorem zCl (l:Nat) (a:web) (ys:List (List PA)) (zaO:Int) (hs:zum a zaO=true) (hk:ys=(zul a zaO).map (fun y=>[.agg (zad y)])):zh2 l ys a zaO:=by
  refine zvI l ys a zaO ?_
  intro X0 hstep
  have key:∀ (k:Nat) (ys:List (List PA)) (zaO:Int),zh4 a k zaO=true→ys=(zh3 a k zaO).map (fun y=>[.agg (zad y)])→X0 ys false (zeq l a zaO):=by
    intro k
    induction k with
    | zero=>intro ys zaO hs;exact absurd hs Bool.false_ne_true
    | succ k ih =>
      intro ys zaO hs hk
      refine hstep ys zaO ?_
      have hs:zn7 a (zh4 a k) zaO=true:=hs
      have hk:ys=(zn6 a (zh3 a k) zaO).map (fun y=>[.agg (zad y)]):=hk
      unfold zn7 at hs
      unfold zn6 at hk
      generalize zh3 a k=S0 at hk ih
      generalize zh4 a k=P0 at hs ih
      have hX0:=ih
      exact (zhZ hs hk
 (fun hs hk => (za6 hs fun hc hs => ⟨hc, (zhZ hs hk
 (fun hs hk=>(hX0 _ (w64 (zaO+(1:Int))) hs hk))
 (fun hs hk => (zhZ hs hk
 (fun hs hk => (itY hk rfl (fun _ hk => (zhZ hs hk
 (fun hs hk=>(itY hk rfl (fun _ hk=>(hX0 _ (w64 (zaO+(1:Int))) hs hk))))
 (fun hs hk=>(hX0 _ (w64 (zaO+(1:Int))) hs hk))))))
 (fun hs hk => (zhZ hs hk
 (fun hs hk=>(itY hk rfl (fun _ hk=>(hX0 _ (w64 (zaO+(1:Int))) hs hk))))
 (fun hs hk=>(hX0 _ (w64 (zaO+(1:Int))) hs hk)))))))⟩))
 (fun hs hk=>hk))
  exact key _ _ zaO hs hk
def ziJ (a:web):List step :=
  (zul a (0:Int))
def zmy (a:web):Bool :=
  (zum a (0:Int))
theorem zMA (l:Nat) (a:web) (ys:List (List PA)) (hs:zmy a=true) (hk:ys=(ziJ a).map (fun y=>[.agg (zad y)])):vcIter Tryd.prog zIL zjr 110 l [.one (.fp [.fp (zaC a) 0] 0)] ys:=by
  refine zbd (zCk l a ys) ?_
  unfold zmy at hs
  unfold ziJ at hk
  exact (zCl l a _ (0:Int) hs hk)
def zpX : List PA → Option (Prop × List (List PA))
  | [.one (.fp [.fp [.int .i64 a_Net_Nodes,.sl a_Net_Ties_n a_Net_Ties_s a_Net_Ties_g,.fm a_out_q a_out_n a_out_F] 0] 0)]=>some (IsE zae 4 a_Net_Ties_s a_Net_Ties_g∧a_out_q=(false,1,false,[none])∧zmy (⟨(⟨a_Net_Nodes,(⟨a_Net_Ties_n,zar a_Net_Ties_g⟩:(Sl Tie))⟩:Net),(⟨a_out_n,a_out_F⟩:Mp)⟩:web)=true,(ziJ (⟨(⟨a_Net_Nodes,(⟨a_Net_Ties_n,zar a_Net_Ties_g⟩:(Sl Tie))⟩:Net),(⟨a_out_n,a_out_F⟩:Mp)⟩:web)).map fun y=>[.agg (zad y)])
  | _=>none
theorem zEZ:zax Tryd.prog 110:=⟨_,rfl,rfl,by kernel_rfl⟩
theorem zvJ:zDb Tryd.prog 110 zpX:=zIn zIK zEZ fun l caps safe ys h hs=>by
  unfold zpX at h
  split at h
  · rename_i a_Net_Nodes a_Net_Ties_n a_Net_Ties_s a_Net_Ties_g a_out_q a_out_n a_out_F
    cases h
    obtain ⟨⟨rfl,a_Net_Ties_f,rfl⟩,rfl,hs⟩:=hs
    try rw [zau a_Net_Ties_f] at hs
    try rw [zau a_Net_Ties_f]
    exact ⟨fun _ _=>[],fun _=>false,zjr,zMA l (⟨(⟨a_Net_Nodes,(⟨a_Net_Ties_n,a_Net_Ties_f⟩:(Sl Tie))⟩:Net),(⟨a_out_n,a_out_F⟩:Mp)⟩:web) _ hs rfl⟩
  · cases h
abbrev T88:Tabs:=((Tabs.nil.addF 93 zpV).addI 110 zpX)
theorem zKP:TabsOk Tryd.prog T88:=((TabsOk.nil.addF zHJ).addI zvJ)
abbrev G88:Ctrs:=csm T88 (fun _ _=>[]) (fun _=>false)
def zc6:Ann:=⟨37,[(0,zK [0] []),(1,zK [0,3] [3]),(2,zK [0,3,11,12] [3]),(3,zK [0,3,11,12,13] [3]),(4,zK [0,3,4,11,12] [3,4]),(5,zK [0,3,4,11,12,15] [3,4]),(6,zK [0,3,4,5,11,12,15] [3,4,5]),(7,zK [0,3,4,5,6,11,12,15] [3,4,5]),(8,zK [0,3,4,5,6,11,12,15,29] [3,4,5]),(9,zK [0,3,4,11,12,15] [3,4]),(10,zK [0,3,4,11,12,15] [3,4]),(11,zK [0,3,11,12,35] [3]),(12,zK [2] []),(13,zK [0,3,11,12] [3]),(14,zK [2] [])],
 [(3,zK [0,3,11,12] [3]),(6,zK [0,3,4,11,12,15] [3,4])],
 [],
 [],[]⟩
def zjs (w:web) (zbt:Int) (dt0:Tab):St:=⟨[(0,.one (.c (.p (.fp (zaC w) 0)))),(3,.one (.c (.ptr 3 0))),(11,.one (.c (.p (.int .i64 w.Net.Nodes)))),(12,.one (.c (.p (.int .i64 zbt))))],[(3,.box 157 (zm (zxG dt0)))],[]⟩
def zk8 (K:List PA→Prop) (w:web) (zbt:Int) (dt0:Tab):Prop:=vc Tryd.prog G88 zc6 (cdF Tryd.f88 [1,1,0,1,0]) (zai 0 (sqK Tryd.prog G88 zc6 (cdF Tryd.f88 [1,1,1]) (zbo Tryd.prog Tryd.f88 K))) (zjs w zbt dt0)
def zhe (w:web) (zbh:Int) (zaw:Bool) (dt1:Tab):St:=⟨[(0,.one (.c (.p (.fp (zaC w) 0)))),(3,.one (.c (.ptr 3 0))),(4,.one (.c (.ptr 4 0))),(11,.one (.c (.p (.int .i64 w.Net.Nodes)))),(12,.one (.c (.p (.int .i64 zbh)))),(15,.one (.c (.p (.fn 110 [] [.fp [.fp (zaC w) 0] 0]))))],[(3,.box 157 (zm (zxG dt1))),(4,.box 4 [.p (.bool zaw)])],[]⟩
def zk9 (K:List PA→Prop) (X0:St→Prop) (w:web) (zbh:Int) (zaw:Bool) (dt1:Tab):Prop:=vc Tryd.prog G88 zc6 (cdF Tryd.f88 [1,1,0,1,0,0,1,1,0,0,1,0,1,0]) (zai 2 (sqK Tryd.prog G88 zc6 (cdF Tryd.f88 [1,1,0,1,0,0,1,1,0,0,1,1]) (zai 1 (sqK Tryd.prog G88 zc6 (cdF Tryd.f88 [1,1,0,1,0,0,1,1,1]) (zbp Tryd.prog zc6 3 X0 (zai 0 (sqK Tryd.prog G88 zc6 (cdF Tryd.f88 [1,1,1]) (zbo Tryd.prog Tryd.f88 K)))))))) (zhe w zbh zaw dt1)
theorem zE0 (w : web) (K : List PA → Prop) :
  vcFun Tryd.prog G88 zc6 88 [.one (.fp (zaC w) 0)] K =
  (zk8 K w (0:Int) (fun _=>(0:Int))):=by kernel_rfl
def zpY (K:List PA→Prop) (X0:St→Prop) (w:web) (zbt:Int) (dt0:Tab):Prop :=
  (zbV (decide (zbt < w.Net.Nodes))
 ((IsE zae 4 4 (fun i=>zae (w.Net.Ties.get i))∧((false,1,false,[none]):MQ)=(false,1,false,[none])) ∧
 (zk9 K X0 w zbt false dt0))
 (K [.one (.bool true)]))
theorem zrx (K : List PA → Prop) (X0 : St → Prop) (w : web) (zbt : Int) (dt0 : Tab) :
  vc Tryd.prog G88 zc6 (cd (cdF Tryd.f88 [1,1,0,1,0]) [0]) (zbp Tryd.prog zc6 3 X0 (zai 0 (sqK Tryd.prog G88 zc6 (cdF Tryd.f88 [1,1,1]) (zbo Tryd.prog Tryd.f88 K)))) (zjs w zbt dt0) =
  zpY K X0 w zbt dt0:=by kernel_rfl
theorem zxM (K : List PA → Prop) (w : web) (zbt : Int) (dt0 : Tab)
  (h:∀ X0:St→Prop,(∀ (zbt:Int) (dt0:Tab),zpY K X0 w zbt dt0→X0 (zjs w zbt dt0))→X0 (zjs w zbt dt0)) :
  zk8 K w zbt dt0:=by
  have e:zk8 K w zbt dt0=(∀ X:St→Prop,(∀ s,vc Tryd.prog G88 zc6 (cd (cdF Tryd.f88 [1,1,0,1,0]) [0]) (zbp Tryd.prog zc6 3 X (zai 0 (sqK Tryd.prog G88 zc6 (cdF Tryd.f88 [1,1,1]) (zbo Tryd.prog Tryd.f88 K)))) s→X s)→X (zjs w zbt dt0)):=by kernel_rfl
  refine zbd e ?_
  intro X hX
  refine h X ?_
  intro zbt dt0 hs
  refine hX _ ?_
  have e2:=zrx K X w zbt dt0
  rw [e2]
  exact hs
def zpZ (K:List PA→Prop) (X0:St→Prop) (w:web) (zbh:Int) (zaw:Bool) (dt1:Tab):Prop :=
  (zbV (!zaw)
 (K [.one (.bool false)])
 (X0 (zjs w (w64 (zbh+(1:Int))) dt1)))
def zp0 (K:List PA→Prop) (X0:St→Prop) (X1:List (List PA)→St→Prop) (y1:step) (rest1:List (List PA)) (w:web) (zbh:Int) (zaw:Bool) (dt1:Tab):Prop :=
  (((0≤y1.from_∧y1.from_ < (40:Int))) ∧
 (((0≤y1.to∧y1.to < (40:Int))) ∧
 (zbV (decide ((w64 ((tg 40 dt1 (0 + y1.from_.toNat * 1 + 0)) + y1.length)) < (tg 40 dt1 (0 + y1.to.toNat * 1 + 0))))
 (((0≤y1.to∧y1.to < (40:Int))) ∧
 (X1 rest1 (zhe w zbh true (ts 40 dt1 (0+y1.to.toNat * 1+0) [(w64 ((tg 40 dt1 (0+y1.from_.toNat * 1+0))+y1.length))]))))
 (X1 rest1 (zhe w zbh zaw dt1)))))
theorem zry (K:List PA→Prop) (X0:St→Prop) (w:web) (zbh:Int) (zaw:Bool) (dt1:Tab):(zai 2 (sqK Tryd.prog G88 zc6 (cdF Tryd.f88 [1,1,0,1,0,0,1,1,0,0,1,1]) (zai 1 (sqK Tryd.prog G88 zc6 (cdF Tryd.f88 [1,1,0,1,0,0,1,1,1]) (zbp Tryd.prog zc6 3 X0 (zai 0 (sqK Tryd.prog G88 zc6 (cdF Tryd.f88 [1,1,1]) (zbo Tryd.prog Tryd.f88 K)))))))) .normal (zhe w zbh zaw dt1)=zpZ K X0 w zbh zaw dt1:=by kernel_rfl
theorem zrz (K : List PA → Prop) (X0 : St → Prop) (X1 : List (List PA) → St → Prop) (y1 : step) (rest1 : List (List PA)) (w : web) (zbh : Int) (zaw : Bool) (dt1 : Tab) :
  zv1 Tryd.prog G88 zc6 6 [16] (cd (cdF Tryd.f88 [1,1,0,1,0,0,1,1,0,0,1,0,1,0]) [0]) (cd (cdF Tryd.f88 [1,1,0,1,0,0,1,1,0,0,1,0,1,0]) [1]) X1 (zai 2 (sqK Tryd.prog G88 zc6 (cdF Tryd.f88 [1,1,0,1,0,0,1,1,0,0,1,1]) (zai 1 (sqK Tryd.prog G88 zc6 (cdF Tryd.f88 [1,1,0,1,0,0,1,1,1]) (zbp Tryd.prog zc6 3 X0 (zai 0 (sqK Tryd.prog G88 zc6 (cdF Tryd.f88 [1,1,1]) (zbo Tryd.prog Tryd.f88 K)))))))) [.agg (zad y1)] rest1 (zhe w zbh zaw dt1)=zp0 K X0 X1 y1 rest1 w zbh zaw dt1:=by kernel_rfl
theorem zxN (K : List PA → Prop) (X0 : St → Prop) (w : web) (zbh : Int) (zaw : Bool) (dt1 : Tab)
  (hsafe:IsE zae 4 4 (fun i=>zae (w.Net.Ties.get i))∧((false,1,false,[none]):MQ)=(false,1,false,[none])∧(zmy w=true)) (h:∀ X1:List (List PA)→St→Prop,(∀ (zbh:Int) (zaw:Bool) (dt1:Tab),zpZ K X0 w zbh zaw dt1→X1 [] (zhe w zbh zaw dt1))→(∀ (y:step) (rest:List (List PA)) (zbh:Int) (zaw:Bool) (dt1:Tab),zp0 K X0 X1 y rest w zbh zaw dt1→X1 ([.agg (zad y)] :: rest) (zhe w zbh zaw dt1))→X1 ((ziJ w).map fun y=>[.agg (zad y)]) (zhe w zbh zaw dt1)) :
  zk9 K X0 w zbh zaw dt1:=by
  have e:zk9 K X0 w zbh zaw dt1=((IsE zae 4 4 (fun i=>zae (w.Net.Ties.get i))∧((false,1,false,[none]):MQ)=(false,1,false,[none])∧(zmy w=true))∧∀ X:List (List PA)→St→Prop,(∀ s,(zai 2 (sqK Tryd.prog G88 zc6 (cdF Tryd.f88 [1,1,0,1,0,0,1,1,0,0,1,1]) (zai 1 (sqK Tryd.prog G88 zc6 (cdF Tryd.f88 [1,1,0,1,0,0,1,1,1]) (zbp Tryd.prog zc6 3 X0 (zai 0 (sqK Tryd.prog G88 zc6 (cdF Tryd.f88 [1,1,1]) (zbo Tryd.prog Tryd.f88 K)))))))) .normal s→X [] s)→(∀ y rest s,zv1 Tryd.prog G88 zc6 6 [16] (cd (cdF Tryd.f88 [1,1,0,1,0,0,1,1,0,0,1,0,1,0]) [0]) (cd (cdF Tryd.f88 [1,1,0,1,0,0,1,1,0,0,1,0,1,0]) [1]) X (zai 2 (sqK Tryd.prog G88 zc6 (cdF Tryd.f88 [1,1,0,1,0,0,1,1,0,0,1,1]) (zai 1 (sqK Tryd.prog G88 zc6 (cdF Tryd.f88 [1,1,0,1,0,0,1,1,1]) (zbp Tryd.prog zc6 3 X0 (zai 0 (sqK Tryd.prog G88 zc6 (cdF Tryd.f88 [1,1,1]) (zbo Tryd.prog Tryd.f88 K)))))))) y rest s→X (y :: rest) s)→X ((ziJ w).map fun y=>[.agg (zad y)]) (zhe w zbh zaw dt1)):=by kernel_rfl
  refine zbd e ⟨hsafe,?_⟩
  intro X h0 h1
  refine h X (fun zbh zaw dt1 hs=>h0 _ ?_) (fun y rest zbh zaw dt1 hs=>h1 _ rest _ ?_)
  · rw [zry K X0 w zbh zaw dt1];exact hs
  · have e2 := zrz K X0 X y rest w zbh zaw dt1
    rw [e2];exact hs
abbrev e88 (r:Bool):List PA:=[.one (.bool r)]
attribute [irreducible] zk8 zk9
def zrA (S0:Int→Tab→Bool) (w:web) (zbh:Int) (zaw:Bool) (dt1:Tab):Bool :=
  (cond (!zaw)
 false
 (S0 (w64 (zbh+(1:Int))) dt1))
def zrB (P0:Int→Tab→Bool) (w:web) (zbh:Int) (zaw:Bool) (dt1:Tab):Bool :=
  (cond (!zaw)
 true
 (P0 (w64 (zbh+(1:Int))) dt1))
def zrC (S0:Int→Tab→Bool) (w:web) (y1:step) (S1:Int→Bool→Tab→Bool) (zbh:Int) (zaw:Bool) (dt1:Tab):Bool :=
  (cond (decide ((w64 ((tg 40 dt1 (0 + y1.from_.toNat * 1 + 0)) + y1.length)) < (tg 40 dt1 (0 + y1.to.toNat * 1 + 0))))
 (S1 zbh true (ts 40 dt1 (0+y1.to.toNat * 1+0) [(w64 ((tg 40 dt1 (0+y1.from_.toNat * 1+0))+y1.length))]))
 (S1 zbh zaw dt1))
def zrD (P0:Int→Tab→Bool) (w:web) (y1:step) (P1:Int→Bool→Tab→Bool) (zbh:Int) (zaw:Bool) (dt1:Tab):Bool :=
  (decide ((0≤y1.from_∧y1.from_ < (40:Int))) &&
 (decide ((0≤y1.to∧y1.to < (40:Int))) &&
 (cond (decide ((w64 ((tg 40 dt1 (0 + y1.from_.toNat * 1 + 0)) + y1.length)) < (tg 40 dt1 (0 + y1.to.toNat * 1 + 0))))
 (decide ((0≤y1.to∧y1.to < (40:Int))) &&
 (P1 zbh true (ts 40 dt1 (0+y1.to.toNat * 1+0) [(w64 ((tg 40 dt1 (0+y1.from_.toNat * 1+0))+y1.length))])))
 (P1 zbh zaw dt1))))
def zla (S0 : Int → Tab → Bool) (w : web) : List step → Int → Bool → Tab → Bool
  | []=>zrA S0 w
  | y :: r=>zrC S0 w y (zla S0 w r)
def zlb (P0 : Int → Tab → Bool) (w : web) : List step → Int → Bool → Tab → Bool
  | []=>zrB P0 w
  | y :: r=>zrD P0 w y (zlb P0 w r)
def zxO (S0:Int→Tab→Bool) (w:web) (zbh:Int) (zaw:Bool) (dt1:Tab):Bool:=zla S0 w (ziJ w) zbh zaw dt1
def zrE (P0:Int→Tab→Bool) (w:web) (zbh:Int) (zaw:Bool) (dt1:Tab):Bool:=decide ((zmy w=true)) && zlb P0 w (ziJ w) zbh zaw dt1
theorem zE1 (K : List PA → Prop) (w : web)
  (X0:St→Prop) (P0:Int→Tab→Bool) (S0:Int→Tab→Bool)
  (hX0:∀ (zbt:Int) (dt0:Tab),P0 zbt dt0=true→K (e88 (S0 zbt dt0))→X0 (zjs w zbt dt0)) (zbh:Int) (zaw:Bool) (dt1:Tab) (hs:zrE P0 w zbh zaw dt1=true) (hk:K (e88 (zxO S0 w zbh zaw dt1))):zk9 K X0 w zbh zaw dt1:=by
  unfold zrE at hs
  rw [Bool.and_eq_true] at hs
  obtain ⟨hsf,hs⟩:=hs
  have hc:=of_decide_eq_true hsf
  refine zxN K X0 w zbh zaw dt1 ⟨isE,rfl,hc⟩ ?_
  intro X1 hexit hstep
  have key:∀ (l:List step) (zbh:Int) (zaw:Bool) (dt1:Tab),zlb P0 w l zbh zaw dt1=true→K (e88 (zla S0 w l zbh zaw dt1))→X1 (l.map fun y=>[.agg (zad y)]) (zhe w zbh zaw dt1):=by
    intro l
    induction l with
    | nil =>
      intro zbh zaw dt1 hs hk
      refine hexit zbh zaw dt1 ?_
      have hs:zrB P0 w zbh zaw dt1=true:=hs
      have hk:K (e88 (zrA S0 w zbh zaw dt1)):=hk
      unfold zrB at hs
      unfold zrA at hk
      exact (za2 (K := fun r => K (e88 r))
 (fun hs hk=>hk)
 (fun hs hk=>(hX0 (w64 (zbh+(1:Int))) dt1 hs hk)) hs hk)
    | cons y1 l ih =>
      intro zbh zaw dt1 hs hk
      refine hstep y1 _ zbh zaw dt1 ?_
      have hs:zrD P0 w y1 (zlb P0 w l) zbh zaw dt1=true:=hs
      have hk:K (e88 (zrC S0 w y1 (zla S0 w l) zbh zaw dt1)):=hk
      unfold zrD at hs
      unfold zrC at hk
      generalize zla S0 w l=S1 at hk ih
      generalize zlb P0 w l=P1 at hs ih
      have hX1:=ih
      exact (za6 hs fun hc hs => ⟨hc, (za6 hs fun hc hs => ⟨hc, (za2 (K := fun r => K (e88 r))
 (fun hs hk=>(za6 hs fun hc hs=>⟨hc,(hX1 zbh true (ts 40 dt1 (0+y1.to.toNat * 1+0) [(w64 ((tg 40 dt1 (0+y1.from_.toNat * 1+0))+y1.length))]) hs hk)⟩))
 (fun hs hk=>(hX1 zbh zaw dt1 hs hk)) hs hk)⟩)⟩)
  exact key _ zbh zaw dt1 hs hk
def zrF (w:web) (S0:Int→Tab→Bool) (zbt:Int) (dt0:Tab):Bool :=
  (cond (decide (zbt < w.Net.Nodes))
 (zxO S0 w zbt false dt0)
 true)
def zrG (w:web) (P0:Int→Tab→Bool) (zbt:Int) (dt0:Tab):Bool :=
  (cond (decide (zbt < w.Net.Nodes))
 (zrE P0 w zbt false dt0)
 true)
def zlc (w : web) : Nat → Int → Tab → Bool
  | 0=>fun _ _=>default
  | k+1=>zrF w (zlc w k)
def zld (w : web) : Nat → Int → Tab → Bool
  | 0=>fun _ _=>false
  | k+1=>zrG w (zld w k)
def zxP (w:web) (zbt:Int) (dt0:Tab):Bool:=zlc w Fuel zbt dt0
def zxQ (w:web) (zbt:Int) (dt0:Tab):Bool:=zld w Fuel zbt dt0
theorem zE2 (K:List PA→Prop) (w:web) (zbt:Int) (dt0:Tab) (hs:zxQ w zbt dt0=true) (hk:K (e88 (zxP w zbt dt0))):zk8 K w zbt dt0:=by
  refine zxM K w zbt dt0 ?_
  intro X0 hstep
  have key:∀ (k:Nat) (zbt:Int) (dt0:Tab),zld w k zbt dt0=true→K (e88 (zlc w k zbt dt0))→X0 (zjs w zbt dt0):=by
    intro k
    induction k with
    | zero=>intro zbt dt0 hs;exact absurd hs Bool.false_ne_true
    | succ k ih =>
      intro zbt dt0 hs hk
      refine hstep zbt dt0 ?_
      have hs:zrG w (zld w k) zbt dt0=true:=hs
      have hk:K (e88 (zrF w (zlc w k) zbt dt0)):=hk
      unfold zrG at hs
      unfold zrF at hk
      generalize zlc w k=S0 at hk ih
      generalize zld w k=P0 at hs ih
      have hX0:=ih
      exact (za2 (K := fun r => K (e88 r))
 (fun hs hk=>⟨⟨isE,rfl⟩,(zE1 K w X0 P0 S0 hX0 zbt false dt0 hs hk)⟩)
 (fun hs hk=>hk) hs hk)
  exact key _ zbt dt0 hs hk
def s88 (w:web):Bool :=
  (zxP w (0:Int) (fun _=>(0:Int)))
def p88 (w:web):Bool :=
  (zxQ w (0:Int) (fun _=>(0:Int)))
theorem q88 (w:web) (K:List PA→Prop) (hs:p88 w=true) (hk:K (e88 (s88 w))):vcFun Tryd.prog G88 zc6 88 [.one (.fp (zaC w) 0)] K:=by
  refine zbd (zE0 w K) ?_
  unfold p88 at hs
  unfold s88 at hk
  exact (zE2 K w (0:Int) (fun _=>(0:Int)) hs hk)
def zxR : List PA → COut
  | [.one (.fp [.int .i64 zas,.sl zal zaP zam,.fm zbK zaS zaT] 0)]=>.det (IsE zae 4 zaP zam∧zbK=(false,1,false,[none])∧p88 (⟨(⟨zas,(⟨zal,zar zam⟩:(Sl Tie))⟩:Net),(⟨zaS,zaT⟩:Mp)⟩:web)=true) [.one (.bool (s88 (⟨(⟨zas,(⟨zal,zar zam⟩:(Sl Tie))⟩:Net),(⟨zaS,zaT⟩:Mp)⟩:web)))]
  | _=>.no
theorem zIM:zax Tryd.prog 88:=⟨_,rfl,rfl,by kernel_rfl⟩
theorem zKQ:Ok Tryd.prog 88 zxR:=zbY zKP zIM fun args K h=>by
  unfold zxR at h
  split at h
  · rename_i zas zal zaP zam zbK zaS zaT
    obtain ⟨⟨⟨rfl,zaB,rfl⟩,rfl,hs⟩,hk⟩:=h
    try rw [zau zaB] at hs
    try rw [zau zaB] at hk
    exact ⟨(fun _ _=>[]),(fun _=>false),zc6,q88 (⟨(⟨zas,(⟨zal,zaB⟩:(Sl Tie))⟩:Net),(⟨zaS,zaT⟩:Mp)⟩:web) K hs hk⟩
  · exact h.elim
abbrev zMe:Tabs:=Tabs.nil
theorem zIN:TabsOk Tryd.prog zMe:=TabsOk.nil
abbrev zMB:Ctrs:=csm zMe (fun _ _=>[]) (fun _=>false)
def zDt:Ann:=⟨24,[(0,zK [2,3] [2,3]),(1,zK [4] [])],
 [],
 [],
 [],[]⟩
abbrev zMC:=Bool
abbrev zMD (r:zMC):List PA:=[.one (.bool r)]
section
variable {K:List PA→Prop} {a:far} {b:far}
def zKm (a:far) (b:far):Bool :=
  (cond (decide (a.length < b.length))
 true
 (cond (a.length == b.length)
 (decide (a.uses < b.uses))
 false))
end
theorem zME (a:far) (b:far) (K:List PA→Prop) (hk:K (zMD (zKm a b))):vcFun Tryd.prog zMB zDt 105 [.agg (zcI a),.agg (zcI b)] K :=
  zbd (by kernel_rfl) (zt hk (fun hk=>hk) (fun hk=>(zt hk (fun hk=>hk) (fun hk=>hk))))
def zxS : List PA → COut
  | [.agg [.int .i64 zcL,.int .i64 zrH],.agg [.int .i64 zcm,.int .i64 zfw]]=>.tot [.one (.bool (zKm (⟨zcL,zrH⟩:far) (⟨zcm,zfw⟩:far)))]
  | _=>.no
theorem zE3:zax Tryd.prog 105:=⟨_,rfl,rfl,by kernel_rfl⟩
theorem zKR:Ok Tryd.prog 105 zxS:=zbY zIN zE3 fun args K h=>by
  unfold zxS at h
  split at h
  · rename_i zcL zrH zcm zfw
    have hk:=h
    exact ⟨(fun _ _=>[]),(fun _=>false),zDt,zME (⟨zcL,zrH⟩:far) (⟨zcm,zfw⟩:far) K hk⟩
  · exact h.elim
abbrev zMf:Tabs:=(Tabs.nil.addF 105 zxS)
theorem zIO:TabsOk Tryd.prog zMf:=(TabsOk.nil.addF zKR)
abbrev zMg:Ctrs:=csm zMf (fun _ _=>[]) (fun _=>false)
def zxT:Ann:=⟨22,[(0,zK [0,2,4,6] [4,6]),(1,zK [0,4,6,9,10,11] [4,6]),(2,zK [0,4,6,9,10,11,12] [4,6]),(3,zK [0,4,6,8,9,10,11] [4,6,8]),(4,zK [0,4,6,8,9,10,11,18] [4,6,8]),(5,zK [0,4,6,9,10,11] [4,6]),(6,zK [0,4,6,9,10,11] [4,6]),(7,zK [6] [6])],
 [(2,zK [0,4,6,9,10,11] [4,6])],
 [(5,zK [0,4,6,8,9,10,11,18] [4,6,8])],
 [],[]⟩
abbrev zMF:=far
abbrev zKn (r:zMF):List PA:=[.agg [.int .i64 r.length,.int .i64 r.uses]]
@[irreducible] def z104:=ptF Tryd.prog zMg zxT Tryd.f104
def zxU (others:(Sl far)) (za5:Int) (zbz:Int) (zbA:Int):St:=⟨[(0,zP (.fn 105 [] [])),(4,zp 4 0),(6,zp 6 0),(9,zS zcI 2 others),(10,zI (others.len:Int)),(11,zI za5)],[(4,.box 114 (zm (zcI (⟨zbz,zbA⟩:far)))),(6,.box 114 (zm (zcI (⟨(0:Int),(0:Int)⟩:far))))],[]⟩
abbrev zxV (K:List PA→Prop) (others:(Sl far)) (X:St→Prop) (P:Int→Int→Int→Bool) (S:Int→Int→Int→far):Prop:=∀ ⦃za5:Int⦄ ⦃zbz:Int⦄ ⦃zbA:Int⦄,P za5 zbz zbA=true→K (zKn (S za5 zbz zbA))→X (zxU others za5 zbz zbA)
section
variable {K:List PA→Prop} {first:far} {others:(Sl far)} {za5:Int} {zbz:Int} {zbA:Int} {X0:St→Prop} {P0:Int→Int→Int→Bool} {S0:Int→Int→Int→far} {zda:Int} {zbW:Bool} {zer:Int} {zes:Int} {zrI:Int} {zrJ:Int}
def zun (S0:Int→Int→Int→far) (others:(Sl far)) (zda:Int) (zbW:Bool) (zer:Int) (zes:Int) (zrI:Int) (zrJ:Int):far :=
  (cond zbW
 (S0 (w64 (zda+(1:Int))) zrI zrJ)
 (S0 (w64 (zda+(1:Int))) zer zes))
def zuo (P0:Int→Int→Int→Bool) (others:(Sl far)) (zda:Int) (zbW:Bool) (zer:Int) (zes:Int) (zrI:Int) (zrJ:Int):Bool :=
  (cond zbW
 (P0 (w64 (zda+(1:Int))) zrI zrJ)
 (P0 (w64 (zda+(1:Int))) zer zes))
theorem zCm (hX0:zxV K others X0 P0 S0) (hs:zuo P0 others zda zbW zer zes zrI zrJ=true) (hk:K (zKn (zun S0 others zda zbW zer zes zrI zrJ))):z104 K [1,0,1,0,0,1,1,0,0,1,1] [X0] ⟨[(0,zP (.fn 105 [] [])),(4,zp 4 0),(6,zp 6 0),(8,zp 8 0),(9,zS zcI 2 others),(10,zI (others.len:Int)),(11,zI zda),(18,zB zbW)],[(4,.box 114 (zm (zcI (⟨zer,zes⟩:far)))),(6,.box 114 (zm (zcI (⟨(0:Int),(0:Int)⟩:far)))),(8,.box 114 (zm (zcI (⟨zrI,zrJ⟩:far))))],[]⟩:=zbd (by kernel_rfl) (zc hs hk (fun hs hk=>(hX0 hs hk)) (fun hs hk=>(hX0 hs hk)))
def zup (others:(Sl far)) (S0:Int→Int→Int→far) (za5:Int) (zbz:Int) (zbA:Int):far :=
  (cond (decide (za5 < (others.len : Int)))
 (zun S0 others za5 (zKm (others.get za5.toNat) (⟨zbz,zbA⟩:far)) zbz zbA ((others.get za5.toNat).length) ((others.get za5.toNat).uses))
 (⟨zbz,zbA⟩:far))
def zuq (others:(Sl far)) (P0:Int→Int→Int→Bool) (za5:Int) (zbz:Int) (zbA:Int):Bool :=
  (cond (decide (za5 < (others.len : Int)))
 (decide ((0≤za5∧za5 < (others.len:Int))) &&
 (zuo P0 others za5 (zKm (others.get za5.toNat) (⟨zbz,zbA⟩:far)) zbz zbA ((others.get za5.toNat).length) ((others.get za5.toNat).uses)))
 true)
def zur (others:(Sl far)):Nat→Int→Int→Int→far:=lpO (fun _ _ _=>default) (zup others)
def zus (others:(Sl far)):Nat→Int→Int→Int→Bool:=lpO (fun _ _ _=>false) (zuq others)
def zut (others:(Sl far)) (za5:Int) (zbz:Int) (zbA:Int):far:=zur others Fuel za5 zbz zbA
def zuu (others:(Sl far)) (za5:Int) (zbz:Int) (zbA:Int):Bool:=zus others Fuel za5 zbz zbA
theorem zCn (hs:zuu others za5 zbz zbA=true) (hk:K (zKn (zut others za5 zbz zbA))):z104 K [1,0,1,0] [] (zxU others za5 zbz zbA) :=
  zl (fun X=>z104 K [1,0,1,0,0] [X]) (by kernel_rfl) fun X0 hX =>
  (show ∀ k, zxV K others X0 (zus others k) (zur others k) from zhs _ _ (zuq others) (zup others) (zxV K others X0)
 (by intro _ _ _ hs;exact absurd hs Bool.false_ne_true)
 (by intro P0 S0 hX0 za5 zbz zbA hs hk;exact hX _ (zbd (by kernel_rfl) (zc hs hk (fun hs hk=>(za6 hs fun hc hs=>And.intro hc (zCm hX0 hs hk))) (fun hs hk=>hk))))) _ hs hk
def zdb (first:far) (others:(Sl far)):far :=
  (zut others (0:Int) first.length first.uses)
def zDu (first:far) (others:(Sl far)):Bool :=
  (zuu others (0:Int) first.length first.uses)
end
theorem zMG (first:far) (others:(Sl far)) (K:List PA→Prop) (hs:zDu first others=true) (hk:K (zKn (zdb first others))):vcFun Tryd.prog zMg zxT 104 [.one (.fn 105 [] []),.agg (zcI first),.one (.sl others.len 2 (fun i=>zcI (others.get i)))] K :=
  zbd (by kernel_rfl) (zCn hs hk)
def zp1 : List PA → COut
  | [.one (.fn 105 [] []),.agg [.int .i64 zcm,.int .i64 zfw],.one (.sl zIP zMh zIQ)]=>.det (IsE zcI 2 zMh zIQ∧zDu (⟨zcm,zfw⟩:far) (⟨zIP,zj1 zIQ⟩:(Sl far))=true) [.agg [.int .i64 ((zdb (⟨zcm,zfw⟩:far) (⟨zIP,zj1 zIQ⟩:(Sl far))).length),.int .i64 ((zdb (⟨zcm,zfw⟩:far) (⟨zIP,zj1 zIQ⟩:(Sl far))).uses)]]
  | _=>.no
theorem zE4:zax Tryd.prog 104:=⟨_,rfl,rfl,by kernel_rfl⟩
theorem zE5:Ok Tryd.prog 104 zp1:=zbY zIO zE4 fun args K h=>by
  unfold zp1 at h
  split at h
  · rename_i zcm zfw zIP zMh zIQ
    obtain ⟨⟨⟨rfl,zKS,rfl⟩,hs⟩,hk⟩:=h
    try rw [zjq zKS] at hs
    try rw [zjq zKS] at hk
    exact ⟨(fun _ _=>[]),(fun _=>false),zxT,zMG (⟨zcm,zfw⟩:far) (⟨zIP,zKS⟩:(Sl far)) K hs hk⟩
  · exact h.elim
abbrev zMi:Tabs:=(((Tabs.nil.addF 93 zpV).addF 104 zp1).addI 110 zpX)
theorem zIR:TabsOk Tryd.prog zMi:=(((TabsOk.nil.addF zHJ).addF zE5).addI zvJ)
abbrev zf1:Ctrs:=csm zMi (fun _ _=>[]) (fun _=>false)
def zbi:Ann:=⟨91,[(0,zK [0,2,4] [4]),(1,zK [0,2,4,7] [4,7,15]),(2,zK [0,2,4,7,17,18] [4,7,15]),(3,zK [0,2,4,7,17,18,19] [4,7,15]),(4,zK [0,2,4,7,8,17,18] [4,7,15]),(5,zK [0,2,4,7,8,17,18,21] [4,7,15]),(6,zK [0,2,4,7,8,17,18,21,22] [4,7,15]),(7,zK [0,2,4,7,8,9,17,18,21] [4,7,15]),(8,zK [0,2,4,7,8,17,18,21] [4,7,15]),(9,zK [0,2,4,7,8,17,18,21] [4,7,15]),(10,zK [0,2,4,7,17,18] [4,7,15]),(11,zK [0,2,4,7] [4,7,15]),(12,zK [0,2,4,7,10] [4,7,10,15]),(13,zK [0,2,4,7,10,39] [4,7,10,15]),(14,zK [0,2,4,7,10] [4,7,10,15]),(15,zK [0,2,4,7,10,43] [4,7,10,15]),(16,zK [0,2,4,7,10,11,43] [4,7,10,11,15]),(17,zK [0,2,4,7,10,11,12,43] [4,7,10,11,12,15]),(18,zK [0,2,4,7,10,11,12,43,67] [4,7,10,11,12,15]),(19,zK [0,2,4,7,10,43] [4,7,10,15]),(20,zK [0,2,4,7,89] [4,7,15]),(21,zK [0,2,4,7,10] [4,7,10,15]),(22,zK [6] [15])],
 [(3,zK [0,2,4,7,17,18] [4,7,15]),(6,zK [0,2,4,7,8,17,18,21] [4,7,15]),(13,zK [0,2,4,7,10] [4,7,10,15]),(16,zK [0,2,4,7,10,43] [4,7,10,15])],
 [(11,zK [0,2,4,7] [4,7,15])],
 [],[]⟩
def zgh (w:web) (node:Int) (uses:Int) (zb5:Int) (zgi:Nat) (zco:Nat→List PV):St:=⟨[(0,.one (.c (.p (.fp (zaC w) 0)))),(2,.one (.c (.p (.int .i64 uses)))),(4,.one (.c (.ptr 4 0))),(7,.one (.c (.ptr 7 0))),(17,.one (.c (.p (.int .i64 ((w64 (uses+(1:Int))).toNat:Int))))),(18,.one (.c (.p (.int .i64 zb5))))],[(4,.box 3 [.p (.int .i64 node)]),(7,.box 159 [.vec 15]),(15,.vec 116 80 640 zgi zco)],[]⟩
def zh5 (K:List PA→Prop) (w:web) (node:Int) (uses:Int) (zb5:Int) (zgi:Nat) (zco:Nat→List PV):Prop:=vc Tryd.prog zf1 zbi (cdF Tryd.f106 [1,1,0,1,0]) (zai 0 (sqK Tryd.prog zf1 zbi (cdF Tryd.f106 [1,1,1]) (zbo Tryd.prog Tryd.f106 K))) (zgh w node uses zb5 zgi zco)
def zht (w:web) (node:Int) (uses:Int) (iv1:Int) (zbW:Int) (zbR:Int) (zgj:Nat) (zcQ:Nat→List PV):St:=⟨[(0,.one (.c (.p (.fp (zaC w) 0)))),(2,.one (.c (.p (.int .i64 uses)))),(4,.one (.c (.ptr 4 0))),(7,.one (.c (.ptr 7 0))),(8,.one (.c (.p (.int .i64 iv1)))),(17,.one (.c (.p (.int .i64 ((w64 (uses+(1:Int))).toNat:Int))))),(18,.one (.c (.p (.int .i64 zbW)))),(21,.one (.c (.p (.int .i64 zbR))))],[(4,.box 3 [.p (.int .i64 node)]),(7,.box 159 [.vec 15]),(15,.vec 116 80 640 zgj zcQ)],[]⟩
def zh6 (K:List PA→Prop) (X0:St→Prop) (w:web) (node:Int) (uses:Int) (iv1:Int) (zbW:Int) (zbR:Int) (zgj:Nat) (zcQ:Nat→List PV):Prop:=vc Tryd.prog zf1 zbi (cdF Tryd.f106 [1,1,0,1,0,0,1,1,0,0,1,1,0]) (zai 2 (zai 1 (sqK Tryd.prog zf1 zbi (cdF Tryd.f106 [1,1,0,1,0,0,1,1,1]) (zbp Tryd.prog zbi 3 X0 (zai 0 (sqK Tryd.prog zf1 zbi (cdF Tryd.f106 [1,1,1]) (zbo Tryd.prog Tryd.f106 K))))))) (zht w node uses iv1 zbW zbR zgj zcQ)
def zE6 (w:web) (node:Int) (uses:Int) (zrK:Nat) (ziK:Nat→List PV):St:=⟨[(0,.one (.c (.p (.fp (zaC w) 0)))),(2,.one (.c (.p (.int .i64 uses)))),(4,.one (.c (.ptr 4 0))),(7,.one (.c (.ptr 7 0)))],[(4,.box 3 [.p (.int .i64 node)]),(7,.box 159 [.vec 15]),(15,.vec 116 80 640 zrK ziK)],[]⟩
def zj2 (K:List PA→Prop) (w:web) (node:Int) (uses:Int) (zrK:Nat) (ziK:Nat→List PV):Prop:=vc Tryd.prog zf1 zbi (cdF Tryd.f106 [1,1,1]) (zbo Tryd.prog Tryd.f106 K) (zE6 w node uses zrK ziK)
def zgk (w:web) (node:Int) (uses:Int) (kv3:Int) (zgl:Nat) (zcp:Nat→List PV):St:=⟨[(0,.one (.c (.p (.fp (zaC w) 0)))),(2,.one (.c (.p (.int .i64 uses)))),(4,.one (.c (.ptr 4 0))),(7,.one (.c (.ptr 7 0))),(10,.one (.c (.ptr 10 0)))],[(4,.box 3 [.p (.int .i64 node)]),(7,.box 159 [.vec 15]),(10,.box 3 [.p (.int .i64 kv3)]),(15,.vec 116 80 640 zgl zcp)],[]⟩
def zh7 (K:List PA→Prop) (w:web) (node:Int) (uses:Int) (kv3:Int) (zgl:Nat) (zcp:Nat→List PV):Prop:=vc Tryd.prog zf1 zbi (cdF Tryd.f106 [1,1,1,1,0,1,0]) (zai 4 (sqK Tryd.prog zf1 zbi (cdF Tryd.f106 [1,1,1,1,1]) (zbo Tryd.prog Tryd.f106 K))) (zgk w node uses kv3 zgl zcp)
def zdY (w:web) (node:Int) (uses:Int) (kv4:Int) (zgm:Nat) (zcR:Nat→List PV):St:=⟨[(0,.one (.c (.p (.fp (zaC w) 0)))),(2,.one (.c (.p (.int .i64 uses)))),(4,.one (.c (.ptr 4 0))),(7,.one (.c (.ptr 7 0))),(10,.one (.c (.ptr 10 0))),(43,.one (.c (.p (.fn 110 [] [.fp [.fp (zaC w) 0] 0]))))],[(4,.box 3 [.p (.int .i64 node)]),(7,.box 159 [.vec 15]),(10,.box 3 [.p (.int .i64 kv4)]),(15,.vec 116 80 640 zgm zcR)],[]⟩
def zh8 (K:List PA→Prop) (X3:St→Prop) (w:web) (node:Int) (uses:Int) (kv4:Int) (zgm:Nat) (zcR:Nat→List PV):Prop:=vc Tryd.prog zf1 zbi (cdF Tryd.f106 [1,1,1,1,0,1,0,0,1,0,0,1,0]) (zai 6 (zai 5 (sqK Tryd.prog zf1 zbi (cdF Tryd.f106 [1,1,1,1,0,1,0,0,1,1]) (zbp Tryd.prog zbi 13 X3 (zai 4 (sqK Tryd.prog zf1 zbi (cdF Tryd.f106 [1,1,1,1,1]) (zbo Tryd.prog Tryd.f106 K))))))) (zdY w node uses kv4 zgm zcR)
theorem zCo (w : web) (node : Int) (uses : Int) (K : List PA → Prop) :
  vcFun Tryd.prog zf1 zbi 106 [.one (.fp (zaC w) 0),.one (.int .i64 node),.one (.int .i64 uses)] K =
  (((0≤(w64 (uses+(1:Int)))∧(w64 (uses+(1:Int)))=(w64 (uses+(1:Int)))∧(w64 (uses+(1:Int)))≤1000000)) ∧
 (zh5 K w node uses (0:Int) ((w64 (uses+(1:Int))).toNat) (fun _=>(zac (fun _=>(0:Int)))))):=by kernel_rfl
def zm7 (K:List PA→Prop) (X0:St→Prop) (w:web) (node:Int) (uses:Int) (zb5:Int) (zb8:(Sl Tab)):Prop :=
  (zbV (decide (zb5 < ((w64 (uses + (1:Int))).toNat : Int)))
 (zh6 K X0 w node uses zb5 zb5 (0:Int) zb8.len (fun i=>zac (zb8.get i)))
 (zj2 K w node uses zb8.len (fun i=>zac (zb8.get i))))
theorem zp2 (K : List PA → Prop) (X0 : St → Prop) (w : web) (node : Int) (uses : Int) (zb5 : Int) (zb8 : (Sl Tab)) :
  vc Tryd.prog zf1 zbi (cd (cdF Tryd.f106 [1,1,0,1,0]) [0]) (zbp Tryd.prog zbi 3 X0 (zai 0 (sqK Tryd.prog zf1 zbi (cdF Tryd.f106 [1,1,1]) (zbo Tryd.prog Tryd.f106 K)))) (zgh w node uses zb5 zb8.len (fun i=>zac (zb8.get i))) =
  zm7 K X0 w node uses zb5 zb8:=by kernel_rfl
theorem zvK (K : List PA → Prop) (w : web) (node : Int) (uses : Int) (zb5 : Int) (zgi : Nat) (zco : Nat → List PV)
  (h:∀ X0:St→Prop,(∀ (zb5:Int) (zb8:(Sl Tab)),zm7 K X0 w node uses zb5 zb8→X0 (zgh w node uses zb5 zb8.len (fun i=>zac (zb8.get i))))→X0 (zgh w node uses zb5 zgi zco)) :
  zh5 K w node uses zb5 zgi zco:=by
  have e:zh5 K w node uses zb5 zgi zco=(∀ X:St→Prop,(∀ s,vc Tryd.prog zf1 zbi (cd (cdF Tryd.f106 [1,1,0,1,0]) [0]) (zbp Tryd.prog zbi 3 X (zai 0 (sqK Tryd.prog zf1 zbi (cdF Tryd.f106 [1,1,1]) (zbo Tryd.prog Tryd.f106 K)))) s→X s)→X (zgh w node uses zb5 zgi zco)):=by kernel_rfl
  refine zbd e ?_
  intro X hX
  refine h X ?_
  intro zb5 zb8 hs
  refine hX _ ?_
  have e2:=zp2 K X w node uses zb5 zb8
  rw [e2]
  exact hs
def zm8 (K:List PA→Prop) (X0:St→Prop) (X1:St→Prop) (w:web) (node:Int) (uses:Int) (iv1:Int) (zbW:Int) (zbR:Int) (zbI:(Sl Tab)):Prop :=
  (zbV (decide (zbR < (40:Int)))
 (((0≤iv1∧iv1 < (zbI.len:Int))) ∧
 (((0≤zbR∧zbR < (40:Int))) ∧
 (((iv1.toNat < zbI.len)) ∧
 (X1 (zht w node uses iv1 zbW (w64 (zbR+(1:Int))) zbI.len (zjR iv1.toNat 0 (fun i=>zac (zbI.get i)) (zac (ts 80 (zbI.get iv1.toNat) (0+zbR.toNat * 2+0) [(1000000000000:Int),(0:Int)]))))))))
 (X0 (zgh w node uses (w64 (zbW+(1:Int))) zbI.len (fun i=>zac (zbI.get i)))))
theorem zp3 (K : List PA → Prop) (X0 : St → Prop) (X1 : St → Prop) (w : web) (node : Int) (uses : Int) (iv1 : Int) (zbW : Int) (zbR : Int) (zbI : (Sl Tab)) :
  vc Tryd.prog zf1 zbi (cd (cdF Tryd.f106 [1,1,0,1,0,0,1,1,0,0,1,1,0]) [0]) (zbp Tryd.prog zbi 6 X1 (zai 2 (zai 1 (sqK Tryd.prog zf1 zbi (cdF Tryd.f106 [1,1,0,1,0,0,1,1,1]) (zbp Tryd.prog zbi 3 X0 (zai 0 (sqK Tryd.prog zf1 zbi (cdF Tryd.f106 [1,1,1]) (zbo Tryd.prog Tryd.f106 K)))))))) (zht w node uses iv1 zbW zbR zbI.len (fun i=>zac (zbI.get i))) =
  zm8 K X0 X1 w node uses iv1 zbW zbR zbI:=by kernel_rfl
theorem zvL (K : List PA → Prop) (X0 : St → Prop) (w : web) (node : Int) (uses : Int) (iv1 : Int) (zbW : Int) (zbR : Int) (zgj : Nat) (zcQ : Nat → List PV)
  (h:∀ X1:St→Prop,(∀ (iv1:Int) (zbW:Int) (zbR:Int) (zbI:(Sl Tab)),zm8 K X0 X1 w node uses iv1 zbW zbR zbI→X1 (zht w node uses iv1 zbW zbR zbI.len (fun i=>zac (zbI.get i))))→X1 (zht w node uses iv1 zbW zbR zgj zcQ)) :
  zh6 K X0 w node uses iv1 zbW zbR zgj zcQ:=by
  have e:zh6 K X0 w node uses iv1 zbW zbR zgj zcQ=(∀ X:St→Prop,(∀ s,vc Tryd.prog zf1 zbi (cd (cdF Tryd.f106 [1,1,0,1,0,0,1,1,0,0,1,1,0]) [0]) (zbp Tryd.prog zbi 6 X (zai 2 (zai 1 (sqK Tryd.prog zf1 zbi (cdF Tryd.f106 [1,1,0,1,0,0,1,1,1]) (zbp Tryd.prog zbi 3 X0 (zai 0 (sqK Tryd.prog zf1 zbi (cdF Tryd.f106 [1,1,1]) (zbo Tryd.prog Tryd.f106 K)))))))) s→X s)→X (zht w node uses iv1 zbW zbR zgj zcQ)):=by kernel_rfl
  refine zbd e ?_
  intro X hX
  refine h X ?_
  intro iv1 zbW zbR zbI hs
  refine hX _ ?_
  have e2:=zp3 K X0 X w node uses iv1 zbW zbR zbI
  rw [e2]
  exact hs
theorem zCp (K : List PA → Prop) (w : web) (node : Int) (uses : Int) (zdf : (Sl Tab)) :
  zj2 K w node uses zdf.len (fun i=>zac (zdf.get i)) =
  (((0≤(0:Int)∧(0:Int) < (zdf.len:Int))) ∧
 (((0≤node∧node < (40:Int))) ∧
 (((0 < zdf.len)) ∧
 (zh7 K w node uses (1:Int) zdf.len (zjR 0 0 (fun i=>zac (zdf.get i)) (zac (ts 80 (zdf.get 0) (0+node.toNat * 2+0) [(0:Int),(0:Int)]))))))):=by kernel_rfl
def zm9 (K:List PA→Prop) (X3:St→Prop) (w:web) (node:Int) (uses:Int) (kv3:Int) (zcc:(Sl Tab)):Prop :=
  (zbV (decide (kv3 ≤ uses))
 ((IsE zae 4 4 (fun i=>zae (w.Net.Ties.get i))∧((false,1,false,[none]):MQ)=(false,1,false,[none])) ∧
 (zh8 K X3 w node uses kv3 zcc.len (fun i=>zac (zcc.get i))))
 (K [.one (.sl zcc.len 80 (fun i=>zac (zcc.get i)))]))
theorem zp4 (K : List PA → Prop) (X3 : St → Prop) (w : web) (node : Int) (uses : Int) (kv3 : Int) (zcc : (Sl Tab)) :
  vc Tryd.prog zf1 zbi (cd (cdF Tryd.f106 [1,1,1,1,0,1,0]) [0]) (zbp Tryd.prog zbi 13 X3 (zai 4 (sqK Tryd.prog zf1 zbi (cdF Tryd.f106 [1,1,1,1,1]) (zbo Tryd.prog Tryd.f106 K)))) (zgk w node uses kv3 zcc.len (fun i=>zac (zcc.get i))) =
  zm9 K X3 w node uses kv3 zcc:=by kernel_rfl
theorem zvM (K : List PA → Prop) (w : web) (node : Int) (uses : Int) (kv3 : Int) (zgl : Nat) (zcp : Nat → List PV)
  (h:∀ X3:St→Prop,(∀ (kv3:Int) (zcc:(Sl Tab)),zm9 K X3 w node uses kv3 zcc→X3 (zgk w node uses kv3 zcc.len (fun i=>zac (zcc.get i))))→X3 (zgk w node uses kv3 zgl zcp)) :
  zh7 K w node uses kv3 zgl zcp:=by
  have e:zh7 K w node uses kv3 zgl zcp=(∀ X:St→Prop,(∀ s,vc Tryd.prog zf1 zbi (cd (cdF Tryd.f106 [1,1,1,1,0,1,0]) [0]) (zbp Tryd.prog zbi 13 X (zai 4 (sqK Tryd.prog zf1 zbi (cdF Tryd.f106 [1,1,1,1,1]) (zbo Tryd.prog Tryd.f106 K)))) s→X s)→X (zgk w node uses kv3 zgl zcp)):=by kernel_rfl
  refine zbd e ?_
  intro X hX
  refine h X ?_
  intro kv3 zcc hs
  refine hX _ ?_
  have e2:=zp4 K X w node uses kv3 zcc
  rw [e2]
  exact hs
def zna (K:List PA→Prop) (X3:St→Prop) (w:web) (node:Int) (uses:Int) (kv4:Int) (zaA:(Sl Tab)):Prop :=
  (X3 (zgk w node uses (w64 (kv4+(1:Int))) zaA.len (fun i=>zac (zaA.get i))))
def znb (K:List PA→Prop) (X3:St→Prop) (X4:List (List PA)→St→Prop) (y4:step) (rest4:List (List PA)) (w:web) (node:Int) (uses:Int) (kv4:Int) (zaA:(Sl Tab)):Prop :=
  (((0≤(w64 (kv4 - (1:Int)))∧(w64 (kv4 - (1:Int))) < (zaA.len:Int))) ∧
 (((0≤y4.to∧y4.to < (40:Int))) ∧
 ((((w64 (kv4 - (1:Int))).toNat < zaA.len)) ∧
 (zbV (decide (y4.from_ ≥ node))
 (zbV (decide (y4.to ≥ node))
 (zbV (!(nvr (tg 80 (zaA.get ((w64 (kv4 - (1:Int))).toNat)) (0 + y4.to.toNat * 2 + 0)) (tg 80 (zaA.get ((w64 (kv4 - (1:Int))).toNat)) (0 + y4.to.toNat * 2 + 0 + 1))))
 (((0≤kv4∧kv4 < (zaA.len:Int))) ∧
 (((0≤y4.from_∧y4.from_ < (40:Int))) ∧
 (((kv4.toNat < zaA.len)) ∧
 ((IsE zcI 2 2 (fun _=>(zcI (⟨(w64 ((tg 80 (zaA.get ((w64 (kv4 - (1:Int))).toNat)) (0+y4.to.toNat * 2+0))+y4.length)),(0:Int)⟩:far)))∧(zDu (⟨(tL (zaA.get kv4.toNat) y4.from_),(tU (zaA.get kv4.toNat) y4.from_)⟩:far) (⟨1,fun _=>(⟨(w64 ((tg 80 (zaA.get ((w64 (kv4 - (1:Int))).toNat)) (0+y4.to.toNat * 2+0))+y4.length)),(0:Int)⟩:far)⟩:(Sl far))=true)) ∧
 (((0≤kv4∧kv4 < (zaA.len:Int))) ∧
 (((0≤y4.from_∧y4.from_ < (40:Int))) ∧
 (((kv4.toNat < zaA.len)) ∧
 (X4 rest4 (zdY w node uses kv4 zaA.len (zjR kv4.toNat 0 (fun i=>zac (zaA.get i)) (zac (ts 80 (zaA.get kv4.toNat) (0+y4.from_.toNat * 2+0) [(zdb (⟨(tL (zaA.get kv4.toNat) y4.from_),(tU (zaA.get kv4.toNat) y4.from_)⟩:far) (⟨1,fun _=>(⟨(w64 ((tg 80 (zaA.get ((w64 (kv4 - (1:Int))).toNat)) (0+y4.to.toNat * 2+0))+y4.length)),(0:Int)⟩:far)⟩:(Sl far))).length,(zdb (⟨(tL (zaA.get kv4.toNat) y4.from_),(tU (zaA.get kv4.toNat) y4.from_)⟩:far) (⟨1,fun _=>(⟨(w64 ((tg 80 (zaA.get ((w64 (kv4 - (1:Int))).toNat)) (0+y4.to.toNat * 2+0))+y4.length)),(0:Int)⟩:far)⟩:(Sl far))).uses]))))))))))))
 (X4 rest4 (zdY w node uses kv4 zaA.len (fun i=>zac (zaA.get i)))))
 (X4 rest4 (zdY w node uses kv4 zaA.len (fun i=>zac (zaA.get i)))))
 (X4 rest4 (zdY w node uses kv4 zaA.len (fun i=>zac (zaA.get i))))))))
theorem zp5 (K:List PA→Prop) (X3:St→Prop) (w:web) (node:Int) (uses:Int) (kv4:Int) (zaA:(Sl Tab)):(zai 6 (zai 5 (sqK Tryd.prog zf1 zbi (cdF Tryd.f106 [1,1,1,1,0,1,0,0,1,1]) (zbp Tryd.prog zbi 13 X3 (zai 4 (sqK Tryd.prog zf1 zbi (cdF Tryd.f106 [1,1,1,1,1]) (zbo Tryd.prog Tryd.f106 K))))))) .normal (zdY w node uses kv4 zaA.len (fun i=>zac (zaA.get i)))=zna K X3 w node uses kv4 zaA:=by kernel_rfl
theorem zp6 (K : List PA → Prop) (X3 : St → Prop) (X4 : List (List PA) → St → Prop) (y4 : step) (rest4 : List (List PA)) (w : web) (node : Int) (uses : Int) (kv4 : Int) (zaA : (Sl Tab)) :
  zv1 Tryd.prog zf1 zbi 16 [44] (cd (cdF Tryd.f106 [1,1,1,1,0,1,0,0,1,0,0,1,0]) [0]) (cd (cdF Tryd.f106 [1,1,1,1,0,1,0,0,1,0,0,1,0]) [1]) X4 (zai 6 (zai 5 (sqK Tryd.prog zf1 zbi (cdF Tryd.f106 [1,1,1,1,0,1,0,0,1,1]) (zbp Tryd.prog zbi 13 X3 (zai 4 (sqK Tryd.prog zf1 zbi (cdF Tryd.f106 [1,1,1,1,1]) (zbo Tryd.prog Tryd.f106 K))))))) [.agg (zad y4)] rest4 (zdY w node uses kv4 zaA.len (fun i=>zac (zaA.get i)))=znb K X3 X4 y4 rest4 w node uses kv4 zaA:=by kernel_rfl
theorem zvN (K : List PA → Prop) (X3 : St → Prop) (w : web) (node : Int) (uses : Int) (kv4 : Int) (zgm : Nat) (zcR : Nat → List PV)
  (hsafe:IsE zae 4 4 (fun i=>zae (w.Net.Ties.get i))∧((false,1,false,[none]):MQ)=(false,1,false,[none])∧(zmy w=true)) (h:∀ X4:List (List PA)→St→Prop,(∀ (kv4:Int) (zaA:(Sl Tab)),zna K X3 w node uses kv4 zaA→X4 [] (zdY w node uses kv4 zaA.len (fun i=>zac (zaA.get i))))→(∀ (y:step) (rest:List (List PA)) (kv4:Int) (zaA:(Sl Tab)),znb K X3 X4 y rest w node uses kv4 zaA→X4 ([.agg (zad y)] :: rest) (zdY w node uses kv4 zaA.len (fun i=>zac (zaA.get i))))→X4 ((ziJ w).map fun y=>[.agg (zad y)]) (zdY w node uses kv4 zgm zcR)) :
  zh8 K X3 w node uses kv4 zgm zcR:=by
  have e:zh8 K X3 w node uses kv4 zgm zcR=((IsE zae 4 4 (fun i=>zae (w.Net.Ties.get i))∧((false,1,false,[none]):MQ)=(false,1,false,[none])∧(zmy w=true))∧∀ X:List (List PA)→St→Prop,(∀ s,(zai 6 (zai 5 (sqK Tryd.prog zf1 zbi (cdF Tryd.f106 [1,1,1,1,0,1,0,0,1,1]) (zbp Tryd.prog zbi 13 X3 (zai 4 (sqK Tryd.prog zf1 zbi (cdF Tryd.f106 [1,1,1,1,1]) (zbo Tryd.prog Tryd.f106 K))))))) .normal s→X [] s)→(∀ y rest s,zv1 Tryd.prog zf1 zbi 16 [44] (cd (cdF Tryd.f106 [1,1,1,1,0,1,0,0,1,0,0,1,0]) [0]) (cd (cdF Tryd.f106 [1,1,1,1,0,1,0,0,1,0,0,1,0]) [1]) X (zai 6 (zai 5 (sqK Tryd.prog zf1 zbi (cdF Tryd.f106 [1,1,1,1,0,1,0,0,1,1]) (zbp Tryd.prog zbi 13 X3 (zai 4 (sqK Tryd.prog zf1 zbi (cdF Tryd.f106 [1,1,1,1,1]) (zbo Tryd.prog Tryd.f106 K))))))) y rest s→X (y :: rest) s)→X ((ziJ w).map fun y=>[.agg (zad y)]) (zdY w node uses kv4 zgm zcR)):=by kernel_rfl
  refine zbd e ⟨hsafe,?_⟩
  intro X h0 h1
  refine h X (fun kv4 zaA hs=>h0 _ ?_) (fun y rest kv4 zaA hs=>h1 _ rest _ ?_)
  · rw [zp5 K X3 w node uses kv4 zaA];exact hs
  · have e2 := zp6 K X3 X y rest w node uses kv4 zaA
    rw [e2];exact hs
abbrev zle (r:(Sl Tab)):List PA:=[.one (.sl r.len 80 (fun i=>zac (r.get i)))]
attribute [irreducible] zh5 zh6 zj2 zh7 zh8
def zn8 (S3:Int→(Sl Tab)→(Sl Tab)) (w:web) (node:Int) (uses:Int) (kv4:Int) (zaA:(Sl Tab)):(Sl Tab) :=
  (S3 (w64 (kv4+(1:Int))) zaA)
def zn9 (P3:Int→(Sl Tab)→Bool) (w:web) (node:Int) (uses:Int) (kv4:Int) (zaA:(Sl Tab)):Bool :=
  (P3 (w64 (kv4+(1:Int))) zaA)
def zoa (S3:Int→(Sl Tab)→(Sl Tab)) (w:web) (node:Int) (uses:Int) (y4:step) (S4:Int→(Sl Tab)→(Sl Tab)) (kv4:Int) (zaA:(Sl Tab)):(Sl Tab) :=
  (cond (decide (y4.from_ ≥ node))
 (cond (decide (y4.to ≥ node))
 (cond (!(nvr (tg 80 (zaA.get ((w64 (kv4 - (1:Int))).toNat)) (0 + y4.to.toNat * 2 + 0)) (tg 80 (zaA.get ((w64 (kv4 - (1:Int))).toNat)) (0 + y4.to.toNat * 2 + 0 + 1))))
 (S4 kv4 (⟨zaA.len,(setT kv4.toNat (ts 80 (zaA.get kv4.toNat) (0+y4.from_.toNat * 2+0) [(zdb (⟨(tL (zaA.get kv4.toNat) y4.from_),(tU (zaA.get kv4.toNat) y4.from_)⟩:far) (⟨1,fun _=>(⟨(w64 ((tg 80 (zaA.get ((w64 (kv4 - (1:Int))).toNat)) (0+y4.to.toNat * 2+0))+y4.length)),(0:Int)⟩:far)⟩:(Sl far))).length,(zdb (⟨(tL (zaA.get kv4.toNat) y4.from_),(tU (zaA.get kv4.toNat) y4.from_)⟩:far) (⟨1,fun _=>(⟨(w64 ((tg 80 (zaA.get ((w64 (kv4 - (1:Int))).toNat)) (0+y4.to.toNat * 2+0))+y4.length)),(0:Int)⟩:far)⟩:(Sl far))).uses]) zaA.get)⟩:Sl Tab))
 (S4 kv4 zaA))
 (S4 kv4 zaA))
 (S4 kv4 zaA))
def zob (P3:Int→(Sl Tab)→Bool) (w:web) (node:Int) (uses:Int) (y4:step) (P4:Int→(Sl Tab)→Bool) (kv4:Int) (zaA:(Sl Tab)):Bool :=
  (decide ((0≤(w64 (kv4 - (1:Int)))∧(w64 (kv4 - (1:Int))) < (zaA.len:Int))) &&
 (decide ((0≤y4.to∧y4.to < (40:Int))) &&
 (decide (((w64 (kv4 - (1:Int))).toNat < zaA.len)) &&
 (cond (decide (y4.from_ ≥ node))
 (cond (decide (y4.to ≥ node))
 (cond (!(nvr (tg 80 (zaA.get ((w64 (kv4 - (1:Int))).toNat)) (0 + y4.to.toNat * 2 + 0)) (tg 80 (zaA.get ((w64 (kv4 - (1:Int))).toNat)) (0 + y4.to.toNat * 2 + 0 + 1))))
 (decide ((0≤kv4∧kv4 < (zaA.len:Int))) &&
 (decide ((0≤y4.from_∧y4.from_ < (40:Int))) &&
 (decide ((kv4.toNat < zaA.len)) &&
 (decide ((zDu (⟨(tL (zaA.get kv4.toNat) y4.from_),(tU (zaA.get kv4.toNat) y4.from_)⟩:far) (⟨1,fun _=>(⟨(w64 ((tg 80 (zaA.get ((w64 (kv4 - (1:Int))).toNat)) (0+y4.to.toNat * 2+0))+y4.length)),(0:Int)⟩:far)⟩:(Sl far))=true)) &&
 (decide ((0≤kv4∧kv4 < (zaA.len:Int))) &&
 (decide ((0≤y4.from_∧y4.from_ < (40:Int))) &&
 (decide ((kv4.toNat < zaA.len)) &&
 (P4 kv4 (⟨zaA.len,(setT kv4.toNat (ts 80 (zaA.get kv4.toNat) (0+y4.from_.toNat * 2+0) [(zdb (⟨(tL (zaA.get kv4.toNat) y4.from_),(tU (zaA.get kv4.toNat) y4.from_)⟩:far) (⟨1,fun _=>(⟨(w64 ((tg 80 (zaA.get ((w64 (kv4 - (1:Int))).toNat)) (0+y4.to.toNat * 2+0))+y4.length)),(0:Int)⟩:far)⟩:(Sl far))).length,(zdb (⟨(tL (zaA.get kv4.toNat) y4.from_),(tU (zaA.get kv4.toNat) y4.from_)⟩:far) (⟨1,fun _=>(⟨(w64 ((tg 80 (zaA.get ((w64 (kv4 - (1:Int))).toNat)) (0+y4.to.toNat * 2+0))+y4.length)),(0:Int)⟩:far)⟩:(Sl far))).uses]) zaA.get)⟩:Sl Tab)))))))))
 (P4 kv4 zaA))
 (P4 kv4 zaA))
 (P4 kv4 zaA)))))
def zh9 (S3 : Int → (Sl Tab) → (Sl Tab)) (w : web) (node : Int) (uses : Int) : List step → Int → (Sl Tab) → (Sl Tab)
  | []=>zn8 S3 w node uses
  | y :: r=>zoa S3 w node uses y (zh9 S3 w node uses r)
def zia (P3 : Int → (Sl Tab) → Bool) (w : web) (node : Int) (uses : Int) : List step → Int → (Sl Tab) → Bool
  | []=>zn9 P3 w node uses
  | y :: r=>zob P3 w node uses y (zia P3 w node uses r)
def zuv (S3:Int→(Sl Tab)→(Sl Tab)) (w:web) (node:Int) (uses:Int) (kv4:Int) (zaA:(Sl Tab)):(Sl Tab):=zh9 S3 w node uses (ziJ w) kv4 zaA
def zoc (P3:Int→(Sl Tab)→Bool) (w:web) (node:Int) (uses:Int) (kv4:Int) (zaA:(Sl Tab)):Bool:=decide ((zmy w=true)) && zia P3 w node uses (ziJ w) kv4 zaA
theorem zCq (K : List PA → Prop) (w : web) (node : Int) (uses : Int)
  (X3:St→Prop) (P3:Int→(Sl Tab)→Bool) (S3:Int→(Sl Tab)→(Sl Tab))
  (hX3:∀ (kv3:Int) (zcc:(Sl Tab)) (zcp:Nat→List PV) (ziL:zcp=fun i=>zac (zcc.get i)),P3 kv3 zcc=true→K (zle (S3 kv3 zcc))→X3 (zgk w node uses kv3 zcc.len zcp)) (kv4:Int) (zaA:(Sl Tab)) (zcR:Nat→List PV) (ziM:zcR=fun i=>zac (zaA.get i)) (hs:zoc P3 w node uses kv4 zaA=true) (hk:K (zle (zuv S3 w node uses kv4 zaA))):zh8 K X3 w node uses kv4 zaA.len zcR:=by
  unfold zoc at hs
  rw [Bool.and_eq_true] at hs
  obtain ⟨hsf,hs⟩:=hs
  have hc:=of_decide_eq_true hsf
  refine zvN K X3 w node uses kv4 zaA.len zcR ⟨isE,rfl,hc⟩ ?_
  intro X4 hexit hstep
  have key:∀ (l:List step) (kv4:Int) (zaA:(Sl Tab)) (zcR:Nat→List PV) (ziM:zcR=fun i=>zac (zaA.get i)),zia P3 w node uses l kv4 zaA=true→K (zle (zh9 S3 w node uses l kv4 zaA))→X4 (l.map fun y=>[.agg (zad y)]) (zdY w node uses kv4 zaA.len zcR):=by
    intro l
    induction l with
    | nil =>
      intro kv4 zaA zcR ziM hs hk
      subst ziM
      refine hexit kv4 zaA ?_
      have hs:zn9 P3 w node uses kv4 zaA=true:=hs
      have hk:K (zle (zn8 S3 w node uses kv4 zaA)):=hk
      unfold zn9 at hs
      unfold zn8 at hk
      exact (hX3 (w64 (kv4+(1:Int))) zaA (fun i=>zac (zaA.get i)) rfl hs hk)
    | cons y4 l ih =>
      intro kv4 zaA zcR ziM hs hk
      subst ziM
      refine hstep y4 _ kv4 zaA ?_
      have hs:zob P3 w node uses y4 (zia P3 w node uses l) kv4 zaA=true:=hs
      have hk:K (zle (zoa S3 w node uses y4 (zh9 S3 w node uses l) kv4 zaA)):=hk
      unfold zob at hs
      unfold zoa at hk
      generalize zh9 S3 w node uses l=S4 at hk ih
      generalize zia P3 w node uses l=P4 at hs ih
      have hX4:=ih
      exact (za6 hs fun hc hs => ⟨hc, (za6 hs fun hc hs => ⟨hc, (za6 hs fun hc hs => ⟨hc, (za2 (K := fun r => K (zle r))
 (fun hs hk => (za2 (K := fun r => K (zle r))
 (fun hs hk => (za2 (K := fun r => K (zle r))
 (fun hs hk=>(za6 hs fun hc hs=>⟨hc,(za6 hs fun hc hs=>⟨hc,(za6 hs fun hc hs=>⟨hc,(za6 hs fun hc hs=>⟨⟨zxz,hc⟩,(za6 hs fun hc hs=>⟨hc,(za6 hs fun hc hs=>⟨hc,(za6 hs fun hc hs=>⟨hc,(hX4 kv4 (⟨zaA.len,(setT kv4.toNat (ts 80 (zaA.get kv4.toNat) (0+y4.from_.toNat * 2+0) [(zdb (⟨(tL (zaA.get kv4.toNat) y4.from_),(tU (zaA.get kv4.toNat) y4.from_)⟩:far) (⟨1,fun _=>(⟨(w64 ((tg 80 (zaA.get ((w64 (kv4 - (1:Int))).toNat)) (0+y4.to.toNat * 2+0))+y4.length)),(0:Int)⟩:far)⟩:(Sl far))).length,(zdb (⟨(tL (zaA.get kv4.toNat) y4.from_),(tU (zaA.get kv4.toNat) y4.from_)⟩:far) (⟨1,fun _=>(⟨(w64 ((tg 80 (zaA.get ((w64 (kv4 - (1:Int))).toNat)) (0+y4.to.toNat * 2+0))+y4.length)),(0:Int)⟩:far)⟩:(Sl far))).uses]) zaA.get)⟩:Sl Tab) (zjR kv4.toNat 0 (fun i=>zac (zaA.get i)) (zac (ts 80 (zaA.get kv4.toNat) (0+y4.from_.toNat * 2+0) [(zdb (⟨(tL (zaA.get kv4.toNat) y4.from_),(tU (zaA.get kv4.toNat) y4.from_)⟩:far) (⟨1,fun _=>(⟨(w64 ((tg 80 (zaA.get ((w64 (kv4 - (1:Int))).toNat)) (0+y4.to.toNat * 2+0))+y4.length)),(0:Int)⟩:far)⟩:(Sl far))).length,(zdb (⟨(tL (zaA.get kv4.toNat) y4.from_),(tU (zaA.get kv4.toNat) y4.from_)⟩:far) (⟨1,fun _=>(⟨(w64 ((tg 80 (zaA.get ((w64 (kv4 - (1:Int))).toNat)) (0+y4.to.toNat * 2+0))+y4.length)),(0:Int)⟩:far)⟩:(Sl far))).uses]))) (zm5 (enc:=zac) (i:=kv4.toNat) (k:=0) (f:=zaA.get) (new:=(zac (ts 80 (zaA.get kv4.toNat) (0+y4.from_.toNat * 2+0) [(zdb (⟨(tL (zaA.get kv4.toNat) y4.from_),(tU (zaA.get kv4.toNat) y4.from_)⟩:far) (⟨1,fun _=>(⟨(w64 ((tg 80 (zaA.get ((w64 (kv4 - (1:Int))).toNat)) (0+y4.to.toNat * 2+0))+y4.length)),(0:Int)⟩:far)⟩:(Sl far))).length,(zdb (⟨(tL (zaA.get kv4.toNat) y4.from_),(tU (zaA.get kv4.toNat) y4.from_)⟩:far) (⟨1,fun _=>(⟨(w64 ((tg 80 (zaA.get ((w64 (kv4 - (1:Int))).toNat)) (0+y4.to.toNat * 2+0))+y4.length)),(0:Int)⟩:far)⟩:(Sl far))).uses]))) (v:=(ts 80 (zaA.get kv4.toNat) (0+y4.from_.toNat * 2+0) [(zdb (⟨(tL (zaA.get kv4.toNat) y4.from_),(tU (zaA.get kv4.toNat) y4.from_)⟩:far) (⟨1,fun _=>(⟨(w64 ((tg 80 (zaA.get ((w64 (kv4 - (1:Int))).toNat)) (0+y4.to.toNat * 2+0))+y4.length)),(0:Int)⟩:far)⟩:(Sl far))).length,(zdb (⟨(tL (zaA.get kv4.toNat) y4.from_),(tU (zaA.get kv4.toNat) y4.from_)⟩:far) (⟨1,fun _=>(⟨(w64 ((tg 80 (zaA.get ((w64 (kv4 - (1:Int))).toNat)) (0+y4.to.toNat * 2+0))+y4.length)),(0:Int)⟩:far)⟩:(Sl far))).uses])) rfl zn1) hs hk)⟩)⟩)⟩)⟩)⟩)⟩)⟩))
 (fun hs hk=>(hX4 kv4 zaA (fun i=>zac (zaA.get i)) rfl hs hk)) hs hk))
 (fun hs hk=>(hX4 kv4 zaA (fun i=>zac (zaA.get i)) rfl hs hk)) hs hk))
 (fun hs hk=>(hX4 kv4 zaA (fun i=>zac (zaA.get i)) rfl hs hk)) hs hk)⟩)⟩)⟩)
  exact key _ kv4 zaA zcR ziM hs hk
def zod (w:web) (node:Int) (uses:Int) (S3:Int→(Sl Tab)→(Sl Tab)) (kv3:Int) (zcc:(Sl Tab)):(Sl Tab) :=
  (cond (decide (kv3 ≤ uses))
 (zuv S3 w node uses kv3 zcc)
 zcc)
def zoe (w:web) (node:Int) (uses:Int) (P3:Int→(Sl Tab)→Bool) (kv3:Int) (zcc:(Sl Tab)):Bool :=
  (cond (decide (kv3 ≤ uses))
 (zoc P3 w node uses kv3 zcc)
 true)
def zib (w : web) (node : Int) (uses : Int) : Nat → Int → (Sl Tab) → (Sl Tab)
  | 0=>fun _ _=>default
  | k+1=>zod w node uses (zib w node uses k)
def zic (w : web) (node : Int) (uses : Int) : Nat → Int → (Sl Tab) → Bool
  | 0=>fun _ _=>false
  | k+1=>zoe w node uses (zic w node uses k)
def zuw (w:web) (node:Int) (uses:Int) (kv3:Int) (zcc:(Sl Tab)):(Sl Tab):=zib w node uses Fuel kv3 zcc
def zux (w:web) (node:Int) (uses:Int) (kv3:Int) (zcc:(Sl Tab)):Bool:=zic w node uses Fuel kv3 zcc
theorem zCr (K:List PA→Prop) (w:web) (node:Int) (uses:Int) (kv3:Int) (zcc:(Sl Tab)) (zcp:Nat→List PV) (ziL:zcp=fun i=>zac (zcc.get i)) (hs:zux w node uses kv3 zcc=true) (hk:K (zle (zuw w node uses kv3 zcc))):zh7 K w node uses kv3 zcc.len zcp:=by
  refine zvM K w node uses kv3 zcc.len zcp ?_
  intro X3 hstep
  have key:∀ (k:Nat) (kv3:Int) (zcc:(Sl Tab)) (zcp:Nat→List PV) (ziL:zcp=fun i=>zac (zcc.get i)),zic w node uses k kv3 zcc=true→K (zle (zib w node uses k kv3 zcc))→X3 (zgk w node uses kv3 zcc.len zcp):=by
    intro k
    induction k with
    | zero=>intro kv3 zcc zcp ziL hs;exact absurd hs Bool.false_ne_true
    | succ k ih =>
      intro kv3 zcc zcp ziL hs hk
      subst ziL
      refine hstep kv3 zcc ?_
      have hs:zoe w node uses (zic w node uses k) kv3 zcc=true:=hs
      have hk:K (zle (zod w node uses (zib w node uses k) kv3 zcc)):=hk
      unfold zoe at hs
      unfold zod at hk
      generalize zib w node uses k=S3 at hk ih
      generalize zic w node uses k=P3 at hs ih
      have hX3:=ih
      exact (za2 (K := fun r => K (zle r))
 (fun hs hk=>⟨⟨isE,rfl⟩,(zCq K w node uses X3 P3 S3 hX3 kv3 zcc (fun i=>zac (zcc.get i)) rfl hs hk)⟩)
 (fun hs hk=>hk) hs hk)
  exact key _ kv3 zcc zcp ziL hs hk
def zof (w:web) (node:Int) (uses:Int) (zdf:(Sl Tab)):(Sl Tab) :=
  (zuw w node uses (1:Int) (⟨zdf.len,(setT 0 (ts 80 (zdf.get 0) (0+node.toNat * 2+0) [(0:Int),(0:Int)]) zdf.get)⟩:Sl Tab))
def zog (w:web) (node:Int) (uses:Int) (zdf:(Sl Tab)):Bool :=
  (decide ((0≤(0:Int)∧(0:Int) < (zdf.len:Int))) &&
 (decide ((0≤node∧node < (40:Int))) &&
 (decide ((0 < zdf.len)) &&
 (zux w node uses (1:Int) (⟨zdf.len,(setT 0 (ts 80 (zdf.get 0) (0+node.toNat * 2+0) [(0:Int),(0:Int)]) zdf.get)⟩:Sl Tab)))))
theorem zCs (K:List PA→Prop) (w:web) (node:Int) (uses:Int) (zdf:(Sl Tab)) (ziK:Nat→List PV) (zE7:ziK=fun i=>zac (zdf.get i)) (hs:zog w node uses zdf=true) (hk:K (zle (zof w node uses zdf))):zj2 K w node uses zdf.len ziK:=by
  subst zE7
  refine zbd (zCp K w node uses zdf) ?_
  unfold zog at hs
  unfold zof at hk
  exact (za6 hs fun hc hs=>⟨hc,(za6 hs fun hc hs=>⟨hc,(za6 hs fun hc hs=>⟨hc,(zCr K w node uses (1:Int) (⟨zdf.len,(setT 0 (ts 80 (zdf.get 0) (0+node.toNat * 2+0) [(0:Int),(0:Int)]) zdf.get)⟩:Sl Tab) (zjR 0 0 (fun i=>zac (zdf.get i)) (zac (ts 80 (zdf.get 0) (0+node.toNat * 2+0) [(0:Int),(0:Int)]))) (zm5 (enc:=zac) (i:=0) (k:=0) (f:=zdf.get) (new:=(zac (ts 80 (zdf.get 0) (0+node.toNat * 2+0) [(0:Int),(0:Int)]))) (v:=(ts 80 (zdf.get 0) (0+node.toNat * 2+0) [(0:Int),(0:Int)])) rfl zn1) hs hk)⟩)⟩)⟩)
def zoh (S0:Int→(Sl Tab)→(Sl Tab)) (w:web) (node:Int) (uses:Int) (S1:Int→Int→Int→(Sl Tab)→(Sl Tab)) (iv1:Int) (zbW:Int) (zbR:Int) (zbI:(Sl Tab)):(Sl Tab) :=
  (cond (decide (zbR < (40:Int)))
 (S1 iv1 zbW (w64 (zbR+(1:Int))) (⟨zbI.len,(setT iv1.toNat (ts 80 (zbI.get iv1.toNat) (0+zbR.toNat * 2+0) [(1000000000000:Int),(0:Int)]) zbI.get)⟩:Sl Tab))
 (S0 (w64 (zbW+(1:Int))) zbI))
def zoi (P0:Int→(Sl Tab)→Bool) (w:web) (node:Int) (uses:Int) (P1:Int→Int→Int→(Sl Tab)→Bool) (iv1:Int) (zbW:Int) (zbR:Int) (zbI:(Sl Tab)):Bool :=
  (cond (decide (zbR < (40:Int)))
 (decide ((0≤iv1∧iv1 < (zbI.len:Int))) &&
 (decide ((0≤zbR∧zbR < (40:Int))) &&
 (decide ((iv1.toNat < zbI.len)) &&
 (P1 iv1 zbW (w64 (zbR+(1:Int))) (⟨zbI.len,(setT iv1.toNat (ts 80 (zbI.get iv1.toNat) (0+zbR.toNat * 2+0) [(1000000000000:Int),(0:Int)]) zbI.get)⟩:Sl Tab)))))
 (P0 (w64 (zbW+(1:Int))) zbI))
def zid (S0 : Int → (Sl Tab) → (Sl Tab)) (w : web) (node : Int) (uses : Int) : Nat → Int → Int → Int → (Sl Tab) → (Sl Tab)
  | 0=>fun _ _ _ _=>default
  | k+1=>zoh S0 w node uses (zid S0 w node uses k)
def zie (P0 : Int → (Sl Tab) → Bool) (w : web) (node : Int) (uses : Int) : Nat → Int → Int → Int → (Sl Tab) → Bool
  | 0=>fun _ _ _ _=>false
  | k+1=>zoi P0 w node uses (zie P0 w node uses k)
def zuy (S0:Int→(Sl Tab)→(Sl Tab)) (w:web) (node:Int) (uses:Int) (iv1:Int) (zbW:Int) (zbR:Int) (zbI:(Sl Tab)):(Sl Tab):=zid S0 w node uses Fuel iv1 zbW zbR zbI
def zuz (P0:Int→(Sl Tab)→Bool) (w:web) (node:Int) (uses:Int) (iv1:Int) (zbW:Int) (zbR:Int) (zbI:(Sl Tab)):Bool:=zie P0 w node uses Fuel iv1 zbW zbR zbI
theorem zCt (K : List PA → Prop) (w : web) (node : Int) (uses : Int)
  (X0:St→Prop) (P0:Int→(Sl Tab)→Bool) (S0:Int→(Sl Tab)→(Sl Tab))
  (hX0:∀ (zb5:Int) (zb8:(Sl Tab)) (zco:Nat→List PV) (ziN:zco=fun i=>zac (zb8.get i)),P0 zb5 zb8=true→K (zle (S0 zb5 zb8))→X0 (zgh w node uses zb5 zb8.len zco)) (iv1:Int) (zbW:Int) (zbR:Int) (zbI:(Sl Tab)) (zcQ:Nat→List PV) (zlf:zcQ=fun i=>zac (zbI.get i)) (hs:zuz P0 w node uses iv1 zbW zbR zbI=true) (hk:K (zle (zuy S0 w node uses iv1 zbW zbR zbI))):zh6 K X0 w node uses iv1 zbW zbR zbI.len zcQ:=by
  refine zvL K X0 w node uses iv1 zbW zbR zbI.len zcQ ?_
  intro X1 hstep
  have key:∀ (k:Nat) (iv1:Int) (zbW:Int) (zbR:Int) (zbI:(Sl Tab)) (zcQ:Nat→List PV) (zlf:zcQ=fun i=>zac (zbI.get i)),zie P0 w node uses k iv1 zbW zbR zbI=true→K (zle (zid S0 w node uses k iv1 zbW zbR zbI))→X1 (zht w node uses iv1 zbW zbR zbI.len zcQ):=by
    intro k
    induction k with
    | zero=>intro iv1 zbW zbR zbI zcQ zlf hs;exact absurd hs Bool.false_ne_true
    | succ k ih =>
      intro iv1 zbW zbR zbI zcQ zlf hs hk
      subst zlf
      refine hstep iv1 zbW zbR zbI ?_
      have hs:zoi P0 w node uses (zie P0 w node uses k) iv1 zbW zbR zbI=true:=hs
      have hk:K (zle (zoh S0 w node uses (zid S0 w node uses k) iv1 zbW zbR zbI)):=hk
      unfold zoi at hs
      unfold zoh at hk
      generalize zid S0 w node uses k=S1 at hk ih
      generalize zie P0 w node uses k=P1 at hs ih
      have hX1:=ih
      exact (za2 (K := fun r => K (zle r))
 (fun hs hk=>(za6 hs fun hc hs=>⟨hc,(za6 hs fun hc hs=>⟨hc,(za6 hs fun hc hs=>⟨hc,(hX1 iv1 zbW (w64 (zbR+(1:Int))) (⟨zbI.len,(setT iv1.toNat (ts 80 (zbI.get iv1.toNat) (0+zbR.toNat * 2+0) [(1000000000000:Int),(0:Int)]) zbI.get)⟩:Sl Tab) (zjR iv1.toNat 0 (fun i=>zac (zbI.get i)) (zac (ts 80 (zbI.get iv1.toNat) (0+zbR.toNat * 2+0) [(1000000000000:Int),(0:Int)]))) (zm5 (enc:=zac) (i:=iv1.toNat) (k:=0) (f:=zbI.get) (new:=(zac (ts 80 (zbI.get iv1.toNat) (0+zbR.toNat * 2+0) [(1000000000000:Int),(0:Int)]))) (v:=(ts 80 (zbI.get iv1.toNat) (0+zbR.toNat * 2+0) [(1000000000000:Int),(0:Int)])) rfl zn1) hs hk)⟩)⟩)⟩))
 (fun hs hk=>(hX0 (w64 (zbW+(1:Int))) zbI (fun i=>zac (zbI.get i)) rfl hs hk)) hs hk)
  exact key _ iv1 zbW zbR zbI zcQ zlf hs hk
def zoj (w:web) (node:Int) (uses:Int) (S0:Int→(Sl Tab)→(Sl Tab)) (zb5:Int) (zb8:(Sl Tab)):(Sl Tab) :=
  (cond (decide (zb5 < ((w64 (uses + (1:Int))).toNat : Int)))
 (zuy S0 w node uses zb5 zb5 (0:Int) zb8)
 (zof w node uses zb8))
def zok (w:web) (node:Int) (uses:Int) (P0:Int→(Sl Tab)→Bool) (zb5:Int) (zb8:(Sl Tab)):Bool :=
  (cond (decide (zb5 < ((w64 (uses + (1:Int))).toNat : Int)))
 (zuz P0 w node uses zb5 zb5 (0:Int) zb8)
 (zog w node uses zb8))
def zif (w : web) (node : Int) (uses : Int) : Nat → Int → (Sl Tab) → (Sl Tab)
  | 0=>fun _ _=>default
  | k+1=>zoj w node uses (zif w node uses k)
def zih (w : web) (node : Int) (uses : Int) : Nat → Int → (Sl Tab) → Bool
  | 0=>fun _ _=>false
  | k+1=>zok w node uses (zih w node uses k)
def zuA (w:web) (node:Int) (uses:Int) (zb5:Int) (zb8:(Sl Tab)):(Sl Tab):=zif w node uses Fuel zb5 zb8
def zuB (w:web) (node:Int) (uses:Int) (zb5:Int) (zb8:(Sl Tab)):Bool:=zih w node uses Fuel zb5 zb8
theorem zCu (K:List PA→Prop) (w:web) (node:Int) (uses:Int) (zb5:Int) (zb8:(Sl Tab)) (zco:Nat→List PV) (ziN:zco=fun i=>zac (zb8.get i)) (hs:zuB w node uses zb5 zb8=true) (hk:K (zle (zuA w node uses zb5 zb8))):zh5 K w node uses zb5 zb8.len zco:=by
  refine zvK K w node uses zb5 zb8.len zco ?_
  intro X0 hstep
  have key:∀ (k:Nat) (zb5:Int) (zb8:(Sl Tab)) (zco:Nat→List PV) (ziN:zco=fun i=>zac (zb8.get i)),zih w node uses k zb5 zb8=true→K (zle (zif w node uses k zb5 zb8))→X0 (zgh w node uses zb5 zb8.len zco):=by
    intro k
    induction k with
    | zero=>intro zb5 zb8 zco ziN hs;exact absurd hs Bool.false_ne_true
    | succ k ih =>
      intro zb5 zb8 zco ziN hs hk
      subst ziN
      refine hstep zb5 zb8 ?_
      have hs:zok w node uses (zih w node uses k) zb5 zb8=true:=hs
      have hk:K (zle (zoj w node uses (zif w node uses k) zb5 zb8)):=hk
      unfold zok at hs
      unfold zoj at hk
      generalize zif w node uses k=S0 at hk ih
      generalize zih w node uses k=P0 at hs ih
      have hX0:=ih
      exact (za2 (K := fun r => K (zle r))
 (fun hs hk=>(zCt K w node uses X0 P0 S0 hX0 zb5 zb5 (0:Int) zb8 (fun i=>zac (zb8.get i)) rfl hs hk))
 (fun hs hk=>(zCs K w node uses zb8 (fun i=>zac (zb8.get i)) rfl hs hk)) hs hk)
  exact key _ zb5 zb8 zco ziN hs hk
def zxW (w:web) (node:Int) (uses:Int):(Sl Tab) :=
  (zuA w node uses (0:Int) (⟨(w64 (uses+(1:Int))).toNat,(fun _=>(fun _=>(0:Int)))⟩:Sl Tab))
def zIS (w:web) (node:Int) (uses:Int):Bool :=
  (decide ((0≤(w64 (uses+(1:Int)))∧(w64 (uses+(1:Int)))=(w64 (uses+(1:Int)))∧(w64 (uses+(1:Int)))≤1000000)) &&
 (zuB w node uses (0:Int) (⟨(w64 (uses+(1:Int))).toNat,(fun _=>(fun _=>(0:Int)))⟩:Sl Tab)))
theorem zMH (w:web) (node:Int) (uses:Int) (K:List PA→Prop) (hs:zIS w node uses=true) (hk:K (zle (zxW w node uses))):vcFun Tryd.prog zf1 zbi 106 [.one (.fp (zaC w) 0),.one (.int .i64 node),.one (.int .i64 uses)] K:=by
  refine zbd (zCo w node uses K) ?_
  unfold zIS at hs
  unfold zxW at hk
  exact (za6 hs fun hc hs=>⟨hc,(zCu K w node uses (0:Int) (⟨(w64 (uses+(1:Int))).toNat,(fun _=>(fun _=>(0:Int)))⟩:Sl Tab) (fun _=>(zac (fun _=>(0:Int)))) rfl hs hk)⟩)
def zxX : List PA → COut
  | [.one (.fp [.int .i64 zas,.sl zal zaP zam,.fm zbK zaS zaT] 0),.one (.int .i64 a1),.one (.int .i64 a2)]=>.det (IsE zae 4 zaP zam∧zbK=(false,1,false,[none])∧zIS (⟨(⟨zas,(⟨zal,zar zam⟩:(Sl Tie))⟩:Net),(⟨zaS,zaT⟩:Mp)⟩:web) a1 a2=true) [.one (.sl ((zxW (⟨(⟨zas,(⟨zal,zar zam⟩:(Sl Tie))⟩:Net),(⟨zaS,zaT⟩:Mp)⟩:web) a1 a2).len) 80 (fun i=>zac ((zxW (⟨(⟨zas,(⟨zal,zar zam⟩:(Sl Tie))⟩:Net),(⟨zaS,zaT⟩:Mp)⟩:web) a1 a2).get i)))]
  | _=>.no
theorem zE8:zax Tryd.prog 106:=⟨_,rfl,rfl,by kernel_rfl⟩
theorem zKT:Ok Tryd.prog 106 zxX:=zbY zIR zE8 fun args K h=>by
  unfold zxX at h
  split at h
  · rename_i zas zal zaP zam zbK zaS zaT a1 a2
    obtain ⟨⟨⟨rfl,zaB,rfl⟩,rfl,hs⟩,hk⟩:=h
    try rw [zau zaB] at hs
    try rw [zau zaB] at hk
    exact ⟨(fun _ _=>[]),(fun _=>false),zbi,zMH (⟨(⟨zas,(⟨zal,zaB⟩:(Sl Tie))⟩:Net),(⟨zaS,zaT⟩:Mp)⟩:web) a1 a2 K hs hk⟩
  · exact h.elim
abbrev zMj:Tabs:=Tabs.nil
theorem zIT:TabsOk Tryd.prog zMj:=TabsOk.nil
abbrev zMk:Ctrs:=csm zMj (fun _ _=>[]) (fun _=>false)
def zxY:Ann:=⟨18,[(0,zK [0] []),(1,zK [0,3] []),(2,zK [3,6,7,8] []),(3,zK [3,6,7,8,9] []),(4,zK [3,5,6,7,8] []),(5,zK [3,5,6,7,8,14] []),(6,zK [2] []),(7,zK [3,6,7,8] []),(8,zK [2] [])],
 [(3,zK [3,6,7,8] [])],
 [],
 [],[]⟩
abbrev zMI:=Int
abbrev zKU (r:zMI):List PA:=[.one (.int .i64 r)]
@[irreducible] def z100:=ptF Tryd.prog zMk zxY Tryd.f100
def zxZ (vals:(Sl Int)) (zd1:Int):St:=⟨[(3,zI (0:Int)),(6,zS enc_3 1 vals),(7,zI (vals.len:Int)),(8,zI zd1)],[],[]⟩
abbrev zDv (K:List PA→Prop) (vals:(Sl Int)) (X:St→Prop) (P:Int→Bool) (S:Int→Int):Prop:=∀ ⦃zd1:Int⦄,P zd1=true→K (zKU (S zd1))→X (zxZ vals zd1)
section
variable {K:List PA→Prop} {vals:(Sl Int)} {zd1:Int} {X0:St→Prop} {P0:Int→Bool} {S0:Int→Int}
def zuC (vals:(Sl Int)) (S0:Int→Int) (zd1:Int):Int :=
  (cond (decide (zd1 < (vals.len : Int)))
 (cond ((vals.get zd1.toNat) != (0:Int))
 (vals.get zd1.toNat)
 (S0 (w64 (zd1+(1:Int)))))
 (0:Int))
def zuD (vals:(Sl Int)) (P0:Int→Bool) (zd1:Int):Bool :=
  (cond (decide (zd1 < (vals.len : Int)))
 (decide ((0≤zd1∧zd1 < (vals.len:Int))) &&
 (cond ((vals.get zd1.toNat) != (0:Int))
 true
 (P0 (w64 (zd1+(1:Int))))))
 true)
def zuE (vals:(Sl Int)):Nat→Int→Int:=lpO (fun _=>default) (zuC vals)
def zuF (vals:(Sl Int)):Nat→Int→Bool:=lpO (fun _=>false) (zuD vals)
def zuG (vals:(Sl Int)) (zd1:Int):Int:=zuE vals Fuel zd1
def zuH (vals:(Sl Int)) (zd1:Int):Bool:=zuF vals Fuel zd1
theorem zCv (hs:zuH vals zd1=true) (hk:K (zKU (zuG vals zd1))):z100 K [1,1,0,1,0] [] (zxZ vals zd1) :=
  zl (fun X=>z100 K [1,1,0,1,0,0] [X]) (by kernel_rfl) fun X0 hX =>
  (show ∀ k, zDv K vals X0 (zuF vals k) (zuE vals k) from zhs _ _ (zuD vals) (zuC vals) (zDv K vals X0)
 (by intro _ hs;exact absurd hs Bool.false_ne_true)
 (by intro P0 S0 hX0 zd1 hs hk;exact hX _ (zbd (by kernel_rfl) (zc hs hk (fun hs hk=>(za6 hs fun hc hs=>And.intro hc (zc hs hk (fun hs hk=>hk) (fun hs hk=>(hX0 hs hk))))) (fun hs hk=>hk))))) _ hs hk
def zKV (vals:(Sl Int)):Int :=
  (zuG vals (0:Int))
def zKW (vals:(Sl Int)):Bool :=
  (zuH vals (0:Int))
end
theorem zMJ (vals:(Sl Int)) (K:List PA→Prop) (hs:zKW vals=true) (hk:K (zKU (zKV vals))):vcFun Tryd.prog zMk zxY 100 [.one (.sl vals.len 1 (fun i=>enc_3 (vals.get i)))] K :=
  zbd (by kernel_rfl) (zCv hs hk)
def zx0 : List PA → COut
  | [.one (.sl zdw zii zdx)]=>.det (IsE enc_3 1 zii zdx∧zKW (⟨zdw,zav zdx⟩:(Sl Int))=true) [.one (.int .i64 (zKV (⟨zdw,zav zdx⟩:(Sl Int))))]
  | _=>.no
theorem zE9:zax Tryd.prog 100:=⟨_,rfl,rfl,by kernel_rfl⟩
theorem zKX:Ok Tryd.prog 100 zx0:=zbY zIT zE9 fun args K h=>by
  unfold zx0 at h
  split at h
  · rename_i zdw zii zdx
    obtain ⟨⟨⟨rfl,zfx,rfl⟩,hs⟩,hk⟩:=h
    try rw [zby zfx] at hs
    try rw [zby zfx] at hk
    exact ⟨(fun _ _=>[]),(fun _=>false),zxY,zMJ (⟨zdw,zfx⟩:(Sl Int)) K hs hk⟩
  · exact h.elim
abbrev zMl:Tabs:=Tabs.nil
theorem zIU:TabsOk Tryd.prog zMl:=TabsOk.nil
abbrev zMK:Ctrs:=csm zMl (fun _ _=>[]) (fun _=>false)
def zDw:Ann:=⟨6,[(0,zK [0] []),(1,zK [2] [])],
 [],
 [],
 [],[]⟩
abbrev zML:=Bool
abbrev zMM (r:zML):List PA:=[.one (.bool r)]
section
variable {K:List PA→Prop} {x:Int}
def zIV (x:Int):Bool :=
  (x != x)
end
theorem zMN (x:Int) (K:List PA→Prop) (hk:K (zMM (zIV x))):vcFun Tryd.prog zMK zDw 114 [.one (.int .i64 x)] K :=
  zbd (by kernel_rfl) hk
def zx1 : List PA → COut
  | [.one (.int .i64 a0)]=>.tot [.one (.bool (zIV a0))]
  | _=>.no
theorem zFa:zax Tryd.prog 114:=⟨_,rfl,rfl,by kernel_rfl⟩
theorem zKY:Ok Tryd.prog 114 zx1:=zbY zIU zFa fun args K h=>by
  unfold zx1 at h
  split at h
  · rename_i a0
    have hk:=h
    exact ⟨(fun _ _=>[]),(fun _=>false),zDw,zMN a0 K hk⟩
  · exact h.elim
abbrev zMm:Tabs:=(Tabs.nil.addF 114 zx1)
theorem zIW:TabsOk Tryd.prog zMm:=(TabsOk.nil.addF zKY)
abbrev zMO:Ctrs:=csm zMm (fun _ _=>[]) (fun _=>false)
def zDx:Ann:=⟨20,[(0,zK [0,1] []),(1,zK [0,1,5] []),(2,zK [0,1,5,6] []),(3,zK [0,1,6,11] []),(4,zK [12] []),(5,zK [4] []),(6,zK [4] []),(7,zK [0,1,13] []),(8,zK [4] []),(9,zK [0,1,16] []),(10,zK [4] []),(11,zK [19] []),(12,zK [4] []),(13,zK [4] [])],
 [],
 [],
 [],[]⟩
abbrev zMP:=Int
abbrev zMQ (r:zMP):List PA:=[.one (.int .i64 r)]
section
variable {K:List PA→Prop} {x:Int} {y_a1:Int}
def zBk (x:Int) (y_a1:Int):Int :=
  (cond (zIV x)
 (cond (zIV y_a1)
 (0:Int)
 (-1:Int))
 (cond (zIV y_a1)
 (1:Int)
 (cond (decide (x < y_a1))
 (-1:Int)
 (cond (decide (x > y_a1))
 (1:Int)
 (0:Int)))))
end
theorem zMR (x:Int) (y_a1:Int) (K:List PA→Prop) (hk:K (zMQ (zBk x y_a1))):vcFun Tryd.prog zMO zDx 101 [.one (.int .i64 x),.one (.int .i64 y_a1)] K :=
  zbd (by kernel_rfl) (zt hk (fun hk=>(zt hk (fun hk=>hk) (fun hk=>hk))) (fun hk=>(zt hk (fun hk=>hk) (fun hk=>(zt hk (fun hk=>hk) (fun hk=>(zt hk (fun hk=>hk) (fun hk=>hk))))))))
def zuI : List PA → COut
  | [.one (.int .i64 a0),.one (.int .i64 a1)]=>.tot [.one (.int .i64 (zBk a0 a1))]
  | _=>.no
theorem zFb:zax Tryd.prog 101:=⟨_,rfl,rfl,by kernel_rfl⟩
theorem zIX:Ok Tryd.prog 101 zuI:=zbY zIW zFb fun args K h=>by
  unfold zuI at h
  split at h
  · rename_i a0 a1
    have hk:=h
    exact ⟨(fun _ _=>[]),(fun _=>false),zDx,zMR a0 a1 K hk⟩
  · exact h.elim
abbrev zMn:Tabs:=Tabs.nil
theorem zIY:TabsOk Tryd.prog zMn:=TabsOk.nil
abbrev zMS:Ctrs:=csm zMn (fun _ _=>[]) (fun _=>false)
def zDy:Ann:=⟨6,[(0,zK [1] [1]),(1,zK [5] []),(2,zK [2] []),(3,zK [2] [])],
 [],
 [],
 [],[]⟩
abbrev zMT:=Int
abbrev e118 (r:zMT):List PA:=[.one (.int .i64 r)]
section
variable {K:List PA→Prop} {s:step}
def zDz (s:step):Int :=
  (cond s.Use.Back
 (1:Int)
 (0:Int))
end
theorem zMU (s:step) (K:List PA→Prop) (hk:K (e118 (zDz s))):vcFun Tryd.prog zMS zDy 118 [.agg (zad s)] K :=
  zbd (by kernel_rfl) (zt hk (fun hk=>hk) (fun hk=>hk))
def zx2 : List PA → COut
  | [.agg [.int .i64 zdj,.bool zc4,.int .i64 zeP,.int .i64 zp7,.int .i64 zcL]]=>.tot [.one (.int .i64 (zDz (⟨(⟨zdj,zc4⟩:Use),zeP,zp7,zcL⟩:step)))]
  | _=>.no
theorem zFc:zax Tryd.prog 118:=⟨_,rfl,rfl,by kernel_rfl⟩
theorem zKZ:Ok Tryd.prog 118 zx2:=zbY zIY zFc fun args K h=>by
  unfold zx2 at h
  split at h
  · rename_i zdj zc4 zeP zp7 zcL
    have hk:=h
    exact ⟨(fun _ _=>[]),(fun _=>false),zDy,zMU (⟨(⟨zdj,zc4⟩:Use),zeP,zp7,zcL⟩:step) K hk⟩
  · exact h.elim
abbrev zMo:Tabs:=(((Tabs.nil.addF 100 zx0).addF 101 zuI).addF 118 zx2)
theorem zIZ:TabsOk Tryd.prog zMo:=(((TabsOk.nil.addF zKX).addF zIX).addF zKZ)
abbrev zMV:Ctrs:=csm zMo (fun _ _=>[]) (fun _=>false)
def zDA:Ann:=⟨22,[(0,zK [2,3] [2,3]),(1,zK [2,3,5] [2,3]),(2,zK [4] [])],
 [],
 [],
 [],[]⟩
abbrev zMW:=Int
abbrev e108 (r:zMW):List PA:=[.one (.int .i64 r)]
section
variable {K:List PA→Prop} {a:step} {b:step}
def zKo (a:step) (b:step):Int :=
  (zKV (⟨2,zav (zbU [(enc_3 (zBk a.Use.Tie b.Use.Tie)),(enc_3 (zBk (zDz a) (zDz b)))])⟩:(Sl Int)))
def zK1 (a:step) (b:step):Bool :=
  (decide ((zKW (⟨2,zav (zbU [(enc_3 (zBk a.Use.Tie b.Use.Tie)),(enc_3 (zBk (zDz a) (zDz b)))])⟩:(Sl Int))=true)) &&
 true)
end
theorem zMX (a:step) (b:step) (K:List PA→Prop) (hs:zK1 a b=true) (hk:K (e108 (zKo a b))):vcFun Tryd.prog zMV zDA 108 [.agg (zad a),.agg (zad b)] K :=
  zbd (by kernel_rfl) (za6 hs fun hc hs=>And.intro (And.intro ((zeN []):IsE enc_3 1 1 (zbU [(enc_3 (zBk a.Use.Tie b.Use.Tie)),(enc_3 (zBk (zDz a) (zDz b)))])) hc) hk)
def zx3 : List PA → COut
  | [.agg [.int .i64 zdj,.bool zc4,.int .i64 zeP,.int .i64 zp7,.int .i64 zcL],.agg [.int .i64 zgN,.bool zfy,.int .i64 zj3,.int .i64 zCw,.int .i64 zcm]]=>.det (zK1 (⟨(⟨zdj,zc4⟩:Use),zeP,zp7,zcL⟩:step) (⟨(⟨zgN,zfy⟩:Use),zj3,zCw,zcm⟩:step)=true) [.one (.int .i64 (zKo (⟨(⟨zdj,zc4⟩:Use),zeP,zp7,zcL⟩:step) (⟨(⟨zgN,zfy⟩:Use),zj3,zCw,zcm⟩:step)))]
  | _=>.no
theorem zFd:zax Tryd.prog 108:=⟨_,rfl,rfl,by kernel_rfl⟩
theorem zK2:Ok Tryd.prog 108 zx3:=zbY zIZ zFd fun args K h=>by
  unfold zx3 at h
  split at h
  · rename_i zdj zc4 zeP zp7 zcL zgN zfy zj3 zCw zcm
    obtain ⟨hs,hk⟩:=h
    exact ⟨(fun _ _=>[]),(fun _=>false),zDA,zMX (⟨(⟨zdj,zc4⟩:Use),zeP,zp7,zcL⟩:step) (⟨(⟨zgN,zfy⟩:Use),zj3,zCw,zcm⟩:step) K hs hk⟩
  · exact h.elim
abbrev zMp:Tabs:=(Tabs.nil.addF 108 zx3)
theorem zI0:TabsOk Tryd.prog zMp:=(TabsOk.nil.addF zK2)
abbrev zMq:Ctrs:=csm zMp (fun _ _=>[]) (fun _=>false)
def zx4:Ann:=⟨39,[(0,zK [0,1,2] []),(1,zK [0,1,2,11,12,13] []),(2,zK [0,1,2,11,12,13,14] []),(3,zK [0,1,2,7,8,11,12,13] [8]),(4,zK [0,1,2,7,8,11,12,13,21] [8]),(5,zK [6] []),(6,zK [0,1,2,8,9,11,12,13] [8,9]),(7,zK [0,1,2,10,11,12,13] []),(8,zK [0,1,2,10,11,12,13,31] []),(9,zK [6] []),(10,zK [0,1,2,11,12,13] []),(11,zK [38] []),(12,zK [6] []),(13,zK [6] [])],
 [(2,zK [0,1,2,11,12,13] [])],
 [(6,zK [0,1,2,7,8,11,12,13] [8]),(8,zK [0,1,2,10,11,12,13] [])],
 [],[]⟩
abbrev zMY:=Int
abbrev zI1 (r:zMY):List PA:=[.one (.int .i64 r)]
@[irreducible] def z107:=ptF Tryd.prog zMq zx4 Tryd.f107
def zx5 (ze0:(Sl step)) (zet:(Sl step)) (za5:(Sl step)) (zbt:Int) (zcn:Int) (zdL:Nat→List PV) (zdM:Nat→List PV) (zgn:Nat→List PV):St:=⟨[(0,zP (.sl ze0.len 5 zdL)),(1,zP (.sl zet.len 5 zdM)),(2,zP (.fn 108 [] [])),(11,zP (.sl za5.len 5 zgn)),(12,zI zbt),(13,zI zcn)],[],[]⟩
abbrev zuJ (K:List PA→Prop) (X:St→Prop) (P:(Sl step)→(Sl step)→(Sl step)→Int→Int→Bool) (S:(Sl step)→(Sl step)→(Sl step)→Int→Int→Int):Prop:=∀ ⦃ze0:(Sl step)⦄ ⦃zet:(Sl step)⦄ ⦃za5:(Sl step)⦄ ⦃zbt:Int⦄ ⦃zcn:Int⦄ ⦃zdL:Nat→List PV⦄ ⦃zdM:Nat→List PV⦄ ⦃zgn:Nat→List PV⦄,P ze0 zet za5 zbt zcn=true→K (zI1 (S ze0 zet za5 zbt zcn))→zdL=zg zad ze0→zdM=zg zad zet→zgn=zg zad za5→X (zx5 ze0 zet za5 zbt zcn zdL zdM zgn)
section
variable {K:List PA→Prop} {s1_a0:(Sl step)} {s2_a1:(Sl step)} {ze0:(Sl step)} {zet:(Sl step)} {za5:(Sl step)} {zbt:Int} {zcn:Int} {zdL:Nat→List PV} {zdM:Nat→List PV} {zgn:Nat→List PV} {X0:St→Prop} {P0:(Sl step)→(Sl step)→(Sl step)→Int→Int→Bool} {S0:(Sl step)→(Sl step)→(Sl step)→Int→Int→Int} {zp8:(Sl step)} {zj4:(Sl step)} {iv1:Int} {zda:(Sl step)} {zbh:Int} {zrL:Int} {zjt:Int} {zju:Bool} {zjv:Int} {zjw:Int} {zjx:Int} {zp9:Nat→List PV} {zqa:Nat→List PV} {zx6:Nat→List PV} {zqb:(Sl step)} {zqc:(Sl step)} {cv2:Int} {zrM:Int} {zqd:Nat→List PV} {zqe:Nat→List PV}
def zuK (S0:(Sl step)→(Sl step)→(Sl step)→Int→Int→Int) (zda:(Sl step)) (zbh:Int) (zqb:(Sl step)) (zqc:(Sl step)) (cv2:Int) (zrM:Int):Int :=
  (cond (cv2 != (0:Int))
 cv2
 (S0 zqb zqc zda zbh (w64 (zrM+(1:Int)))))
def zuL (P0:(Sl step)→(Sl step)→(Sl step)→Int→Int→Bool) (zda:(Sl step)) (zbh:Int) (zqb:(Sl step)) (zqc:(Sl step)) (cv2:Int) (zrM:Int):Bool :=
  (cond (cv2 != (0:Int))
 true
 (P0 zqb zqc zda zbh (w64 (zrM+(1:Int)))))
theorem zCx (hX0:zuJ K X0 P0 S0) (hs:zuL P0 zda zbh zqb zqc cv2 zrM=true) (hk:K (zI1 (zuK S0 zda zbh zqb zqc cv2 zrM))) (zx7:zqd=zg zad zqb) (zx8:zqe=zg zad zqc):z107 K [1,0,1,0,0,1,1,0,0,1,1,1,1] [X0] ⟨[(0,zP (.sl zqb.len 5 zqd)),(1,zP (.sl zqc.len 5 zqe)),(2,zP (.fn 108 [] [])),(10,zI cv2),(11,zS zad 5 zda),(12,zI zbh),(13,zI zrM)],[],[]⟩:=by subst zx7;subst zx8;exact zbd (by kernel_rfl) (zc hs hk (fun hs hk=>hk) (fun hs hk=>(hX0 hs hk rfl rfl rfl)))
def zuM (S0:(Sl step)→(Sl step)→(Sl step)→Int→Int→Int) (zp8:(Sl step)) (zj4:(Sl step)) (iv1:Int) (zda:(Sl step)) (zbh:Int) (zrL:Int) (zjt:Int) (zju:Bool) (zjv:Int) (zjw:Int) (zjx:Int):Int :=
  (zuK S0 zda zbh zp8 zj4 (zKo (⟨(⟨zjt,zju⟩:Use),zjv,zjw,zjx⟩:step) (zj4.get iv1.toNat)) zrL)
def zuN (P0:(Sl step)→(Sl step)→(Sl step)→Int→Int→Bool) (zp8:(Sl step)) (zj4:(Sl step)) (iv1:Int) (zda:(Sl step)) (zbh:Int) (zrL:Int) (zjt:Int) (zju:Bool) (zjv:Int) (zjw:Int) (zjx:Int):Bool :=
  (decide ((0≤iv1∧iv1 < (zj4.len:Int))) &&
 (decide ((zK1 (⟨(⟨zjt,zju⟩:Use),zjv,zjw,zjx⟩:step) (zj4.get iv1.toNat)=true)) &&
 (zuL P0 zda zbh zp8 zj4 (zKo (⟨(⟨zjt,zju⟩:Use),zjv,zjw,zjx⟩:step) (zj4.get iv1.toNat)) zrL)))
theorem zCy (hX0:zuJ K X0 P0 S0) (hs:zuN P0 zp8 zj4 iv1 zda zbh zrL zjt zju zjv zjw zjx=true) (hk:K (zI1 (zuM S0 zp8 zj4 iv1 zda zbh zrL zjt zju zjv zjw zjx))) (zx9:zp9=zg zad zp8) (zya:zqa=zg zad zj4) (zFe:zx6=zg zad zda):z107 K [1,0,1,0,0,1,1,0,0,1,1] [X0] ⟨[(0,zP (.sl zp8.len 5 zp9)),(1,zP (.sl zj4.len 5 zqa)),(2,zP (.fn 108 [] [])),(7,zI iv1),(8,zp 8 0),(11,zP (.sl zda.len 5 zx6)),(12,zI zbh),(13,zI zrL)],[(8,.box 130 (zm (zad (⟨(⟨zjt,zju⟩:Use),zjv,zjw,zjx⟩:step))))],[]⟩:=by subst zx9;subst zya;subst zFe;exact zbd (by kernel_rfl) (za6 hs fun hc hs=>And.intro hc (za6 hs fun hc hs=>And.intro hc (zCx hX0 hs hk rfl rfl)))
def zuO (S0:(Sl step)→(Sl step)→(Sl step)→Int→Int→Int) (ze0:(Sl step)) (zet:(Sl step)) (za5:(Sl step)) (zbt:Int) (zcn:Int):Int :=
  (cond (decide (zcn < zbt))
 (cond (decide (zcn ≥ (zet.len : Int)))
 (1:Int)
 (zuM S0 ze0 zet zcn za5 zbt zcn ((za5.get zcn.toNat).Use.Tie) ((za5.get zcn.toNat).Use.Back) ((za5.get zcn.toNat).from_) ((za5.get zcn.toNat).to) ((za5.get zcn.toNat).length)))
 (cond (decide ((ze0.len : Int) < (zet.len : Int)))
 (-1:Int)
 (0:Int)))
def zuP (P0:(Sl step)→(Sl step)→(Sl step)→Int→Int→Bool) (ze0:(Sl step)) (zet:(Sl step)) (za5:(Sl step)) (zbt:Int) (zcn:Int):Bool :=
  (cond (decide (zcn < zbt))
 (decide ((0≤zcn∧zcn < (za5.len:Int))) &&
 (cond (decide (zcn ≥ (zet.len : Int)))
 true
 (zuN P0 ze0 zet zcn za5 zbt zcn ((za5.get zcn.toNat).Use.Tie) ((za5.get zcn.toNat).Use.Back) ((za5.get zcn.toNat).from_) ((za5.get zcn.toNat).to) ((za5.get zcn.toNat).length))))
 true)
def zuQ:Nat→(Sl step)→(Sl step)→(Sl step)→Int→Int→Int:=lpO (fun _ _ _ _ _=>default) (zuO)
def zuR:Nat→(Sl step)→(Sl step)→(Sl step)→Int→Int→Bool:=lpO (fun _ _ _ _ _=>false) (zuP)
def zuS (ze0:(Sl step)) (zet:(Sl step)) (za5:(Sl step)) (zbt:Int) (zcn:Int):Int:=zuQ Fuel ze0 zet za5 zbt zcn
def zuT (ze0:(Sl step)) (zet:(Sl step)) (za5:(Sl step)) (zbt:Int) (zcn:Int):Bool:=zuR Fuel ze0 zet za5 zbt zcn
theorem zCz (hs:zuT ze0 zet za5 zbt zcn=true) (hk:K (zI1 (zuS ze0 zet za5 zbt zcn))) (zlg:zdL=zg zad ze0) (zlh:zdM=zg zad zet) (zrN:zgn=zg zad za5):z107 K [1,0,1,0] [] (zx5 ze0 zet za5 zbt zcn zdL zdM zgn) :=
  zl (fun X=>z107 K [1,0,1,0,0] [X]) (by kernel_rfl) fun X0 hX =>
  (show ∀ k, zuJ K X0 (zuR k) (zuQ k) from zhs _ _ (zuP) (zuO) (zuJ K X0)
 (by intro _ _ _ _ _ _ _ _ hs;exact absurd hs Bool.false_ne_true)
 (by intro P0 S0 hX0 ze0 zet za5 zbt zcn zdL zdM zgn hs hk zlg zlh zrN;subst zlg;subst zlh;subst zrN;exact hX _ (zbd (by kernel_rfl) (zc hs hk (fun hs hk=>(za6 hs fun hc hs=>And.intro hc (zc hs hk (fun hs hk=>hk) (fun hs hk=>(zCy hX0 hs hk rfl rfl rfl))))) (fun hs hk=>(zt hk (fun hk=>hk) (fun hk=>hk))))))) _ hs hk zlg zlh zrN
def zHK (s1_a0:(Sl step)) (s2_a1:(Sl step)):Int :=
  (zuS s1_a0 s2_a1 s1_a0 (s1_a0.len:Int) (0:Int))
def zKp (s1_a0:(Sl step)) (s2_a1:(Sl step)):Bool :=
  (zuT s1_a0 s2_a1 s1_a0 (s1_a0.len:Int) (0:Int))
end
theorem zMZ (s1_a0:(Sl step)) (s2_a1:(Sl step)) (K:List PA→Prop) (hs:zKp s1_a0 s2_a1=true) (hk:K (zI1 (zHK s1_a0 s2_a1))):vcFun Tryd.prog zMq zx4 107 [.one (.sl s1_a0.len 5 (fun i=>zad (s1_a0.get i))),.one (.sl s2_a1.len 5 (fun i=>zad (s2_a1.get i))),.one (.fn 108 [] [])] K :=
  zbd (by kernel_rfl) (zCz hs hk rfl rfl rfl)
def zyb : List PA → COut
  | [.one (.sl zdw zii zdx),.one (.sl zdH ziO zdE),.one (.fn 108 [] [])]=>.det (IsE zad 5 zii zdx∧IsE zad 5 ziO zdE∧zKp (⟨zdw,zh1 zdx⟩:(Sl step)) (⟨zdH,zh1 zdE⟩:(Sl step))=true) [.one (.int .i64 (zHK (⟨zdw,zh1 zdx⟩:(Sl step)) (⟨zdH,zh1 zdE⟩:(Sl step))))]
  | _=>.no
theorem zFf:zax Tryd.prog 107:=⟨_,rfl,rfl,by kernel_rfl⟩
theorem zK3:Ok Tryd.prog 107 zyb:=zbY zI0 zFf fun args K h=>by
  unfold zyb at h
  split at h
  · rename_i zdw zii zdx zdH ziO zdE
    obtain ⟨⟨⟨rfl,zfx,rfl⟩,⟨rfl,zgo,rfl⟩,hs⟩,hk⟩:=h
    try rw [zeO zfx] at hs
    try rw [zeO zfx] at hk
    try rw [zeO zgo] at hs
    try rw [zeO zgo] at hk
    exact ⟨(fun _ _=>[]),(fun _=>false),zx4,zMZ (⟨zdw,zfx⟩:(Sl step)) (⟨zdH,zgo⟩:(Sl step)) K hs hk⟩
  · exact h.elim
abbrev T89:Tabs:=((((Tabs.nil.addF 93 zpV).addF 106 zxX).addF 107 zyb).addI 110 zpX)
theorem zK4:TabsOk Tryd.prog T89:=((((TabsOk.nil.addF zHJ).addF zKT).addF zK3).addI zvJ)
abbrev G89:Ctrs:=csm T89 (fun _ _=>[]) (fun _=>false)
def zaY:Ann:=⟨148,[(0,zK [0] []),(1,zK [0,3] [21]),(2,zK [0,3,23,24] [21]),(3,zK [0,3,23,24,25] [21]),(4,zK [0,3,4,23,24] [21]),(5,zK [0,3,23,24] [21]),(6,zK [0,3,23,24] [21]),(7,zK [0,3] [21]),(8,zK [0,3,5] [21]),(9,zK [0,3,5,45] [21]),(10,zK [0,3,5] [21]),(11,zK [0,3,5,48,49,50] [21]),(12,zK [0,3,5,48,49,50,51] [21]),(13,zK [0,3,5,6,7,48,49,50] [21]),(14,zK [0,3,5,48,49,50,62] [21]),(15,zK [0,3,5,48,49,50] [21]),(16,zK [0,3,5,8] [21]),(17,zK [0,5,8,64,65,66] [21]),(18,zK [0,5,8,64,65,66,67] [21]),(19,zK [0,5,8,9,10,64,65,66] [9,10,21]),(20,zK [0,5,8,9,10,64,65,66,78] [9,10,21]),(21,zK [0,5,8,9,10,11,64,65,66] [9,10,11,21]),(22,zK [0,5,8,9,10,11,12,13,64,65,66] [9,10,11,12,13,21]),(23,zK [0,5,8,9,10,11,12,13,14,64,65,66] [9,10,11,12,13,14,21]),(24,zK [0,5,8,9,10,11,12,13,14,64,65,66,83] [9,10,11,12,13,14,21,129]),(25,zK [0,5,8,9,10,11,12,13,14,64,65,66] [9,10,11,12,13,14,21,129]),(26,zK [0,5,8,9,10,11,12,13,14,64,65,66,87] [9,10,11,12,13,14,21,129]),(27,zK [0,5,8,9,10,11,12,13,14,15,64,65,66,87] [9,10,11,12,13,14,15,21,129]),(28,zK [0,5,8,9,10,11,12,13,14,15,64,65,66,87,125] [9,10,11,12,13,14,15,21,129]),(29,zK [0,5,8,9,10,11,12,13,14,15,64,65,66] [9,10,11,12,13,14,15,21,129]),(30,zK [0,5,8,9,10,11,12,13,14,64,65,66] [9,10,11,12,13,14,21,129]),(31,zK [0,5,8,9,10,11,12,13,64,65,66,136] [9,10,11,12,13,21,129]),(32,zK [0,5,8,9,10,11,12,13,14,64,65,66] [9,10,11,12,13,14,21,129]),(33,zK [0,5,8,11,64,65,66,144] [11,21,129]),(34,zK [0,5,8,64,65,66] [21,129]),(35,zK [0,5,8,64,65,66] [21,129]),(36,zK [2] [])],
 [(3,zK [0,3,23,24] [21]),(9,zK [0,3,5] [21]),(12,zK [0,3,5,48,49,50] [21]),(18,⟨[0,5,8,64,65,66],[21],[],[],[],[],[(8,1005,fun _=>zad default)]⟩),(24,⟨[0,5,8,9,10,11,12,13,14,64,65,66],[9,10,11,12,13,14,21,129],[],[(11,0,129,130,fun _=>zad default)],[],[],[]⟩),(27,zK [0,5,8,9,10,11,12,13,14,64,65,66,87] [9,10,11,12,13,14,21,129])],
 [(7,zK [0,3] [21]),(16,zK [0,3,5] [21]),(34,zK [0,5,8,11,64,65,66,144] [11,21,129])],
 [],[]⟩
def zli (w:web) (zbx:Int) (zgp:Nat) (zcS:Nat→List PV):St:=⟨[(0,.one (.c (.p (.fp (zaC w) 0)))),(3,.one (.c (.vec 21))),(23,.one (.c (.p (.int .i64 (w.Net.Nodes.toNat:Int))))),(24,.one (.c (.p (.int .i64 zbx))))],[(21,.vec 159 1 24 zgp zcS)],[]⟩
def zlj (K:List PA→Prop) (w:web) (zbx:Int) (zgp:Nat) (zcS:Nat→List PV):Prop:=vc Tryd.prog G89 zaY (cdF Tryd.f89 [1,0,1,0,1,0]) (zai 0 (sqK Tryd.prog G89 zaY (cdF Tryd.f89 [1,0,1,1]) (zcJ (zbo Tryd.prog Tryd.f89 K)))) (zli w zbx zgp zcS)
def zI2 (w:web) (zrO:Nat) (ziP:Nat→List PV):St:=⟨[(0,.one (.c (.p (.fp (zaC w) 0)))),(3,.one (.c (.vec 21)))],[(21,.vec 159 1 24 zrO ziP)],[]⟩
def zol (K:List PA→Prop) (w:web) (zrO:Nat) (ziP:Nat→List PV):Prop:=vc Tryd.prog G89 zaY (cdF Tryd.f89 [1,0,1,1]) (zcJ (zbo Tryd.prog Tryd.f89 K)) (zI2 w zrO ziP)
def zjy (w:web) (zaK:(Sl (Sl Tab))) (zbg:Int):St:=⟨[(0,.one (.c (.p (.fp (zaC w) 0)))),(3,.one (.c (.vec 21))),(5,.one (.c (.p (.int .i64 zbg))))],[(21,.vec 159 1 24 zaK.len (fun i=>zaG (zaK.get i)))],[]⟩
def zlk (K:List PA→Prop) (w:web) (zaK:(Sl (Sl Tab))) (zbg:Int):Prop:=vc Tryd.prog G89 zaY (cdF Tryd.f89 [1,0,1,1,1,1,0,1,0]) (zai 2 (sqK Tryd.prog G89 zaY (cdF Tryd.f89 [1,0,1,1,1,1,1]) (zcJ (zbo Tryd.prog Tryd.f89 K)))) (zjy w zaK zbg)
def zll (w:web) (zaK:(Sl (Sl Tab))) (za9:Int) (zbF:Int):St:=⟨[(0,.one (.c (.p (.fp (zaC w) 0)))),(3,.one (.c (.vec 21))),(5,.one (.c (.p (.int .i64 za9)))),(48,.one (.c (.vec 21))),(49,.one (.c (.p (.int .i64 (zaK.len:Int))))),(50,.one (.c (.p (.int .i64 zbF))))],[(21,.vec 159 1 24 zaK.len (fun i=>zaG (zaK.get i)))],[]⟩
def zlm (K:List PA→Prop) (X2:St→Prop) (w:web) (zaK:(Sl (Sl Tab))) (za9:Int) (zbF:Int):Prop:=vc Tryd.prog G89 zaY (cdF Tryd.f89 [1,0,1,1,1,1,0,1,0,0,1,0,0,1,0]) (zai 4 (zai 3 (sqK Tryd.prog G89 zaY (cdF Tryd.f89 [1,0,1,1,1,1,0,1,0,0,1,1]) (zbp Tryd.prog zaY 9 X2 (zai 2 (sqK Tryd.prog G89 zaY (cdF Tryd.f89 [1,0,1,1,1,1,1]) (zcJ (zbo Tryd.prog Tryd.f89 K)))))))) (zll w zaK za9 zbF)
def zI3 (w:web) (zd2:Int) (zrP:Nat) (ziQ:Nat→List PV):St:=⟨[(0,.one (.c (.p (.fp (zaC w) 0)))),(3,.one (.c (.vec 21))),(5,.one (.c (.p (.int .i64 zd2))))],[(21,.vec 159 1 24 zrP ziQ)],[]⟩
def zln (K:List PA→Prop) (w:web) (zd2:Int) (zrP:Nat) (ziQ:Nat→List PV):Prop:=vc Tryd.prog G89 zaY (cdF Tryd.f89 [1,0,1,1,1,1,1]) (zcJ (zbo Tryd.prog Tryd.f89 K)) (zI3 w zd2 zrP ziQ)
def zfT (w:web) (zan:(Sl (Sl Tab))) (zaW:Int) (zaF:Bool) (zeQ:Nat) (zbu:Nat→List PV) (za3:Int) (zgq:Nat) (zbX:Nat→List PV):St:=⟨[(0,.one (.c (.p (.fp (zaC w) 0)))),(5,.one (.c (.p (.int .i64 zaW)))),(8,.one (.c (.p (.ns zaF zeQ 5 zbu)))),(64,.one (.c (.vec 21))),(65,.one (.c (.p (.int .i64 (zan.len:Int))))),(66,.one (.c (.p (.int .i64 za3))))],[(21,.vec 159 1 24 zgq zbX)],[]⟩
def zlo (K:List PA→Prop) (w:web) (zan:(Sl (Sl Tab))) (zaW:Int) (zaF:Bool) (zeQ:Nat) (zbu:Nat→List PV) (za3:Int) (zgq:Nat) (zbX:Nat→List PV):Prop:=vc Tryd.prog G89 zaY (cdF Tryd.f89 [1,0,1,1,1,1,1,1,0,1,0]) (zai 6 (sqK Tryd.prog G89 zaY (cdF Tryd.f89 [1,0,1,1,1,1,1,1,1]) (zcJ (zbo Tryd.prog Tryd.f89 K)))) (zfT w zan zaW zaF zeQ zbu za3 zgq zbX)
def zij (w:web) (zan:(Sl (Sl Tab))) (zbe:Int) (zaD:Bool) (zeR:Nat) (zb0:Nat→List PV) (zb1:Int) (iv6:Int) (zqf:Nat) (ze1:Nat→List PV) (zey:Int) (zaQ:Int) (kv6:Int) (zgr:Nat) (zcq:Nat→List PV) (zeS:Nat) (zb2:Nat→List PV):St:=⟨[(0,.one (.c (.p (.fp (zaC w) 0)))),(5,.one (.c (.p (.int .i64 zbe)))),(8,.one (.c (.p (.ns zaD zeR 5 zb0)))),(9,.one (.c (.ptr 9 0))),(10,.one (.c (.ptr 10 0))),(11,.one (.c (.ptr 11 0))),(12,.one (.c (.ptr 12 0))),(13,.one (.c (.ptr 13 0))),(14,.one (.c (.ptr 14 0))),(64,.one (.c (.vec 21))),(65,.one (.c (.p (.int .i64 (zan.len:Int))))),(66,.one (.c (.p (.int .i64 zb1))))],[(9,.box 3 [.p (.int .i64 iv6)]),(10,.box 159 [.p (.sl zqf 80 ze1)]),(11,.box 127 [.vec 129]),(12,.box 3 [.p (.int .i64 zey)]),(13,.box 3 [.p (.int .i64 zaQ)]),(14,.box 3 [.p (.int .i64 kv6)]),(21,.vec 159 1 24 zgr zcq),(129,.vec 130 5 40 zeS zb2)],[]⟩
def zlp (K:List PA→Prop) (X5:St→Prop) (w:web) (zan:(Sl (Sl Tab))) (zbe:Int) (zaD:Bool) (zeR:Nat) (zb0:Nat→List PV) (zb1:Int) (iv6:Int) (zqf:Nat) (ze1:Nat→List PV) (zey:Int) (zaQ:Int) (kv6:Int) (zgr:Nat) (zcq:Nat→List PV) (zeS:Nat) (zb2:Nat→List PV):Prop:=vc Tryd.prog G89 zaY (cdF Tryd.f89 [1,0,1,1,1,1,1,1,0,1,0,0,1,1,0,0,1,1,1,1,0,1,0]) (zai 8 (sqK Tryd.prog G89 zaY (cdF Tryd.f89 [1,0,1,1,1,1,1,1,0,1,0,0,1,1,0,0,1,1,1,1,1]) (zai 7 (sqK Tryd.prog G89 zaY (cdF Tryd.f89 [1,0,1,1,1,1,1,1,0,1,0,0,1,1,1]) (zbp Tryd.prog zaY 18 X5 (zai 6 (sqK Tryd.prog G89 zaY (cdF Tryd.f89 [1,0,1,1,1,1,1,1,1]) (zcJ (zbo Tryd.prog Tryd.f89 K))))))))) (zij w zan zbe zaD zeR zb0 zb1 iv6 zqf ze1 zey zaQ kv6 zgr zcq zeS zb2)
def zfU (w:web) (zan:(Sl (Sl Tab))) (zaR:Int) (zat:Bool) (zeT:Nat) (zce:Nat→List PV) (zbm:Int) (iv7:Int) (zqg:Nat) (zf2:Nat→List PV) (zcT:Int) (zaq:Int) (kv7:Int) (zgs:Nat) (zcU:Nat→List PV) (zeU:Nat) (zcf:Nat→List PV):St:=⟨[(0,.one (.c (.p (.fp (zaC w) 0)))),(5,.one (.c (.p (.int .i64 zaR)))),(8,.one (.c (.p (.ns zat zeT 5 zce)))),(9,.one (.c (.ptr 9 0))),(10,.one (.c (.ptr 10 0))),(11,.one (.c (.ptr 11 0))),(12,.one (.c (.ptr 12 0))),(13,.one (.c (.ptr 13 0))),(14,.one (.c (.ptr 14 0))),(64,.one (.c (.vec 21))),(65,.one (.c (.p (.int .i64 (zan.len:Int))))),(66,.one (.c (.p (.int .i64 zbm)))),(87,.one (.c (.p (.fn 110 [] [.fp [.fp (zaC w) 0] 0]))))],[(9,.box 3 [.p (.int .i64 iv7)]),(10,.box 159 [.p (.sl zqg 80 zf2)]),(11,.box 127 [.vec 129]),(12,.box 3 [.p (.int .i64 zcT)]),(13,.box 3 [.p (.int .i64 zaq)]),(14,.box 3 [.p (.int .i64 kv7)]),(21,.vec 159 1 24 zgs zcU),(129,.vec 130 5 40 zeU zcf)],[]⟩
def zlq (K:List PA→Prop) (X5:St→Prop) (X6:St→Prop) (w:web) (zan:(Sl (Sl Tab))) (zaR:Int) (zat:Bool) (zeT:Nat) (zce:Nat→List PV) (zbm:Int) (iv7:Int) (zqg:Nat) (zf2:Nat→List PV) (zcT:Int) (zaq:Int) (kv7:Int) (zgs:Nat) (zcU:Nat→List PV) (zeU:Nat) (zcf:Nat→List PV):Prop:=vc Tryd.prog G89 zaY (cdF Tryd.f89 [1,0,1,1,1,1,1,1,0,1,0,0,1,1,0,0,1,1,1,1,0,1,0,0,1,0,0,1,0]) (zai 10 (zai 9 (sqK Tryd.prog G89 zaY (cdF Tryd.f89 [1,0,1,1,1,1,1,1,0,1,0,0,1,1,0,0,1,1,1,1,0,1,0,0,1,1]) (zbp Tryd.prog zaY 24 X6 (zai 8 (sqK Tryd.prog G89 zaY (cdF Tryd.f89 [1,0,1,1,1,1,1,1,0,1,0,0,1,1,0,0,1,1,1,1,1]) (zai 7 (sqK Tryd.prog G89 zaY (cdF Tryd.f89 [1,0,1,1,1,1,1,1,0,1,0,0,1,1,1]) (zbp Tryd.prog zaY 18 X5 (zai 6 (sqK Tryd.prog G89 zaY (cdF Tryd.f89 [1,0,1,1,1,1,1,1,1]) (zcJ (zbo Tryd.prog Tryd.f89 K))))))))))))) (zfU w zan zaR zat zeT zce zbm iv7 zqg zf2 zcT zaq kv7 zgs zcU zeU zcf)
def zI4 (w:web) (zan:(Sl (Sl Tab))) (zdk:Int) (zcx:Bool) (zom:Nat) (zgO:Nat→List PV) (zfg:Int) (zeu:Bool) (zrQ:Nat) (ziR:Nat→List PV) (zon:Nat) (zgP:Nat→List PV):St:=⟨[(0,.one (.c (.p (.fp (zaC w) 0)))),(5,.one (.c (.p (.int .i64 zdk)))),(8,.one (.c (.p (.ns zcx zom 5 zgO)))),(11,.one (.c (.ptr 11 0))),(64,.one (.c (.vec 21))),(65,.one (.c (.p (.int .i64 (zan.len:Int))))),(66,.one (.c (.p (.int .i64 zfg)))),(144,.one (.c (.p (.bool zeu))))],[(11,.box 127 [.vec 129]),(21,.vec 159 1 24 zrQ ziR),(129,.vec 130 5 40 zon zgP)],[]⟩
def zlr (K:List PA→Prop) (X5:St→Prop) (w:web) (zan:(Sl (Sl Tab))) (zdk:Int) (zcx:Bool) (zom:Nat) (zgO:Nat→List PV) (zfg:Int) (zeu:Bool) (zrQ:Nat) (ziR:Nat→List PV) (zon:Nat) (zgP:Nat→List PV):Prop:=vc Tryd.prog G89 zaY (cdF Tryd.f89 [1,0,1,1,1,1,1,1,0,1,0,0,1,1,0,0,1,1,1,1,1,1]) (zai 7 (sqK Tryd.prog G89 zaY (cdF Tryd.f89 [1,0,1,1,1,1,1,1,0,1,0,0,1,1,1]) (zbp Tryd.prog zaY 18 X5 (zai 6 (sqK Tryd.prog G89 zaY (cdF Tryd.f89 [1,0,1,1,1,1,1,1,1]) (zcJ (zbo Tryd.prog Tryd.f89 K))))))) (zI4 w zan zdk zcx zom zgO zfg zeu zrQ ziR zon zgP)
theorem zFg (w : web) (K : List PA → Prop) :
  vcFun Tryd.prog G89 zaY 89 [.one (.fp (zaC w) 0)] K =
  (((0≤w.Net.Nodes∧w.Net.Nodes=w.Net.Nodes∧w.Net.Nodes≤1000000)) ∧
 (zlj K w (0:Int) w.Net.Nodes.toNat (fun _=>(zaG (⟨0,fun _=>(fun _=>(0:Int))⟩:(Sl Tab)))))):=by kernel_rfl
def zqh (K:List PA→Prop) (X0:St→Prop) (w:web) (zbx:Int) (zb6:(Sl (Sl Tab))):Prop :=
  (zbV (decide (zbx < (w.Net.Nodes.toNat : Int)))
 ((IsE zae 4 4 (fun i=>zae (w.Net.Ties.get i))∧((false,1,false,[none]):MQ)=(false,1,false,[none])∧(zIS w zbx w.Net.Nodes=true)) ∧
 (((0≤zbx∧zbx < (zb6.len:Int))) ∧
 (((zbx.toNat < zb6.len)) ∧
 (X0 (zli w (w64 (zbx+(1:Int))) zb6.len (zjR zbx.toNat 0 (fun i=>zaG (zb6.get i)) (zaG (zxW w zbx w.Net.Nodes))))))))
 (zol K w zb6.len (fun i=>zaG (zb6.get i))))
theorem zrR (K : List PA → Prop) (X0 : St → Prop) (w : web) (zbx : Int) (zb6 : (Sl (Sl Tab))) :
  vc Tryd.prog G89 zaY (cd (cdF Tryd.f89 [1,0,1,0,1,0]) [0]) (zbp Tryd.prog zaY 3 X0 (zai 0 (sqK Tryd.prog G89 zaY (cdF Tryd.f89 [1,0,1,1]) (zcJ (zbo Tryd.prog Tryd.f89 K))))) (zli w zbx zb6.len (fun i=>zaG (zb6.get i))) =
  zqh K X0 w zbx zb6:=by kernel_rfl
theorem zyc (K : List PA → Prop) (w : web) (zbx : Int) (zgp : Nat) (zcS : Nat → List PV)
  (h:∀ X0:St→Prop,(∀ (zbx:Int) (zb6:(Sl (Sl Tab))),zqh K X0 w zbx zb6→X0 (zli w zbx zb6.len (fun i=>zaG (zb6.get i))))→X0 (zli w zbx zgp zcS)) :
  zlj K w zbx zgp zcS:=by
  have e:zlj K w zbx zgp zcS=(∀ X:St→Prop,(∀ s,vc Tryd.prog G89 zaY (cd (cdF Tryd.f89 [1,0,1,0,1,0]) [0]) (zbp Tryd.prog zaY 3 X (zai 0 (sqK Tryd.prog G89 zaY (cdF Tryd.f89 [1,0,1,1]) (zcJ (zbo Tryd.prog Tryd.f89 K))))) s→X s)→X (zli w zbx zgp zcS)):=by kernel_rfl
  refine zbd e ?_
  intro X hX
  refine h X ?_
  intro zbx zb6 hs
  refine hX _ ?_
  have e2:=zrR K X w zbx zb6
  rw [e2]
  exact hs
theorem zFh (K : List PA → Prop) (w : web) (zaK : (Sl (Sl Tab))) :
  zol K w zaK.len (fun i=>zaG (zaK.get i)) =
  (zlk K w zaK (1:Int)):=by kernel_rfl
def zqi (K:List PA→Prop) (X2:St→Prop) (w:web) (zaK:(Sl (Sl Tab))) (zbg:Int):Prop :=
  (zbV (decide (zbg < w.Net.Nodes))
 (zlm K X2 w zaK zbg (0:Int))
 (zln K w zbg zaK.len (fun i=>zaG (zaK.get i))))
theorem zrS (K : List PA → Prop) (X2 : St → Prop) (w : web) (zaK : (Sl (Sl Tab))) (zbg : Int) :
  vc Tryd.prog G89 zaY (cd (cdF Tryd.f89 [1,0,1,1,1,1,0,1,0]) [0]) (zbp Tryd.prog zaY 9 X2 (zai 2 (sqK Tryd.prog G89 zaY (cdF Tryd.f89 [1,0,1,1,1,1,1]) (zcJ (zbo Tryd.prog Tryd.f89 K))))) (zjy w zaK zbg) =
  zqi K X2 w zaK zbg:=by kernel_rfl
theorem zyd (K : List PA → Prop) (w : web) (zaK : (Sl (Sl Tab))) (zbg : Int)
  (h:∀ X2:St→Prop,(∀ (zbg:Int),zqi K X2 w zaK zbg→X2 (zjy w zaK zbg))→X2 (zjy w zaK zbg)) :
  zlk K w zaK zbg:=by
  have e:zlk K w zaK zbg=(∀ X:St→Prop,(∀ s,vc Tryd.prog G89 zaY (cd (cdF Tryd.f89 [1,0,1,1,1,1,0,1,0]) [0]) (zbp Tryd.prog zaY 9 X (zai 2 (sqK Tryd.prog G89 zaY (cdF Tryd.f89 [1,0,1,1,1,1,1]) (zcJ (zbo Tryd.prog Tryd.f89 K))))) s→X s)→X (zjy w zaK zbg)):=by kernel_rfl
  refine zbd e ?_
  intro X hX
  refine h X ?_
  intro zbg hs
  refine hX _ ?_
  have e2:=zrS K X w zaK zbg
  rw [e2]
  exact hs
def zqj (K:List PA→Prop) (X2:St→Prop) (X3:St→Prop) (w:web) (zaK:(Sl (Sl Tab))) (za9:Int) (zbF:Int):Prop :=
  (zbV (decide (zbF < (zaK.len : Int)))
 (((0≤zbF∧zbF < (zaK.len:Int))) ∧
 (((zbF.toNat < zaK.len)) ∧
 (((0≤za9∧za9 < ((zaK.get zbF.toNat).len:Int))) ∧
 (((0≤zbF∧zbF < (40:Int))) ∧
 (zbV (decide ((tL ((zaK.get zbF.toNat).get za9.toNat) zbF) < (0:Int)))
 (zln K w za9 zaK.len (fun i=>zaG (zaK.get i)))
 (X3 (zll w zaK za9 (w64 (zbF+(1:Int))))))))))
 (X2 (zjy w zaK (w64 (za9+(1:Int))))))
theorem zrT (K : List PA → Prop) (X2 : St → Prop) (X3 : St → Prop) (w : web) (zaK : (Sl (Sl Tab))) (za9 : Int) (zbF : Int) :
  vc Tryd.prog G89 zaY (cd (cdF Tryd.f89 [1,0,1,1,1,1,0,1,0,0,1,0,0,1,0]) [0]) (zbp Tryd.prog zaY 12 X3 (zai 4 (zai 3 (sqK Tryd.prog G89 zaY (cdF Tryd.f89 [1,0,1,1,1,1,0,1,0,0,1,1]) (zbp Tryd.prog zaY 9 X2 (zai 2 (sqK Tryd.prog G89 zaY (cdF Tryd.f89 [1,0,1,1,1,1,1]) (zcJ (zbo Tryd.prog Tryd.f89 K))))))))) (zll w zaK za9 zbF) =
  zqj K X2 X3 w zaK za9 zbF:=by kernel_rfl
theorem zye (K : List PA → Prop) (X2 : St → Prop) (w : web) (zaK : (Sl (Sl Tab))) (za9 : Int) (zbF : Int)
  (h:∀ X3:St→Prop,(∀ (za9:Int) (zbF:Int),zqj K X2 X3 w zaK za9 zbF→X3 (zll w zaK za9 zbF))→X3 (zll w zaK za9 zbF)) :
  zlm K X2 w zaK za9 zbF:=by
  have e:zlm K X2 w zaK za9 zbF=(∀ X:St→Prop,(∀ s,vc Tryd.prog G89 zaY (cd (cdF Tryd.f89 [1,0,1,1,1,1,0,1,0,0,1,0,0,1,0]) [0]) (zbp Tryd.prog zaY 12 X (zai 4 (zai 3 (sqK Tryd.prog G89 zaY (cdF Tryd.f89 [1,0,1,1,1,1,0,1,0,0,1,1]) (zbp Tryd.prog zaY 9 X2 (zai 2 (sqK Tryd.prog G89 zaY (cdF Tryd.f89 [1,0,1,1,1,1,1]) (zcJ (zbo Tryd.prog Tryd.f89 K))))))))) s→X s)→X (zll w zaK za9 zbF)):=by kernel_rfl
  refine zbd e ?_
  intro X hX
  refine h X ?_
  intro za9 zbF hs
  refine hX _ ?_
  have e2:=zrT K X2 X w zaK za9 zbF
  rw [e2]
  exact hs
theorem zFi (K : List PA → Prop) (w : web) (zd2 : Int) (zan : (Sl (Sl Tab))) :
  zln K w zd2 zan.len (fun i=>zaG (zan.get i)) =
  (zlo K w zan zd2 true 0 (fun i=>zad ((fun _=>default) i)) (0:Int) zan.len (fun i=>zaG (zan.get i))):=by kernel_rfl
def zqk (K:List PA→Prop) (X5:St→Prop) (w:web) (zan:(Sl (Sl Tab))) (zaW:Int) (zaF:Bool) (zaZ:(Sl step)) (za3:Int) (zbn:(Sl (Sl Tab))):Prop :=
  (zbV (decide (za3 < (zan.len : Int)))
 (((0≤za3∧za3 < (zbn.len:Int))) ∧
 (((za3.toNat < zbn.len)) ∧
 (((0≤zaW∧zaW < ((zbn.get za3.toNat).len:Int))) ∧
 (((0≤za3∧za3 < (40:Int))) ∧
 (zbV (decide ((tL ((zbn.get za3.toNat).get zaW.toNat) za3) ≥ (0:Int)))
 (X5 (zfT w zan zaW zaF zaZ.len (fun i=>zad (zaZ.get i)) (w64 (za3+(1:Int))) zbn.len (fun i=>zaG (zbn.get i))))
 (zlp K X5 w zan zaW zaF zaZ.len (fun i=>zad (zaZ.get i)) za3 za3 ((zbn.get za3.toNat).len) (fun i=>zac ((zbn.get za3.toNat).get i)) za3 (0:Int) (w64 (zaW - (1:Int))) zbn.len (fun i=>zaG (zbn.get i)) 0 (fun i=>zad ((fun _=>default) i))))))))
 (K [.one (.sl zaZ.len 5 (fun i=>zad (zaZ.get i)))]))
theorem zrU (K : List PA → Prop) (X5 : St → Prop) (w : web) (zan : (Sl (Sl Tab))) (zaW : Int) (zaF : Bool) (zaZ : (Sl step)) (za3 : Int) (zbn : (Sl (Sl Tab))) :
  vc Tryd.prog G89 zaY (cd (cdF Tryd.f89 [1,0,1,1,1,1,1,1,0,1,0]) [0]) (zbp Tryd.prog zaY 18 X5 (zai 6 (sqK Tryd.prog G89 zaY (cdF Tryd.f89 [1,0,1,1,1,1,1,1,1]) (zcJ (zbo Tryd.prog Tryd.f89 K))))) (zfT w zan zaW zaF zaZ.len (fun i=>zad (zaZ.get i)) za3 zbn.len (fun i=>zaG (zbn.get i))) =
  zqk K X5 w zan zaW zaF zaZ za3 zbn:=by kernel_rfl
theorem zyf (K : List PA → Prop) (w : web) (zan : (Sl (Sl Tab))) (zaW : Int) (zaF : Bool) (zeQ : Nat) (zbu : Nat → List PV) (za3 : Int) (zgq : Nat) (zbX : Nat → List PV)
  (h:∀ X5:St→Prop,(∀ (zaW:Int) (zaF:Bool) (zaZ:(Sl step)) (za3:Int) (zbn:(Sl (Sl Tab))),zqk K X5 w zan zaW zaF zaZ za3 zbn→X5 (zfT w zan zaW zaF zaZ.len (fun i=>zad (zaZ.get i)) za3 zbn.len (fun i=>zaG (zbn.get i))))→X5 (zfT w zan zaW zaF zeQ zbu za3 zgq zbX)) :
  zlo K w zan zaW zaF zeQ zbu za3 zgq zbX:=by
  have e:zlo K w zan zaW zaF zeQ zbu za3 zgq zbX=(∀ X:St→Prop,(∀ s,vc Tryd.prog G89 zaY (cd (cdF Tryd.f89 [1,0,1,1,1,1,1,1,0,1,0]) [0]) (zbp Tryd.prog zaY 18 X (zai 6 (sqK Tryd.prog G89 zaY (cdF Tryd.f89 [1,0,1,1,1,1,1,1,1]) (zcJ (zbo Tryd.prog Tryd.f89 K))))) s→X s)→X (zfT w zan zaW zaF zeQ zbu za3 zgq zbX)):=by kernel_rfl
  refine zbd e ?_
  intro X hX
  refine h X ?_
  intro zaW zaF zaZ za3 zbn hs
  refine hX _ ?_
  have e2:=zrU K X w zan zaW zaF zaZ za3 zbn
  rw [e2]
  exact hs
def zql (K:List PA→Prop) (X5:St→Prop) (X6:St→Prop) (w:web) (zan:(Sl (Sl Tab))) (zbe:Int) (zaD:Bool) (zaX:(Sl step)) (zb1:Int) (iv6:Int) (hv6:(Sl Tab)) (zey:Int) (zaQ:Int) (kv6:Int) (zbS:(Sl (Sl Tab))) (za0:(Sl step)):Prop :=
  (zbV (decide (kv6 ≥ (0:Int)))
 ((IsE zae 4 4 (fun i=>zae (w.Net.Ties.get i))∧((false,1,false,[none]):MQ)=(false,1,false,[none])) ∧
 (zlq K X5 X6 w zan zbe zaD zaX.len (fun i=>zad (zaX.get i)) zb1 iv6 hv6.len (fun i=>zac (hv6.get i)) zey zaQ kv6 zbS.len (fun i=>zaG (zbS.get i)) za0.len (fun i=>zad (za0.get i))))
 (((zaD=true∨zaX.len ≠ 0)) ∧
 (zbV zaD
 (zlr K X5 w zan zbe zaD zaX.len (fun i=>zad (zaX.get i)) zb1 true zbS.len (fun i=>zaG (zbS.get i)) za0.len (fun i=>zad (za0.get i)))
 ((IsE zad 5 5 (fun i=>zad (za0.get i))∧IsE zad 5 5 (fun i=>zad (zaX.get i))∧(zKp za0 zaX=true)) ∧
 (zlr K X5 w zan zbe zaD zaX.len (fun i=>zad (zaX.get i)) zb1 (decide ((zHK za0 zaX) < (0:Int))) zbS.len (fun i=>zaG (zbS.get i)) za0.len (fun i=>zad (za0.get i)))))))
theorem zrV (K : List PA → Prop) (X5 : St → Prop) (X6 : St → Prop) (w : web) (zan : (Sl (Sl Tab))) (zbe : Int) (zaD : Bool) (zaX : (Sl step)) (zb1 : Int) (iv6 : Int) (hv6 : (Sl Tab)) (zey : Int) (zaQ : Int) (kv6 : Int) (zbS : (Sl (Sl Tab))) (za0 : (Sl step)) :
  vc Tryd.prog G89 zaY (cd (cdF Tryd.f89 [1,0,1,1,1,1,1,1,0,1,0,0,1,1,0,0,1,1,1,1,0,1,0]) [0]) (zbp Tryd.prog zaY 24 X6 (zai 8 (sqK Tryd.prog G89 zaY (cdF Tryd.f89 [1,0,1,1,1,1,1,1,0,1,0,0,1,1,0,0,1,1,1,1,1]) (zai 7 (sqK Tryd.prog G89 zaY (cdF Tryd.f89 [1,0,1,1,1,1,1,1,0,1,0,0,1,1,1]) (zbp Tryd.prog zaY 18 X5 (zai 6 (sqK Tryd.prog G89 zaY (cdF Tryd.f89 [1,0,1,1,1,1,1,1,1]) (zcJ (zbo Tryd.prog Tryd.f89 K)))))))))) (zij w zan zbe zaD zaX.len (fun i=>zad (zaX.get i)) zb1 iv6 hv6.len (fun i=>zac (hv6.get i)) zey zaQ kv6 zbS.len (fun i=>zaG (zbS.get i)) za0.len (fun i=>zad (za0.get i))) =
  zql K X5 X6 w zan zbe zaD zaX zb1 iv6 hv6 zey zaQ kv6 zbS za0:=by kernel_rfl
theorem zyg (K : List PA → Prop) (X5 : St → Prop) (w : web) (zan : (Sl (Sl Tab))) (zbe : Int) (zaD : Bool) (zeR : Nat) (zb0 : Nat → List PV) (zb1 : Int) (iv6 : Int) (zqf : Nat) (ze1 : Nat → List PV) (zey : Int) (zaQ : Int) (kv6 : Int) (zgr : Nat) (zcq : Nat → List PV) (zeS : Nat) (zb2 : Nat → List PV)
  (h:∀ X6:St→Prop,(∀ (zbe:Int) (zaD:Bool) (zaX:(Sl step)) (zb1:Int) (iv6:Int) (hv6:(Sl Tab)) (zey:Int) (zaQ:Int) (kv6:Int) (zbS:(Sl (Sl Tab))) (za0:(Sl step)),zql K X5 X6 w zan zbe zaD zaX zb1 iv6 hv6 zey zaQ kv6 zbS za0→X6 (zij w zan zbe zaD zaX.len (fun i=>zad (zaX.get i)) zb1 iv6 hv6.len (fun i=>zac (hv6.get i)) zey zaQ kv6 zbS.len (fun i=>zaG (zbS.get i)) za0.len (fun i=>zad (za0.get i))))→X6 (zij w zan zbe zaD zeR zb0 zb1 iv6 zqf ze1 zey zaQ kv6 zgr zcq zeS zb2)) :
  zlp K X5 w zan zbe zaD zeR zb0 zb1 iv6 zqf ze1 zey zaQ kv6 zgr zcq zeS zb2:=by
  have e:zlp K X5 w zan zbe zaD zeR zb0 zb1 iv6 zqf ze1 zey zaQ kv6 zgr zcq zeS zb2=(∀ X:St→Prop,(∀ s,vc Tryd.prog G89 zaY (cd (cdF Tryd.f89 [1,0,1,1,1,1,1,1,0,1,0,0,1,1,0,0,1,1,1,1,0,1,0]) [0]) (zbp Tryd.prog zaY 24 X (zai 8 (sqK Tryd.prog G89 zaY (cdF Tryd.f89 [1,0,1,1,1,1,1,1,0,1,0,0,1,1,0,0,1,1,1,1,1]) (zai 7 (sqK Tryd.prog G89 zaY (cdF Tryd.f89 [1,0,1,1,1,1,1,1,0,1,0,0,1,1,1]) (zbp Tryd.prog zaY 18 X5 (zai 6 (sqK Tryd.prog G89 zaY (cdF Tryd.f89 [1,0,1,1,1,1,1,1,1]) (zcJ (zbo Tryd.prog Tryd.f89 K)))))))))) s→X s)→X (zij w zan zbe zaD zeR zb0 zb1 iv6 zqf ze1 zey zaQ kv6 zgr zcq zeS zb2)):=by kernel_rfl
  refine zbd e ?_
  intro X hX
  refine h X ?_
  intro zbe zaD zaX zb1 iv6 hv6 zey zaQ kv6 zbS za0 hs
  refine hX _ ?_
  have e2:=zrV K X5 X w zan zbe zaD zaX zb1 iv6 hv6 zey zaQ kv6 zbS za0
  rw [e2]
  exact hs
def zqm (K:List PA→Prop) (X5:St→Prop) (X6:St→Prop) (w:web) (zan:(Sl (Sl Tab))) (zaR:Int) (zat:Bool) (zaM:(Sl step)) (zbm:Int) (iv7:Int) (hv7:(Sl Tab)) (zcT:Int) (zaq:Int) (kv7:Int) (zba:(Sl (Sl Tab))) (zaE:(Sl step)):Prop :=
  (X6 (zij w zan zaR zat zaM.len (fun i=>zad (zaM.get i)) zbm iv7 hv7.len (fun i=>zac (hv7.get i)) zcT zaq (w64 (kv7 - (1:Int))) zba.len (fun i=>zaG (zba.get i)) zaE.len (fun i=>zad (zaE.get i))))
def zqn (K:List PA→Prop) (X5:St→Prop) (X6:St→Prop) (X7:List (List PA)→St→Prop) (y7:step) (rest7:List (List PA)) (w:web) (zan:(Sl (Sl Tab))) (zaR:Int) (zat:Bool) (zaM:(Sl step)) (zbm:Int) (iv7:Int) (hv7:(Sl Tab)) (zcT:Int) (zaq:Int) (kv7:Int) (zba:(Sl (Sl Tab))) (zaE:(Sl step)):Prop :=
  (zbV (y7.from_ == zcT)
 (zbV (decide (y7.to ≥ iv7))
 (((0≤kv7∧kv7 < (hv7.len:Int))) ∧
 (((0≤y7.to∧y7.to < (40:Int))) ∧
 (zbV (!(nvr (tL (hv7.get kv7.toNat) y7.to) (tU (hv7.get kv7.toNat) y7.to)))
 (((0≤kv7∧kv7 < (hv7.len:Int))) ∧
 (((0≤y7.to∧y7.to < (40:Int))) ∧
 (zbV (decide ((w64 ((w64 (zaq + y7.length)) + (tL (hv7.get kv7.toNat) y7.to))) < (0:Int)))
 ((((zaE.len+1) * 40≤140737488355328∧zaE.len+1≤9223372036854775807)) ∧
 (X6 (zij w zan zaR zat zaM.len (fun i=>zad (zaM.get i)) zbm iv7 hv7.len (fun i=>zac (hv7.get i)) y7.to (w64 (zaq+y7.length)) (w64 (kv7 - (1:Int))) zba.len (fun i=>zaG (zba.get i)) (zaE.len+1) (appG zaE.len (fun i=>zad (zaE.get i)) (fun _=>(zad y7))))))
 (X7 rest7 (zfU w zan zaR zat zaM.len (fun i=>zad (zaM.get i)) zbm iv7 hv7.len (fun i=>zac (hv7.get i)) zcT zaq kv7 zba.len (fun i=>zaG (zba.get i)) zaE.len (fun i=>zad (zaE.get i)))))))
 (X7 rest7 (zfU w zan zaR zat zaM.len (fun i=>zad (zaM.get i)) zbm iv7 hv7.len (fun i=>zac (hv7.get i)) zcT zaq kv7 zba.len (fun i=>zaG (zba.get i)) zaE.len (fun i=>zad (zaE.get i)))))))
 (X7 rest7 (zfU w zan zaR zat zaM.len (fun i=>zad (zaM.get i)) zbm iv7 hv7.len (fun i=>zac (hv7.get i)) zcT zaq kv7 zba.len (fun i=>zaG (zba.get i)) zaE.len (fun i=>zad (zaE.get i)))))
 (X7 rest7 (zfU w zan zaR zat zaM.len (fun i=>zad (zaM.get i)) zbm iv7 hv7.len (fun i=>zac (hv7.get i)) zcT zaq kv7 zba.len (fun i=>zaG (zba.get i)) zaE.len (fun i=>zad (zaE.get i)))))
theorem zrW (K:List PA→Prop) (X5:St→Prop) (X6:St→Prop) (w:web) (zan:(Sl (Sl Tab))) (zaR:Int) (zat:Bool) (zaM:(Sl step)) (zbm:Int) (iv7:Int) (hv7:(Sl Tab)) (zcT:Int) (zaq:Int) (kv7:Int) (zba:(Sl (Sl Tab))) (zaE:(Sl step)):(zai 10 (zai 9 (sqK Tryd.prog G89 zaY (cdF Tryd.f89 [1,0,1,1,1,1,1,1,0,1,0,0,1,1,0,0,1,1,1,1,0,1,0,0,1,1]) (zbp Tryd.prog zaY 24 X6 (zai 8 (sqK Tryd.prog G89 zaY (cdF Tryd.f89 [1,0,1,1,1,1,1,1,0,1,0,0,1,1,0,0,1,1,1,1,1]) (zai 7 (sqK Tryd.prog G89 zaY (cdF Tryd.f89 [1,0,1,1,1,1,1,1,0,1,0,0,1,1,1]) (zbp Tryd.prog zaY 18 X5 (zai 6 (sqK Tryd.prog G89 zaY (cdF Tryd.f89 [1,0,1,1,1,1,1,1,1]) (zcJ (zbo Tryd.prog Tryd.f89 K))))))))))))) .normal (zfU w zan zaR zat zaM.len (fun i=>zad (zaM.get i)) zbm iv7 hv7.len (fun i=>zac (hv7.get i)) zcT zaq kv7 zba.len (fun i=>zaG (zba.get i)) zaE.len (fun i=>zad (zaE.get i)))=zqm K X5 X6 w zan zaR zat zaM zbm iv7 hv7 zcT zaq kv7 zba zaE:=by kernel_rfl
theorem zrX (K : List PA → Prop) (X5 : St → Prop) (X6 : St → Prop) (X7 : List (List PA) → St → Prop) (y7 : step) (rest7 : List (List PA)) (w : web) (zan : (Sl (Sl Tab))) (zaR : Int) (zat : Bool) (zaM : (Sl step)) (zbm : Int) (iv7 : Int) (hv7 : (Sl Tab)) (zcT : Int) (zaq : Int) (kv7 : Int) (zba : (Sl (Sl Tab))) (zaE : (Sl step)) :
  zv1 Tryd.prog G89 zaY 27 [88] (cd (cdF Tryd.f89 [1,0,1,1,1,1,1,1,0,1,0,0,1,1,0,0,1,1,1,1,0,1,0,0,1,0,0,1,0]) [0]) (cd (cdF Tryd.f89 [1,0,1,1,1,1,1,1,0,1,0,0,1,1,0,0,1,1,1,1,0,1,0,0,1,0,0,1,0]) [1]) X7 (zai 10 (zai 9 (sqK Tryd.prog G89 zaY (cdF Tryd.f89 [1,0,1,1,1,1,1,1,0,1,0,0,1,1,0,0,1,1,1,1,0,1,0,0,1,1]) (zbp Tryd.prog zaY 24 X6 (zai 8 (sqK Tryd.prog G89 zaY (cdF Tryd.f89 [1,0,1,1,1,1,1,1,0,1,0,0,1,1,0,0,1,1,1,1,1]) (zai 7 (sqK Tryd.prog G89 zaY (cdF Tryd.f89 [1,0,1,1,1,1,1,1,0,1,0,0,1,1,1]) (zbp Tryd.prog zaY 18 X5 (zai 6 (sqK Tryd.prog G89 zaY (cdF Tryd.f89 [1,0,1,1,1,1,1,1,1]) (zcJ (zbo Tryd.prog Tryd.f89 K))))))))))))) [.agg (zad y7)] rest7 (zfU w zan zaR zat zaM.len (fun i=>zad (zaM.get i)) zbm iv7 hv7.len (fun i=>zac (hv7.get i)) zcT zaq kv7 zba.len (fun i=>zaG (zba.get i)) zaE.len (fun i=>zad (zaE.get i)))=zqn K X5 X6 X7 y7 rest7 w zan zaR zat zaM zbm iv7 hv7 zcT zaq kv7 zba zaE:=by kernel_rfl
theorem zyh (K : List PA → Prop) (X5 : St → Prop) (X6 : St → Prop) (w : web) (zan : (Sl (Sl Tab))) (zaR : Int) (zat : Bool) (zeT : Nat) (zce : Nat → List PV) (zbm : Int) (iv7 : Int) (zqg : Nat) (zf2 : Nat → List PV) (zcT : Int) (zaq : Int) (kv7 : Int) (zgs : Nat) (zcU : Nat → List PV) (zeU : Nat) (zcf : Nat → List PV)
  (hsafe:IsE zae 4 4 (fun i=>zae (w.Net.Ties.get i))∧((false,1,false,[none]):MQ)=(false,1,false,[none])∧(zmy w=true)) (h:∀ X7:List (List PA)→St→Prop,(∀ (zaR:Int) (zat:Bool) (zaM:(Sl step)) (zbm:Int) (iv7:Int) (hv7:(Sl Tab)) (zcT:Int) (zaq:Int) (kv7:Int) (zba:(Sl (Sl Tab))) (zaE:(Sl step)),zqm K X5 X6 w zan zaR zat zaM zbm iv7 hv7 zcT zaq kv7 zba zaE→X7 [] (zfU w zan zaR zat zaM.len (fun i=>zad (zaM.get i)) zbm iv7 hv7.len (fun i=>zac (hv7.get i)) zcT zaq kv7 zba.len (fun i=>zaG (zba.get i)) zaE.len (fun i=>zad (zaE.get i))))→(∀ (y:step) (rest:List (List PA)) (zaR:Int) (zat:Bool) (zaM:(Sl step)) (zbm:Int) (iv7:Int) (hv7:(Sl Tab)) (zcT:Int) (zaq:Int) (kv7:Int) (zba:(Sl (Sl Tab))) (zaE:(Sl step)),zqn K X5 X6 X7 y rest w zan zaR zat zaM zbm iv7 hv7 zcT zaq kv7 zba zaE→X7 ([.agg (zad y)] :: rest) (zfU w zan zaR zat zaM.len (fun i=>zad (zaM.get i)) zbm iv7 hv7.len (fun i=>zac (hv7.get i)) zcT zaq kv7 zba.len (fun i=>zaG (zba.get i)) zaE.len (fun i=>zad (zaE.get i))))→X7 ((ziJ w).map fun y=>[.agg (zad y)]) (zfU w zan zaR zat zeT zce zbm iv7 zqg zf2 zcT zaq kv7 zgs zcU zeU zcf)) :
  zlq K X5 X6 w zan zaR zat zeT zce zbm iv7 zqg zf2 zcT zaq kv7 zgs zcU zeU zcf:=by
  have e:zlq K X5 X6 w zan zaR zat zeT zce zbm iv7 zqg zf2 zcT zaq kv7 zgs zcU zeU zcf=((IsE zae 4 4 (fun i=>zae (w.Net.Ties.get i))∧((false,1,false,[none]):MQ)=(false,1,false,[none])∧(zmy w=true))∧∀ X:List (List PA)→St→Prop,(∀ s,(zai 10 (zai 9 (sqK Tryd.prog G89 zaY (cdF Tryd.f89 [1,0,1,1,1,1,1,1,0,1,0,0,1,1,0,0,1,1,1,1,0,1,0,0,1,1]) (zbp Tryd.prog zaY 24 X6 (zai 8 (sqK Tryd.prog G89 zaY (cdF Tryd.f89 [1,0,1,1,1,1,1,1,0,1,0,0,1,1,0,0,1,1,1,1,1]) (zai 7 (sqK Tryd.prog G89 zaY (cdF Tryd.f89 [1,0,1,1,1,1,1,1,0,1,0,0,1,1,1]) (zbp Tryd.prog zaY 18 X5 (zai 6 (sqK Tryd.prog G89 zaY (cdF Tryd.f89 [1,0,1,1,1,1,1,1,1]) (zcJ (zbo Tryd.prog Tryd.f89 K))))))))))))) .normal s→X [] s)→(∀ y rest s,zv1 Tryd.prog G89 zaY 27 [88] (cd (cdF Tryd.f89 [1,0,1,1,1,1,1,1,0,1,0,0,1,1,0,0,1,1,1,1,0,1,0,0,1,0,0,1,0]) [0]) (cd (cdF Tryd.f89 [1,0,1,1,1,1,1,1,0,1,0,0,1,1,0,0,1,1,1,1,0,1,0,0,1,0,0,1,0]) [1]) X (zai 10 (zai 9 (sqK Tryd.prog G89 zaY (cdF Tryd.f89 [1,0,1,1,1,1,1,1,0,1,0,0,1,1,0,0,1,1,1,1,0,1,0,0,1,1]) (zbp Tryd.prog zaY 24 X6 (zai 8 (sqK Tryd.prog G89 zaY (cdF Tryd.f89 [1,0,1,1,1,1,1,1,0,1,0,0,1,1,0,0,1,1,1,1,1]) (zai 7 (sqK Tryd.prog G89 zaY (cdF Tryd.f89 [1,0,1,1,1,1,1,1,0,1,0,0,1,1,1]) (zbp Tryd.prog zaY 18 X5 (zai 6 (sqK Tryd.prog G89 zaY (cdF Tryd.f89 [1,0,1,1,1,1,1,1,1]) (zcJ (zbo Tryd.prog Tryd.f89 K))))))))))))) y rest s→X (y :: rest) s)→X ((ziJ w).map fun y=>[.agg (zad y)]) (zfU w zan zaR zat zeT zce zbm iv7 zqg zf2 zcT zaq kv7 zgs zcU zeU zcf)):=by kernel_rfl
  refine zbd e ⟨hsafe,?_⟩
  intro X h0 h1
  refine h X (fun zaR zat zaM zbm iv7 hv7 zcT zaq kv7 zba zaE hs=>h0 _ ?_) (fun y rest zaR zat zaM zbm iv7 hv7 zcT zaq kv7 zba zaE hs=>h1 _ rest _ ?_)
  · rw [zrW K X5 X6 w zan zaR zat zaM zbm iv7 hv7 zcT zaq kv7 zba zaE];exact hs
  · have e2 := zrX K X5 X6 X y rest w zan zaR zat zaM zbm iv7 hv7 zcT zaq kv7 zba zaE
    rw [e2];exact hs
theorem zFj (K : List PA → Prop) (X5 : St → Prop) (w : web) (zan : (Sl (Sl Tab))) (zdk : Int) (zcx : Bool) (zd3 : (Sl step)) (zfg : Int) (zeu : Bool) (zeC : (Sl (Sl Tab))) (zd4 : (Sl step)) :
  zlr K X5 w zan zdk zcx zd3.len (fun i=>zad (zd3.get i)) zfg zeu zeC.len (fun i=>zaG (zeC.get i)) zd4.len (fun i=>zad (zd4.get i)) =
  (zbV zeu
 (X5 (zfT w zan zdk false zd4.len (fun i=>zad (zd4.get i)) (w64 (zfg+(1:Int))) zeC.len (fun i=>zaG (zeC.get i))))
 (X5 (zfT w zan zdk zcx zd3.len (fun i=>zad (zd3.get i)) (w64 (zfg+(1:Int))) zeC.len (fun i=>zaG (zeC.get i))))):=by kernel_rfl
abbrev e89 (r:(Sl step)):List PA:=[.one (.sl r.len 5 (fun i=>zad (r.get i)))]
attribute [irreducible] zlj zol zlk zlm zln zlo zlp zlq zlr
def zoo (S5:Int→Bool→(Sl step)→Int→(Sl (Sl Tab))→(Sl step)) (w:web) (zan:(Sl (Sl Tab))) (zdk:Int) (zcx:Bool) (zd3:(Sl step)) (zfg:Int) (zeu:Bool) (zeC:(Sl (Sl Tab))) (zd4:(Sl step)):(Sl step) :=
  (cond zeu
 (S5 zdk false zd4 (w64 (zfg+(1:Int))) zeC)
 (S5 zdk zcx zd3 (w64 (zfg+(1:Int))) zeC))
def zop (P5:Int→Bool→(Sl step)→Int→(Sl (Sl Tab))→Bool) (w:web) (zan:(Sl (Sl Tab))) (zdk:Int) (zcx:Bool) (zd3:(Sl step)) (zfg:Int) (zeu:Bool) (zeC:(Sl (Sl Tab))) (zd4:(Sl step)):Bool :=
  (cond zeu
 (P5 zdk false zd4 (w64 (zfg+(1:Int))) zeC)
 (P5 zdk zcx zd3 (w64 (zfg+(1:Int))) zeC))
theorem zyi (K : List PA → Prop) (w : web) (zan : (Sl (Sl Tab)))
  (X5:St→Prop) (P5:Int→Bool→(Sl step)→Int→(Sl (Sl Tab))→Bool) (S5:Int→Bool→(Sl step)→Int→(Sl (Sl Tab))→(Sl step))
  (hX5:∀ (zaW:Int) (zaF:Bool) (zaZ:(Sl step)) (za3:Int) (zbn:(Sl (Sl Tab))) (zbu:Nat→List PV) (zeV:zbu=fun i=>zad (zaZ.get i)) (zbX:Nat→List PV) (zgt:zbX=fun i=>zaG (zbn.get i)),P5 zaW zaF zaZ za3 zbn=true→K (e89 (S5 zaW zaF zaZ za3 zbn))→X5 (zfT w zan zaW zaF zaZ.len zbu za3 zbn.len zbX)) (zdk:Int) (zcx:Bool) (zd3:(Sl step)) (zfg:Int) (zeu:Bool) (zeC:(Sl (Sl Tab))) (zd4:(Sl step)) (zgO:Nat→List PV) (zCA:zgO=fun i=>zad (zd3.get i)) (ziR:Nat→List PV) (zFk:ziR=fun i=>zaG (zeC.get i)) (zgP:Nat→List PV) (zCB:zgP=fun i=>zad (zd4.get i)) (hs:zop P5 w zan zdk zcx zd3 zfg zeu zeC zd4=true) (hk:K (e89 (zoo S5 w zan zdk zcx zd3 zfg zeu zeC zd4))):zlr K X5 w zan zdk zcx zd3.len zgO zfg zeu zeC.len ziR zd4.len zgP:=by
  subst zCA
  subst zFk
  subst zCB
  refine zbd (zFj K X5 w zan zdk zcx zd3 zfg zeu zeC zd4) ?_
  unfold zop at hs
  unfold zoo at hk
  exact (za2 (K := fun r => K (e89 r))
 (fun hs hk=>(hX5 zdk false zd4 (w64 (zfg+(1:Int))) zeC (fun i=>zad (zd4.get i)) rfl (fun i=>zaG (zeC.get i)) rfl hs hk))
 (fun hs hk=>(hX5 zdk zcx zd3 (w64 (zfg+(1:Int))) zeC (fun i=>zad (zd3.get i)) rfl (fun i=>zaG (zeC.get i)) rfl hs hk)) hs hk)
def zrY (S5:Int→Bool→(Sl step)→Int→(Sl (Sl Tab))→(Sl step)) (S6:Int→Bool→(Sl step)→Int→Int→(Sl Tab)→Int→Int→Int→(Sl (Sl Tab))→(Sl step)→(Sl step)) (w:web) (zan:(Sl (Sl Tab))) (zaR:Int) (zat:Bool) (zaM:(Sl step)) (zbm:Int) (iv7:Int) (hv7:(Sl Tab)) (zcT:Int) (zaq:Int) (kv7:Int) (zba:(Sl (Sl Tab))) (zaE:(Sl step)):(Sl step) :=
  (S6 zaR zat zaM zbm iv7 hv7 zcT zaq (w64 (kv7 - (1:Int))) zba zaE)
def zrZ (P5:Int→Bool→(Sl step)→Int→(Sl (Sl Tab))→Bool) (P6:Int→Bool→(Sl step)→Int→Int→(Sl Tab)→Int→Int→Int→(Sl (Sl Tab))→(Sl step)→Bool) (w:web) (zan:(Sl (Sl Tab))) (zaR:Int) (zat:Bool) (zaM:(Sl step)) (zbm:Int) (iv7:Int) (hv7:(Sl Tab)) (zcT:Int) (zaq:Int) (kv7:Int) (zba:(Sl (Sl Tab))) (zaE:(Sl step)):Bool :=
  (P6 zaR zat zaM zbm iv7 hv7 zcT zaq (w64 (kv7 - (1:Int))) zba zaE)
def zr0 (S5:Int→Bool→(Sl step)→Int→(Sl (Sl Tab))→(Sl step)) (S6:Int→Bool→(Sl step)→Int→Int→(Sl Tab)→Int→Int→Int→(Sl (Sl Tab))→(Sl step)→(Sl step)) (w:web) (zan:(Sl (Sl Tab))) (y7:step) (S7:Int→Bool→(Sl step)→Int→Int→(Sl Tab)→Int→Int→Int→(Sl (Sl Tab))→(Sl step)→(Sl step)) (zaR:Int) (zat:Bool) (zaM:(Sl step)) (zbm:Int) (iv7:Int) (hv7:(Sl Tab)) (zcT:Int) (zaq:Int) (kv7:Int) (zba:(Sl (Sl Tab))) (zaE:(Sl step)):(Sl step) :=
  (cond (y7.from_ == zcT)
 (cond (decide (y7.to ≥ iv7))
 (cond (!(nvr (tL (hv7.get kv7.toNat) y7.to) (tU (hv7.get kv7.toNat) y7.to)))
 (cond (decide ((w64 ((w64 (zaq + y7.length)) + (tL (hv7.get kv7.toNat) y7.to))) < (0:Int)))
 (S6 zaR zat zaM zbm iv7 hv7 y7.to (w64 (zaq+y7.length)) (w64 (kv7 - (1:Int))) zba (⟨(zaE.len+1),(zms zaE.len zaE.get (fun _=>y7))⟩:Sl step))
 (S7 zaR zat zaM zbm iv7 hv7 zcT zaq kv7 zba zaE))
 (S7 zaR zat zaM zbm iv7 hv7 zcT zaq kv7 zba zaE))
 (S7 zaR zat zaM zbm iv7 hv7 zcT zaq kv7 zba zaE))
 (S7 zaR zat zaM zbm iv7 hv7 zcT zaq kv7 zba zaE))
def zr1 (P5:Int→Bool→(Sl step)→Int→(Sl (Sl Tab))→Bool) (P6:Int→Bool→(Sl step)→Int→Int→(Sl Tab)→Int→Int→Int→(Sl (Sl Tab))→(Sl step)→Bool) (w:web) (zan:(Sl (Sl Tab))) (y7:step) (P7:Int→Bool→(Sl step)→Int→Int→(Sl Tab)→Int→Int→Int→(Sl (Sl Tab))→(Sl step)→Bool) (zaR:Int) (zat:Bool) (zaM:(Sl step)) (zbm:Int) (iv7:Int) (hv7:(Sl Tab)) (zcT:Int) (zaq:Int) (kv7:Int) (zba:(Sl (Sl Tab))) (zaE:(Sl step)):Bool :=
  (cond (y7.from_ == zcT)
 (cond (decide (y7.to ≥ iv7))
 (decide ((0≤kv7∧kv7 < (hv7.len:Int))) &&
 (decide ((0≤y7.to∧y7.to < (40:Int))) &&
 (cond (!(nvr (tL (hv7.get kv7.toNat) y7.to) (tU (hv7.get kv7.toNat) y7.to)))
 (decide ((0≤kv7∧kv7 < (hv7.len:Int))) &&
 (decide ((0≤y7.to∧y7.to < (40:Int))) &&
 (cond (decide ((w64 ((w64 (zaq + y7.length)) + (tL (hv7.get kv7.toNat) y7.to))) < (0:Int)))
 (decide (((zaE.len+1) * 40≤140737488355328∧zaE.len+1≤9223372036854775807)) &&
 (P6 zaR zat zaM zbm iv7 hv7 y7.to (w64 (zaq+y7.length)) (w64 (kv7 - (1:Int))) zba (⟨(zaE.len+1),(zms zaE.len zaE.get (fun _=>y7))⟩:Sl step)))
 (P7 zaR zat zaM zbm iv7 hv7 zcT zaq kv7 zba zaE))))
 (P7 zaR zat zaM zbm iv7 hv7 zcT zaq kv7 zba zaE))))
 (P7 zaR zat zaM zbm iv7 hv7 zcT zaq kv7 zba zaE))
 (P7 zaR zat zaM zbm iv7 hv7 zcT zaq kv7 zba zaE))
def zls (S5 : Int → Bool → (Sl step) → Int → (Sl (Sl Tab)) → (Sl step)) (S6 : Int → Bool → (Sl step) → Int → Int → (Sl Tab) → Int → Int → Int → (Sl (Sl Tab)) → (Sl step) → (Sl step)) (w : web) (zan : (Sl (Sl Tab))) : List step → Int → Bool → (Sl step) → Int → Int → (Sl Tab) → Int → Int → Int → (Sl (Sl Tab)) → (Sl step) → (Sl step)
  | []=>zrY S5 S6 w zan
  | y :: r=>zr0 S5 S6 w zan y (zls S5 S6 w zan r)
def zlt (P5 : Int → Bool → (Sl step) → Int → (Sl (Sl Tab)) → Bool) (P6 : Int → Bool → (Sl step) → Int → Int → (Sl Tab) → Int → Int → Int → (Sl (Sl Tab)) → (Sl step) → Bool) (w : web) (zan : (Sl (Sl Tab))) : List step → Int → Bool → (Sl step) → Int → Int → (Sl Tab) → Int → Int → Int → (Sl (Sl Tab)) → (Sl step) → Bool
  | []=>zrZ P5 P6 w zan
  | y :: r=>zr1 P5 P6 w zan y (zlt P5 P6 w zan r)
def zyj (S5:Int→Bool→(Sl step)→Int→(Sl (Sl Tab))→(Sl step)) (S6:Int→Bool→(Sl step)→Int→Int→(Sl Tab)→Int→Int→Int→(Sl (Sl Tab))→(Sl step)→(Sl step)) (w:web) (zan:(Sl (Sl Tab))) (zaR:Int) (zat:Bool) (zaM:(Sl step)) (zbm:Int) (iv7:Int) (hv7:(Sl Tab)) (zcT:Int) (zaq:Int) (kv7:Int) (zba:(Sl (Sl Tab))) (zaE:(Sl step)):(Sl step):=zls S5 S6 w zan (ziJ w) zaR zat zaM zbm iv7 hv7 zcT zaq kv7 zba zaE
def zr2 (P5:Int→Bool→(Sl step)→Int→(Sl (Sl Tab))→Bool) (P6:Int→Bool→(Sl step)→Int→Int→(Sl Tab)→Int→Int→Int→(Sl (Sl Tab))→(Sl step)→Bool) (w:web) (zan:(Sl (Sl Tab))) (zaR:Int) (zat:Bool) (zaM:(Sl step)) (zbm:Int) (iv7:Int) (hv7:(Sl Tab)) (zcT:Int) (zaq:Int) (kv7:Int) (zba:(Sl (Sl Tab))) (zaE:(Sl step)):Bool:=decide ((zmy w=true)) && zlt P5 P6 w zan (ziJ w) zaR zat zaM zbm iv7 hv7 zcT zaq kv7 zba zaE
theorem zFl (K : List PA → Prop) (w : web) (zan : (Sl (Sl Tab)))
  (X5:St→Prop) (P5:Int→Bool→(Sl step)→Int→(Sl (Sl Tab))→Bool) (S5:Int→Bool→(Sl step)→Int→(Sl (Sl Tab))→(Sl step))
  (hX5:∀ (zaW:Int) (zaF:Bool) (zaZ:(Sl step)) (za3:Int) (zbn:(Sl (Sl Tab))) (zbu:Nat→List PV) (zeV:zbu=fun i=>zad (zaZ.get i)) (zbX:Nat→List PV) (zgt:zbX=fun i=>zaG (zbn.get i)),P5 zaW zaF zaZ za3 zbn=true→K (e89 (S5 zaW zaF zaZ za3 zbn))→X5 (zfT w zan zaW zaF zaZ.len zbu za3 zbn.len zbX))
  (X6:St→Prop) (P6:Int→Bool→(Sl step)→Int→Int→(Sl Tab)→Int→Int→Int→(Sl (Sl Tab))→(Sl step)→Bool) (S6:Int→Bool→(Sl step)→Int→Int→(Sl Tab)→Int→Int→Int→(Sl (Sl Tab))→(Sl step)→(Sl step))
  (hX6:∀ (zbe:Int) (zaD:Bool) (zaX:(Sl step)) (zb1:Int) (iv6:Int) (hv6:(Sl Tab)) (zey:Int) (zaQ:Int) (kv6:Int) (zbS:(Sl (Sl Tab))) (za0:(Sl step)) (zb0:Nat→List PV) (zgQ:zb0=fun i=>zad (zaX.get i)) (ze1:Nat→List PV) (zvO:ze1=fun i=>zac (hv6.get i)) (zcq:Nat→List PV) (ziS:zcq=fun i=>zaG (zbS.get i)) (zb2:Nat→List PV) (zgR:zb2=fun i=>zad (za0.get i)),P6 zbe zaD zaX zb1 iv6 hv6 zey zaQ kv6 zbS za0=true→K (e89 (S6 zbe zaD zaX zb1 iv6 hv6 zey zaQ kv6 zbS za0))→X6 (zij w zan zbe zaD zaX.len zb0 zb1 iv6 hv6.len ze1 zey zaQ kv6 zbS.len zcq za0.len zb2)) (zaR:Int) (zat:Bool) (zaM:(Sl step)) (zbm:Int) (iv7:Int) (hv7:(Sl Tab)) (zcT:Int) (zaq:Int) (kv7:Int) (zba:(Sl (Sl Tab))) (zaE:(Sl step)) (zce:Nat→List PV) (zgS:zce=fun i=>zad (zaM.get i)) (zf2:Nat→List PV) (zvP:zf2=fun i=>zac (hv7.get i)) (zcU:Nat→List PV) (ziT:zcU=fun i=>zaG (zba.get i)) (zcf:Nat→List PV) (zgT:zcf=fun i=>zad (zaE.get i)) (hs:zr2 P5 P6 w zan zaR zat zaM zbm iv7 hv7 zcT zaq kv7 zba zaE=true) (hk:K (e89 (zyj S5 S6 w zan zaR zat zaM zbm iv7 hv7 zcT zaq kv7 zba zaE))):zlq K X5 X6 w zan zaR zat zaM.len zce zbm iv7 hv7.len zf2 zcT zaq kv7 zba.len zcU zaE.len zcf:=by
  unfold zr2 at hs
  rw [Bool.and_eq_true] at hs
  obtain ⟨hsf,hs⟩:=hs
  have hc:=of_decide_eq_true hsf
  refine zyh K X5 X6 w zan zaR zat zaM.len zce zbm iv7 hv7.len zf2 zcT zaq kv7 zba.len zcU zaE.len zcf ⟨isE,rfl,hc⟩ ?_
  intro X7 hexit hstep
  have key:∀ (l:List step) (zaR:Int) (zat:Bool) (zaM:(Sl step)) (zbm:Int) (iv7:Int) (hv7:(Sl Tab)) (zcT:Int) (zaq:Int) (kv7:Int) (zba:(Sl (Sl Tab))) (zaE:(Sl step)) (zce:Nat→List PV) (zgS:zce=fun i=>zad (zaM.get i)) (zf2:Nat→List PV) (zvP:zf2=fun i=>zac (hv7.get i)) (zcU:Nat→List PV) (ziT:zcU=fun i=>zaG (zba.get i)) (zcf:Nat→List PV) (zgT:zcf=fun i=>zad (zaE.get i)),zlt P5 P6 w zan l zaR zat zaM zbm iv7 hv7 zcT zaq kv7 zba zaE=true→K (e89 (zls S5 S6 w zan l zaR zat zaM zbm iv7 hv7 zcT zaq kv7 zba zaE))→X7 (l.map fun y=>[.agg (zad y)]) (zfU w zan zaR zat zaM.len zce zbm iv7 hv7.len zf2 zcT zaq kv7 zba.len zcU zaE.len zcf):=by
    intro l
    induction l with
    | nil =>
      intro zaR zat zaM zbm iv7 hv7 zcT zaq kv7 zba zaE zce zgS zf2 zvP zcU ziT zcf zgT hs hk
      subst zgS
      subst zvP
      subst ziT
      subst zgT
      refine hexit zaR zat zaM zbm iv7 hv7 zcT zaq kv7 zba zaE ?_
      have hs:zrZ P5 P6 w zan zaR zat zaM zbm iv7 hv7 zcT zaq kv7 zba zaE=true:=hs
      have hk:K (e89 (zrY S5 S6 w zan zaR zat zaM zbm iv7 hv7 zcT zaq kv7 zba zaE)):=hk
      unfold zrZ at hs
      unfold zrY at hk
      exact (hX6 zaR zat zaM zbm iv7 hv7 zcT zaq (w64 (kv7 - (1:Int))) zba zaE (fun i=>zad (zaM.get i)) rfl (fun i=>zac (hv7.get i)) rfl (fun i=>zaG (zba.get i)) rfl (fun i=>zad (zaE.get i)) rfl hs hk)
    | cons y7 l ih =>
      intro zaR zat zaM zbm iv7 hv7 zcT zaq kv7 zba zaE zce zgS zf2 zvP zcU ziT zcf zgT hs hk
      subst zgS
      subst zvP
      subst ziT
      subst zgT
      refine hstep y7 _ zaR zat zaM zbm iv7 hv7 zcT zaq kv7 zba zaE ?_
      have hs:zr1 P5 P6 w zan y7 (zlt P5 P6 w zan l) zaR zat zaM zbm iv7 hv7 zcT zaq kv7 zba zaE=true:=hs
      have hk:K (e89 (zr0 S5 S6 w zan y7 (zls S5 S6 w zan l) zaR zat zaM zbm iv7 hv7 zcT zaq kv7 zba zaE)):=hk
      unfold zr1 at hs
      unfold zr0 at hk
      generalize zls S5 S6 w zan l=S7 at hk ih
      generalize zlt P5 P6 w zan l=P7 at hs ih
      have hX7:=ih
      exact (za2 (K := fun r => K (e89 r))
 (fun hs hk => (za2 (K := fun r => K (e89 r))
 (fun hs hk => (za6 hs fun hc hs => ⟨hc, (za6 hs fun hc hs => ⟨hc, (za2 (K := fun r => K (e89 r))
 (fun hs hk => (za6 hs fun hc hs => ⟨hc, (za6 hs fun hc hs => ⟨hc, (za2 (K := fun r => K (e89 r))
 (fun hs hk=>(za6 hs fun hc hs=>⟨hc,(hX6 zaR zat zaM zbm iv7 hv7 y7.to (w64 (zaq+y7.length)) (w64 (kv7 - (1:Int))) zba (⟨(zaE.len+1),(zms zaE.len zaE.get (fun _=>y7))⟩:Sl step) (fun i=>zad (zaM.get i)) rfl (fun i=>zac (hv7.get i)) rfl (fun i=>zaG (zba.get i)) rfl (appG zaE.len (fun i=>zad (zaE.get i)) (fun _=>(zad y7))) (zh0 (enc:=zad) (f:=zaE.get) (h:=(fun _=>y7)) rfl rfl) hs hk)⟩))
 (fun hs hk=>(hX7 zaR zat zaM zbm iv7 hv7 zcT zaq kv7 zba zaE (fun i=>zad (zaM.get i)) rfl (fun i=>zac (hv7.get i)) rfl (fun i=>zaG (zba.get i)) rfl (fun i=>zad (zaE.get i)) rfl hs hk)) hs hk)⟩)⟩))
 (fun hs hk=>(hX7 zaR zat zaM zbm iv7 hv7 zcT zaq kv7 zba zaE (fun i=>zad (zaM.get i)) rfl (fun i=>zac (hv7.get i)) rfl (fun i=>zaG (zba.get i)) rfl (fun i=>zad (zaE.get i)) rfl hs hk)) hs hk)⟩)⟩))
 (fun hs hk=>(hX7 zaR zat zaM zbm iv7 hv7 zcT zaq kv7 zba zaE (fun i=>zad (zaM.get i)) rfl (fun i=>zac (hv7.get i)) rfl (fun i=>zaG (zba.get i)) rfl (fun i=>zad (zaE.get i)) rfl hs hk)) hs hk))
 (fun hs hk=>(hX7 zaR zat zaM zbm iv7 hv7 zcT zaq kv7 zba zaE (fun i=>zad (zaM.get i)) rfl (fun i=>zac (hv7.get i)) rfl (fun i=>zaG (zba.get i)) rfl (fun i=>zad (zaE.get i)) rfl hs hk)) hs hk)
  exact key _ zaR zat zaM zbm iv7 hv7 zcT zaq kv7 zba zaE zce zgS zf2 zvP zcU ziT zcf zgT hs hk
def zr3 (S5:Int→Bool→(Sl step)→Int→(Sl (Sl Tab))→(Sl step)) (w:web) (zan:(Sl (Sl Tab))) (S6:Int→Bool→(Sl step)→Int→Int→(Sl Tab)→Int→Int→Int→(Sl (Sl Tab))→(Sl step)→(Sl step)) (zbe:Int) (zaD:Bool) (zaX:(Sl step)) (zb1:Int) (iv6:Int) (hv6:(Sl Tab)) (zey:Int) (zaQ:Int) (kv6:Int) (zbS:(Sl (Sl Tab))) (za0:(Sl step)):(Sl step) :=
  (cond (decide (kv6 ≥ (0:Int)))
 (zyj S5 S6 w zan zbe zaD zaX zb1 iv6 hv6 zey zaQ kv6 zbS za0)
 (cond zaD
 (zoo S5 w zan zbe zaD zaX zb1 true zbS za0)
 (zoo S5 w zan zbe zaD zaX zb1 (decide ((zHK za0 zaX) < (0:Int))) zbS za0)))
def zr4 (P5:Int→Bool→(Sl step)→Int→(Sl (Sl Tab))→Bool) (w:web) (zan:(Sl (Sl Tab))) (P6:Int→Bool→(Sl step)→Int→Int→(Sl Tab)→Int→Int→Int→(Sl (Sl Tab))→(Sl step)→Bool) (zbe:Int) (zaD:Bool) (zaX:(Sl step)) (zb1:Int) (iv6:Int) (hv6:(Sl Tab)) (zey:Int) (zaQ:Int) (kv6:Int) (zbS:(Sl (Sl Tab))) (za0:(Sl step)):Bool :=
  (cond (decide (kv6 ≥ (0:Int)))
 (zr2 P5 P6 w zan zbe zaD zaX zb1 iv6 hv6 zey zaQ kv6 zbS za0)
 (decide ((zaD=true∨zaX.len ≠ 0)) &&
 (cond zaD
 (zop P5 w zan zbe zaD zaX zb1 true zbS za0)
 (decide ((zKp za0 zaX=true)) &&
 (zop P5 w zan zbe zaD zaX zb1 (decide ((zHK za0 zaX) < (0:Int))) zbS za0)))))
def zlu (S5 : Int → Bool → (Sl step) → Int → (Sl (Sl Tab)) → (Sl step)) (w : web) (zan : (Sl (Sl Tab))) : Nat → Int → Bool → (Sl step) → Int → Int → (Sl Tab) → Int → Int → Int → (Sl (Sl Tab)) → (Sl step) → (Sl step)
  | 0=>fun _ _ _ _ _ _ _ _ _ _ _=>default
  | k+1=>zr3 S5 w zan (zlu S5 w zan k)
def zlv (P5 : Int → Bool → (Sl step) → Int → (Sl (Sl Tab)) → Bool) (w : web) (zan : (Sl (Sl Tab))) : Nat → Int → Bool → (Sl step) → Int → Int → (Sl Tab) → Int → Int → Int → (Sl (Sl Tab)) → (Sl step) → Bool
  | 0=>fun _ _ _ _ _ _ _ _ _ _ _=>false
  | k+1=>zr4 P5 w zan (zlv P5 w zan k)
def zyk (S5:Int→Bool→(Sl step)→Int→(Sl (Sl Tab))→(Sl step)) (w:web) (zan:(Sl (Sl Tab))) (zbe:Int) (zaD:Bool) (zaX:(Sl step)) (zb1:Int) (iv6:Int) (hv6:(Sl Tab)) (zey:Int) (zaQ:Int) (kv6:Int) (zbS:(Sl (Sl Tab))) (za0:(Sl step)):(Sl step):=zlu S5 w zan Fuel zbe zaD zaX zb1 iv6 hv6 zey zaQ kv6 zbS za0
def zyl (P5:Int→Bool→(Sl step)→Int→(Sl (Sl Tab))→Bool) (w:web) (zan:(Sl (Sl Tab))) (zbe:Int) (zaD:Bool) (zaX:(Sl step)) (zb1:Int) (iv6:Int) (hv6:(Sl Tab)) (zey:Int) (zaQ:Int) (kv6:Int) (zbS:(Sl (Sl Tab))) (za0:(Sl step)):Bool:=zlv P5 w zan Fuel zbe zaD zaX zb1 iv6 hv6 zey zaQ kv6 zbS za0
theorem zFm (K : List PA → Prop) (w : web) (zan : (Sl (Sl Tab)))
  (X5:St→Prop) (P5:Int→Bool→(Sl step)→Int→(Sl (Sl Tab))→Bool) (S5:Int→Bool→(Sl step)→Int→(Sl (Sl Tab))→(Sl step))
  (hX5:∀ (zaW:Int) (zaF:Bool) (zaZ:(Sl step)) (za3:Int) (zbn:(Sl (Sl Tab))) (zbu:Nat→List PV) (zeV:zbu=fun i=>zad (zaZ.get i)) (zbX:Nat→List PV) (zgt:zbX=fun i=>zaG (zbn.get i)),P5 zaW zaF zaZ za3 zbn=true→K (e89 (S5 zaW zaF zaZ za3 zbn))→X5 (zfT w zan zaW zaF zaZ.len zbu za3 zbn.len zbX)) (zbe:Int) (zaD:Bool) (zaX:(Sl step)) (zb1:Int) (iv6:Int) (hv6:(Sl Tab)) (zey:Int) (zaQ:Int) (kv6:Int) (zbS:(Sl (Sl Tab))) (za0:(Sl step)) (zb0:Nat→List PV) (zgQ:zb0=fun i=>zad (zaX.get i)) (ze1:Nat→List PV) (zvO:ze1=fun i=>zac (hv6.get i)) (zcq:Nat→List PV) (ziS:zcq=fun i=>zaG (zbS.get i)) (zb2:Nat→List PV) (zgR:zb2=fun i=>zad (za0.get i)) (hs:zyl P5 w zan zbe zaD zaX zb1 iv6 hv6 zey zaQ kv6 zbS za0=true) (hk:K (e89 (zyk S5 w zan zbe zaD zaX zb1 iv6 hv6 zey zaQ kv6 zbS za0))):zlp K X5 w zan zbe zaD zaX.len zb0 zb1 iv6 hv6.len ze1 zey zaQ kv6 zbS.len zcq za0.len zb2:=by
  refine zyg K X5 w zan zbe zaD zaX.len zb0 zb1 iv6 hv6.len ze1 zey zaQ kv6 zbS.len zcq za0.len zb2 ?_
  intro X6 hstep
  have key:∀ (k:Nat) (zbe:Int) (zaD:Bool) (zaX:(Sl step)) (zb1:Int) (iv6:Int) (hv6:(Sl Tab)) (zey:Int) (zaQ:Int) (kv6:Int) (zbS:(Sl (Sl Tab))) (za0:(Sl step)) (zb0:Nat→List PV) (zgQ:zb0=fun i=>zad (zaX.get i)) (ze1:Nat→List PV) (zvO:ze1=fun i=>zac (hv6.get i)) (zcq:Nat→List PV) (ziS:zcq=fun i=>zaG (zbS.get i)) (zb2:Nat→List PV) (zgR:zb2=fun i=>zad (za0.get i)),zlv P5 w zan k zbe zaD zaX zb1 iv6 hv6 zey zaQ kv6 zbS za0=true→K (e89 (zlu S5 w zan k zbe zaD zaX zb1 iv6 hv6 zey zaQ kv6 zbS za0))→X6 (zij w zan zbe zaD zaX.len zb0 zb1 iv6 hv6.len ze1 zey zaQ kv6 zbS.len zcq za0.len zb2):=by
    intro k
    induction k with
    | zero=>intro zbe zaD zaX zb1 iv6 hv6 zey zaQ kv6 zbS za0 zb0 zgQ ze1 zvO zcq ziS zb2 zgR hs;exact absurd hs Bool.false_ne_true
    | succ k ih =>
      intro zbe zaD zaX zb1 iv6 hv6 zey zaQ kv6 zbS za0 zb0 zgQ ze1 zvO zcq ziS zb2 zgR hs hk
      subst zgQ
      subst zvO
      subst ziS
      subst zgR
      refine hstep zbe zaD zaX zb1 iv6 hv6 zey zaQ kv6 zbS za0 ?_
      have hs:zr4 P5 w zan (zlv P5 w zan k) zbe zaD zaX zb1 iv6 hv6 zey zaQ kv6 zbS za0=true:=hs
      have hk:K (e89 (zr3 S5 w zan (zlu S5 w zan k) zbe zaD zaX zb1 iv6 hv6 zey zaQ kv6 zbS za0)):=hk
      unfold zr4 at hs
      unfold zr3 at hk
      generalize zlu S5 w zan k=S6 at hk ih
      generalize zlv P5 w zan k=P6 at hs ih
      have hX6:=ih
      exact (za2 (K := fun r => K (e89 r))
 (fun hs hk=>⟨⟨isE,rfl⟩,(zFl K w zan X5 P5 S5 hX5 X6 P6 S6 hX6 zbe zaD zaX zb1 iv6 hv6 zey zaQ kv6 zbS za0 (fun i=>zad (zaX.get i)) rfl (fun i=>zac (hv6.get i)) rfl (fun i=>zaG (zbS.get i)) rfl (fun i=>zad (za0.get i)) rfl hs hk)⟩)
 (fun hs hk => (za6 hs fun hc hs => ⟨hc, (za2 (K := fun r => K (e89 r))
 (fun hs hk=>(zyi K w zan X5 P5 S5 hX5 zbe zaD zaX zb1 true zbS za0 (fun i=>zad (zaX.get i)) rfl (fun i=>zaG (zbS.get i)) rfl (fun i=>zad (za0.get i)) rfl hs hk))
 (fun hs hk=>(za6 hs fun hc hs=>⟨⟨isE,isE,hc⟩,(zyi K w zan X5 P5 S5 hX5 zbe zaD zaX zb1 (decide ((zHK za0 zaX) < (0:Int))) zbS za0 (fun i=>zad (zaX.get i)) rfl (fun i=>zaG (zbS.get i)) rfl (fun i=>zad (za0.get i)) rfl hs hk)⟩)) hs hk)⟩)) hs hk)
  exact key _ zbe zaD zaX zb1 iv6 hv6 zey zaQ kv6 zbS za0 zb0 zgQ ze1 zvO zcq ziS zb2 zgR hs hk
def zr5 (w:web) (zan:(Sl (Sl Tab))) (S5:Int→Bool→(Sl step)→Int→(Sl (Sl Tab))→(Sl step)) (zaW:Int) (zaF:Bool) (zaZ:(Sl step)) (za3:Int) (zbn:(Sl (Sl Tab))):(Sl step) :=
  (cond (decide (za3 < (zan.len : Int)))
 (cond (decide ((tL ((zbn.get za3.toNat).get zaW.toNat) za3) ≥ (0:Int)))
 (S5 zaW zaF zaZ (w64 (za3+(1:Int))) zbn)
 (zyk S5 w zan zaW zaF zaZ za3 za3 (zbn.get za3.toNat) za3 (0:Int) (w64 (zaW - (1:Int))) zbn (⟨0,(fun _=>default)⟩:Sl step)))
 zaZ)
def zr6 (w:web) (zan:(Sl (Sl Tab))) (P5:Int→Bool→(Sl step)→Int→(Sl (Sl Tab))→Bool) (zaW:Int) (zaF:Bool) (zaZ:(Sl step)) (za3:Int) (zbn:(Sl (Sl Tab))):Bool :=
  (cond (decide (za3 < (zan.len : Int)))
 (decide ((0≤za3∧za3 < (zbn.len:Int))) &&
 (decide ((za3.toNat < zbn.len)) &&
 (decide ((0≤zaW∧zaW < ((zbn.get za3.toNat).len:Int))) &&
 (decide ((0≤za3∧za3 < (40:Int))) &&
 (cond (decide ((tL ((zbn.get za3.toNat).get zaW.toNat) za3) ≥ (0:Int)))
 (P5 zaW zaF zaZ (w64 (za3+(1:Int))) zbn)
 (zyl P5 w zan zaW zaF zaZ za3 za3 (zbn.get za3.toNat) za3 (0:Int) (w64 (zaW - (1:Int))) zbn (⟨0,(fun _=>default)⟩:Sl step)))))))
 true)
def zlw (w : web) (zan : (Sl (Sl Tab))) : Nat → Int → Bool → (Sl step) → Int → (Sl (Sl Tab)) → (Sl step)
  | 0=>fun _ _ _ _ _=>default
  | k+1=>zr5 w zan (zlw w zan k)
def zlx (w : web) (zan : (Sl (Sl Tab))) : Nat → Int → Bool → (Sl step) → Int → (Sl (Sl Tab)) → Bool
  | 0=>fun _ _ _ _ _=>false
  | k+1=>zr6 w zan (zlx w zan k)
def zym (w:web) (zan:(Sl (Sl Tab))) (zaW:Int) (zaF:Bool) (zaZ:(Sl step)) (za3:Int) (zbn:(Sl (Sl Tab))):(Sl step):=zlw w zan Fuel zaW zaF zaZ za3 zbn
def zyn (w:web) (zan:(Sl (Sl Tab))) (zaW:Int) (zaF:Bool) (zaZ:(Sl step)) (za3:Int) (zbn:(Sl (Sl Tab))):Bool:=zlx w zan Fuel zaW zaF zaZ za3 zbn
theorem zFn (K:List PA→Prop) (w:web) (zan:(Sl (Sl Tab))) (zaW:Int) (zaF:Bool) (zaZ:(Sl step)) (za3:Int) (zbn:(Sl (Sl Tab))) (zbu:Nat→List PV) (zeV:zbu=fun i=>zad (zaZ.get i)) (zbX:Nat→List PV) (zgt:zbX=fun i=>zaG (zbn.get i)) (hs:zyn w zan zaW zaF zaZ za3 zbn=true) (hk:K (e89 (zym w zan zaW zaF zaZ za3 zbn))):zlo K w zan zaW zaF zaZ.len zbu za3 zbn.len zbX:=by
  refine zyf K w zan zaW zaF zaZ.len zbu za3 zbn.len zbX ?_
  intro X5 hstep
  have key:∀ (k:Nat) (zaW:Int) (zaF:Bool) (zaZ:(Sl step)) (za3:Int) (zbn:(Sl (Sl Tab))) (zbu:Nat→List PV) (zeV:zbu=fun i=>zad (zaZ.get i)) (zbX:Nat→List PV) (zgt:zbX=fun i=>zaG (zbn.get i)),zlx w zan k zaW zaF zaZ za3 zbn=true→K (e89 (zlw w zan k zaW zaF zaZ za3 zbn))→X5 (zfT w zan zaW zaF zaZ.len zbu za3 zbn.len zbX):=by
    intro k
    induction k with
    | zero=>intro zaW zaF zaZ za3 zbn zbu zeV zbX zgt hs;exact absurd hs Bool.false_ne_true
    | succ k ih =>
      intro zaW zaF zaZ za3 zbn zbu zeV zbX zgt hs hk
      subst zeV
      subst zgt
      refine hstep zaW zaF zaZ za3 zbn ?_
      have hs:zr6 w zan (zlx w zan k) zaW zaF zaZ za3 zbn=true:=hs
      have hk:K (e89 (zr5 w zan (zlw w zan k) zaW zaF zaZ za3 zbn)):=hk
      unfold zr6 at hs
      unfold zr5 at hk
      generalize zlw w zan k=S5 at hk ih
      generalize zlx w zan k=P5 at hs ih
      have hX5:=ih
      exact (za2 (K := fun r => K (e89 r))
 (fun hs hk => (za6 hs fun hc hs => ⟨hc, (za6 hs fun hc hs => ⟨hc, (za6 hs fun hc hs => ⟨hc, (za6 hs fun hc hs => ⟨hc, (za2 (K := fun r => K (e89 r))
 (fun hs hk=>(hX5 zaW zaF zaZ (w64 (za3+(1:Int))) zbn (fun i=>zad (zaZ.get i)) rfl (fun i=>zaG (zbn.get i)) rfl hs hk))
 (fun hs hk=>(zFm K w zan X5 P5 S5 hX5 zaW zaF zaZ za3 za3 (zbn.get za3.toNat) za3 (0:Int) (w64 (zaW - (1:Int))) zbn (⟨0,(fun _=>default)⟩:Sl step) (fun i=>zad (zaZ.get i)) rfl (fun i=>zac ((zbn.get za3.toNat).get i)) rfl (fun i=>zaG (zbn.get i)) rfl (fun i=>zad ((fun _=>default) i)) rfl hs hk)) hs hk)⟩)⟩)⟩)⟩))
 (fun hs hk=>hk) hs hk)
  exact key _ zaW zaF zaZ za3 zbn zbu zeV zbX zgt hs hk
def zoq (w:web) (zd2:Int) (zan:(Sl (Sl Tab))):(Sl step) :=
  (zym w zan zd2 true (⟨0,(fun _=>default)⟩:Sl step) (0:Int) zan)
def zor (w:web) (zd2:Int) (zan:(Sl (Sl Tab))):Bool :=
  (zyn w zan zd2 true (⟨0,(fun _=>default)⟩:Sl step) (0:Int) zan)
theorem zyo (K:List PA→Prop) (w:web) (zd2:Int) (zan:(Sl (Sl Tab))) (ziQ:Nat→List PV) (zFo:ziQ=fun i=>zaG (zan.get i)) (hs:zor w zd2 zan=true) (hk:K (e89 (zoq w zd2 zan))):zln K w zd2 zan.len ziQ:=by
  subst zFo
  refine zbd (zFi K w zd2 zan) ?_
  unfold zor at hs
  unfold zoq at hk
  exact (zFn K w zan zd2 true (⟨0,(fun _=>default)⟩:Sl step) (0:Int) zan (fun i=>zad ((fun _=>default) i)) rfl (fun i=>zaG (zan.get i)) rfl hs hk)
def zr7 (S2:Int→(Sl step)) (w:web) (zaK:(Sl (Sl Tab))) (S3:Int→Int→(Sl step)) (za9:Int) (zbF:Int):(Sl step) :=
  (cond (decide (zbF < (zaK.len : Int)))
 (cond (decide ((tL ((zaK.get zbF.toNat).get za9.toNat) zbF) < (0:Int)))
 (zoq w za9 zaK)
 (S3 za9 (w64 (zbF+(1:Int)))))
 (S2 (w64 (za9+(1:Int)))))
def zr8 (P2:Int→Bool) (w:web) (zaK:(Sl (Sl Tab))) (P3:Int→Int→Bool) (za9:Int) (zbF:Int):Bool :=
  (cond (decide (zbF < (zaK.len : Int)))
 (decide ((0≤zbF∧zbF < (zaK.len:Int))) &&
 (decide ((zbF.toNat < zaK.len)) &&
 (decide ((0≤za9∧za9 < ((zaK.get zbF.toNat).len:Int))) &&
 (decide ((0≤zbF∧zbF < (40:Int))) &&
 (cond (decide ((tL ((zaK.get zbF.toNat).get za9.toNat) zbF) < (0:Int)))
 (zor w za9 zaK)
 (P3 za9 (w64 (zbF+(1:Int)))))))))
 (P2 (w64 (za9+(1:Int)))))
def zly (S2 : Int → (Sl step)) (w : web) (zaK : (Sl (Sl Tab))) : Nat → Int → Int → (Sl step)
  | 0=>fun _ _=>default
  | k+1=>zr7 S2 w zaK (zly S2 w zaK k)
def zlz (P2 : Int → Bool) (w : web) (zaK : (Sl (Sl Tab))) : Nat → Int → Int → Bool
  | 0=>fun _ _=>false
  | k+1=>zr8 P2 w zaK (zlz P2 w zaK k)
def zyp (S2:Int→(Sl step)) (w:web) (zaK:(Sl (Sl Tab))) (za9:Int) (zbF:Int):(Sl step):=zly S2 w zaK Fuel za9 zbF
def zyq (P2:Int→Bool) (w:web) (zaK:(Sl (Sl Tab))) (za9:Int) (zbF:Int):Bool:=zlz P2 w zaK Fuel za9 zbF
theorem zFp (K : List PA → Prop) (w : web) (zaK : (Sl (Sl Tab)))
  (X2:St→Prop) (P2:Int→Bool) (S2:Int→(Sl step))
  (hX2:∀ (zbg:Int),P2 zbg=true→K (e89 (S2 zbg))→X2 (zjy w zaK zbg)) (za9:Int) (zbF:Int) (hs:zyq P2 w zaK za9 zbF=true) (hk:K (e89 (zyp S2 w zaK za9 zbF))):zlm K X2 w zaK za9 zbF:=by
  refine zye K X2 w zaK za9 zbF ?_
  intro X3 hstep
  have key:∀ (k:Nat) (za9:Int) (zbF:Int),zlz P2 w zaK k za9 zbF=true→K (e89 (zly S2 w zaK k za9 zbF))→X3 (zll w zaK za9 zbF):=by
    intro k
    induction k with
    | zero=>intro za9 zbF hs;exact absurd hs Bool.false_ne_true
    | succ k ih =>
      intro za9 zbF hs hk
      refine hstep za9 zbF ?_
      have hs:zr8 P2 w zaK (zlz P2 w zaK k) za9 zbF=true:=hs
      have hk:K (e89 (zr7 S2 w zaK (zly S2 w zaK k) za9 zbF)):=hk
      unfold zr8 at hs
      unfold zr7 at hk
      generalize zly S2 w zaK k=S3 at hk ih
      generalize zlz P2 w zaK k=P3 at hs ih
      have hX3:=ih
      exact (za2 (K := fun r => K (e89 r))
 (fun hs hk => (za6 hs fun hc hs => ⟨hc, (za6 hs fun hc hs => ⟨hc, (za6 hs fun hc hs => ⟨hc, (za6 hs fun hc hs => ⟨hc, (za2 (K := fun r => K (e89 r))
 (fun hs hk=>(zyo K w za9 zaK (fun i=>zaG (zaK.get i)) rfl hs hk))
 (fun hs hk=>(hX3 za9 (w64 (zbF+(1:Int))) hs hk)) hs hk)⟩)⟩)⟩)⟩))
 (fun hs hk=>(hX2 (w64 (za9+(1:Int))) hs hk)) hs hk)
  exact key _ za9 zbF hs hk
def zr9 (w:web) (zaK:(Sl (Sl Tab))) (S2:Int→(Sl step)) (zbg:Int):(Sl step) :=
  (cond (decide (zbg < w.Net.Nodes))
 (zyp S2 w zaK zbg (0:Int))
 (zoq w zbg zaK))
def zsa (w:web) (zaK:(Sl (Sl Tab))) (P2:Int→Bool) (zbg:Int):Bool :=
  (cond (decide (zbg < w.Net.Nodes))
 (zyq P2 w zaK zbg (0:Int))
 (zor w zbg zaK))
def zlA (w : web) (zaK : (Sl (Sl Tab))) : Nat → Int → (Sl step)
  | 0=>fun _=>default
  | k+1=>zr9 w zaK (zlA w zaK k)
def zlB (w : web) (zaK : (Sl (Sl Tab))) : Nat → Int → Bool
  | 0=>fun _=>false
  | k+1=>zsa w zaK (zlB w zaK k)
def zyr (w:web) (zaK:(Sl (Sl Tab))) (zbg:Int):(Sl step):=zlA w zaK Fuel zbg
def zys (w:web) (zaK:(Sl (Sl Tab))) (zbg:Int):Bool:=zlB w zaK Fuel zbg
theorem zFq (K:List PA→Prop) (w:web) (zaK:(Sl (Sl Tab))) (zbg:Int) (hs:zys w zaK zbg=true) (hk:K (e89 (zyr w zaK zbg))):zlk K w zaK zbg:=by
  refine zyd K w zaK zbg ?_
  intro X2 hstep
  have key:∀ (k:Nat) (zbg:Int),zlB w zaK k zbg=true→K (e89 (zlA w zaK k zbg))→X2 (zjy w zaK zbg):=by
    intro k
    induction k with
    | zero=>intro zbg hs;exact absurd hs Bool.false_ne_true
    | succ k ih =>
      intro zbg hs hk
      refine hstep zbg ?_
      have hs:zsa w zaK (zlB w zaK k) zbg=true:=hs
      have hk:K (e89 (zr9 w zaK (zlA w zaK k) zbg)):=hk
      unfold zsa at hs
      unfold zr9 at hk
      generalize zlA w zaK k=S2 at hk ih
      generalize zlB w zaK k=P2 at hs ih
      have hX2:=ih
      exact (za2 (K := fun r => K (e89 r))
 (fun hs hk=>(zFp K w zaK X2 P2 S2 hX2 zbg (0:Int) hs hk))
 (fun hs hk=>(zyo K w zbg zaK (fun i=>zaG (zaK.get i)) rfl hs hk)) hs hk)
  exact key _ zbg hs hk
def zsb (w:web) (zaK:(Sl (Sl Tab))):(Sl step) :=
  (zyr w zaK (1:Int))
def zsc (w:web) (zaK:(Sl (Sl Tab))):Bool :=
  (zys w zaK (1:Int))
theorem zFr (K:List PA→Prop) (w:web) (zaK:(Sl (Sl Tab))) (ziP:Nat→List PV) (zFs:ziP=fun i=>zaG (zaK.get i)) (hs:zsc w zaK=true) (hk:K (e89 (zsb w zaK))):zol K w zaK.len ziP:=by
  subst zFs
  refine zbd (zFh K w zaK) ?_
  unfold zsc at hs
  unfold zsb at hk
  exact (zFq K w zaK (1:Int) hs hk)
def zsd (w:web) (S0:Int→(Sl (Sl Tab))→(Sl step)) (zbx:Int) (zb6:(Sl (Sl Tab))):(Sl step) :=
  (cond (decide (zbx < (w.Net.Nodes.toNat : Int)))
 (S0 (w64 (zbx+(1:Int))) (⟨zb6.len,(setT zbx.toNat (zxW w zbx w.Net.Nodes) zb6.get)⟩:Sl (Sl Tab)))
 (zsb w zb6))
def zse (w:web) (P0:Int→(Sl (Sl Tab))→Bool) (zbx:Int) (zb6:(Sl (Sl Tab))):Bool :=
  (cond (decide (zbx < (w.Net.Nodes.toNat : Int)))
 (decide ((zIS w zbx w.Net.Nodes=true)) &&
 (decide ((0≤zbx∧zbx < (zb6.len:Int))) &&
 (decide ((zbx.toNat < zb6.len)) &&
 (P0 (w64 (zbx+(1:Int))) (⟨zb6.len,(setT zbx.toNat (zxW w zbx w.Net.Nodes) zb6.get)⟩:Sl (Sl Tab))))))
 (zsc w zb6))
def zlC (w : web) : Nat → Int → (Sl (Sl Tab)) → (Sl step)
  | 0=>fun _ _=>default
  | k+1=>zsd w (zlC w k)
def zlD (w : web) : Nat → Int → (Sl (Sl Tab)) → Bool
  | 0=>fun _ _=>false
  | k+1=>zse w (zlD w k)
def zyt (w:web) (zbx:Int) (zb6:(Sl (Sl Tab))):(Sl step):=zlC w Fuel zbx zb6
def zyu (w:web) (zbx:Int) (zb6:(Sl (Sl Tab))):Bool:=zlD w Fuel zbx zb6
theorem zFt (K:List PA→Prop) (w:web) (zbx:Int) (zb6:(Sl (Sl Tab))) (zcS:Nat→List PV) (zlE:zcS=fun i=>zaG (zb6.get i)) (hs:zyu w zbx zb6=true) (hk:K (e89 (zyt w zbx zb6))):zlj K w zbx zb6.len zcS:=by
  refine zyc K w zbx zb6.len zcS ?_
  intro X0 hstep
  have key:∀ (k:Nat) (zbx:Int) (zb6:(Sl (Sl Tab))) (zcS:Nat→List PV) (zlE:zcS=fun i=>zaG (zb6.get i)),zlD w k zbx zb6=true→K (e89 (zlC w k zbx zb6))→X0 (zli w zbx zb6.len zcS):=by
    intro k
    induction k with
    | zero=>intro zbx zb6 zcS zlE hs;exact absurd hs Bool.false_ne_true
    | succ k ih =>
      intro zbx zb6 zcS zlE hs hk
      subst zlE
      refine hstep zbx zb6 ?_
      have hs:zse w (zlD w k) zbx zb6=true:=hs
      have hk:K (e89 (zsd w (zlC w k) zbx zb6)):=hk
      unfold zse at hs
      unfold zsd at hk
      generalize zlC w k=S0 at hk ih
      generalize zlD w k=P0 at hs ih
      have hX0:=ih
      exact (za2 (K := fun r => K (e89 r))
 (fun hs hk=>(za6 hs fun hc hs=>⟨⟨isE,rfl,hc⟩,(za6 hs fun hc hs=>⟨hc,(za6 hs fun hc hs=>⟨hc,(hX0 (w64 (zbx+(1:Int))) (⟨zb6.len,(setT zbx.toNat (zxW w zbx w.Net.Nodes) zb6.get)⟩:Sl (Sl Tab)) (zjR zbx.toNat 0 (fun i=>zaG (zb6.get i)) (zaG (zxW w zbx w.Net.Nodes))) (zm5 (enc:=zaG) (i:=zbx.toNat) (k:=0) (f:=zb6.get) (new:=(zaG (zxW w zbx w.Net.Nodes))) (v:=(zxW w zbx w.Net.Nodes)) rfl rfl) hs hk)⟩)⟩)⟩))
 (fun hs hk=>(zFr K w zb6 (fun i=>zaG (zb6.get i)) rfl hs hk)) hs hk)
  exact key _ zbx zb6 zcS zlE hs hk
def s89 (w:web):(Sl step) :=
  (zyt w (0:Int) (⟨w.Net.Nodes.toNat,(fun _=>(⟨0,fun _=>(fun _=>(0:Int))⟩:(Sl Tab)))⟩:Sl (Sl Tab)))
def p89 (w:web):Bool :=
  (decide ((0≤w.Net.Nodes∧w.Net.Nodes=w.Net.Nodes∧w.Net.Nodes≤1000000)) &&
 (zyu w (0:Int) (⟨w.Net.Nodes.toNat,(fun _=>(⟨0,fun _=>(fun _=>(0:Int))⟩:(Sl Tab)))⟩:Sl (Sl Tab))))
theorem q89 (w:web) (K:List PA→Prop) (hs:p89 w=true) (hk:K (e89 (s89 w))):vcFun Tryd.prog G89 zaY 89 [.one (.fp (zaC w) 0)] K:=by
  refine zbd (zFg w K) ?_
  unfold p89 at hs
  unfold s89 at hk
  exact (za6 hs fun hc hs=>⟨hc,(zFt K w (0:Int) (⟨w.Net.Nodes.toNat,(fun _=>(⟨0,fun _=>(fun _=>(0:Int))⟩:(Sl Tab)))⟩:Sl (Sl Tab)) (fun _=>(zaG (⟨0,fun _=>(fun _=>(0:Int))⟩:(Sl Tab)))) rfl hs hk)⟩)
def zCC : List PA → COut
  | [.one (.fp [.int .i64 zas,.sl zal zaP zam,.fm zbK zaS zaT] 0)]=>.det (IsE zae 4 zaP zam∧zbK=(false,1,false,[none])∧p89 (⟨(⟨zas,(⟨zal,zar zam⟩:(Sl Tie))⟩:Net),(⟨zaS,zaT⟩:Mp)⟩:web)=true) [.one (.sl ((s89 (⟨(⟨zas,(⟨zal,zar zam⟩:(Sl Tie))⟩:Net),(⟨zaS,zaT⟩:Mp)⟩:web)).len) 5 (fun i=>zad ((s89 (⟨(⟨zas,(⟨zal,zar zam⟩:(Sl Tie))⟩:Net),(⟨zaS,zaT⟩:Mp)⟩:web)).get i)))]
  | _=>.no
theorem zI5:zax Tryd.prog 89:=⟨_,rfl,rfl,by kernel_rfl⟩
theorem zMr:Ok Tryd.prog 89 zCC:=zbY zK4 zI5 fun args K h=>by
  unfold zCC at h
  split at h
  · rename_i zas zal zaP zam zbK zaS zaT
    obtain ⟨⟨⟨rfl,zaB,rfl⟩,rfl,hs⟩,hk⟩:=h
    try rw [zau zaB] at hs
    try rw [zau zaB] at hk
    exact ⟨(fun _ _=>[]),(fun _=>false),zaY,q89 (⟨(⟨zas,(⟨zal,zaB⟩:(Sl Tie))⟩:Net),(⟨zaS,zaT⟩:Mp)⟩:web) K hs hk⟩
  · exact h.elim
end Go.Proofs
/-
  DERIVED: THE SHELF's CONTRACTS AT THIS DUMP,IN PLAIN WORDS (tools/lay-plain.mjs out of 'YtedhjaaikeakoaaDoorPmLk.lean',which tools/lay-shelf.mjs wrote): THE SAME DECLARATIONS UNDER THE SAME NAMES: 'import','namespace','open','def','theorem' AND NOTHING ELSE: no command of the shelf's: FOR A HAND-IN. Each laying: the table of numbers ('.._ren') and one theorem,a field a fact of the dump's own or the kernel's comparison;each contract: ONE APPLICATION.
-/
namespace Go.Proofs
open Go.Shelf
def Tryd.keysA_ren:Go.Shelf.Ren:=⟨fun | 7=>103 | 10=>117 | n=>n,fun | 23=>103 | 26=>3 | 3=>4 | 28=>152 | 0=>0 | 27=>151 | 33=>169 | 4=>4 | n=>n,fun | n=>n⟩
theorem Tryd.keysA : Go.Proofs.SlLaysZI.n7 Tryd.prog Tryd.keysA_ren := {
  mixed:=by kernel_rfl
  f7:=⟨Tryd.f103.name,by decide,Tryd.func103.trans (congrArg some (by kernel_rfl))⟩
  f10:=⟨Tryd.f117.name,by decide,Tryd.func117.trans (congrArg some (by kernel_rfl))⟩
  t0:=Tryd.underlying0
  a0:=Tryd.isAgg0
  z0:=Tryd.sizeOf0
  v0:=Tryd.zeroValue0
  t4:=Tryd.underlying4
  a4:=Tryd.isAgg4
  z4:=Tryd.sizeOf4
  v4:=Tryd.zeroValue4
  t23:=Tryd.underlying103
  a23:=Tryd.isAgg103
  z23:=Tryd.sizeOf103
  v23:=Tryd.zeroValue103
  t26:=Tryd.underlying3
  a26:=Tryd.isAgg3
  z26:=Tryd.sizeOf3
  v26:=Tryd.zeroValue3
  t27:=Tryd.underlying151
  a27:=Tryd.isAgg151
  z27:=Tryd.sizeOf151
  v27:=Tryd.zeroValue151
  t28:=Tryd.underlying152
  a28:=Tryd.isAgg152
  z28:=Tryd.sizeOf152
  v28:=Tryd.zeroValue152
  t33:=Tryd.underlying169
  a33:=Tryd.isAgg169
  z33:=Tryd.sizeOf169
  v33:=Tryd.zeroValue169 }
def Tryd.sortedA_ren:Go.Shelf.Ren:=⟨fun | 6=>102 | 8=>115 | 9=>116 | 11=>129 | 13=>113 | 12=>130 | 23=>127 | 24=>128 | 14=>136 | 15=>137 | 16=>138 | 17=>139 | 18=>140 | 19=>141 | 20=>142 | 21=>143 | 22=>144 | 25=>146 | 26=>132 | 27=>133 | 28=>147 | 29=>148 | 30=>114 | 31=>149 | n=>n,fun | 26=>3 | 28=>152 | 24=>27 | 0=>0 | 3=>3 | 37=>168 | 48=>182 | 50=>184 | 4=>4 | 40=>175 | 39=>174 | 45=>179 | 5=>5 | 9=>9 | 51=>187 | 55=>191 | 57=>199 | 58=>200 | 33=>169 | n=>n,fun | n=>n⟩
theorem Tryd.sortedA : Go.Proofs.SlLaysZI.n6 Tryd.prog Tryd.sortedA_ren := {
  mixed:=by kernel_rfl
  f6:=⟨Tryd.f102.name,by decide,Tryd.func102.trans (congrArg some (by kernel_rfl))⟩
  f8:=⟨Tryd.f115.name,by decide,Tryd.func115.trans (congrArg some (by kernel_rfl))⟩
  f11:=⟨Tryd.f129.name,by decide,Tryd.func129.trans (congrArg some (by kernel_rfl))⟩
  t0:=Tryd.underlying0
  a0:=Tryd.isAgg0
  z0:=Tryd.sizeOf0
  v0:=Tryd.zeroValue0
  t24:=Tryd.underlying27
  a24:=Tryd.isAgg27
  z24:=Tryd.sizeOf27
  v24:=Tryd.zeroValue27
  t26:=Tryd.underlying3
  a26:=Tryd.isAgg3
  z26:=Tryd.sizeOf3
  v26:=Tryd.zeroValue3
  t28:=Tryd.underlying152
  a28:=Tryd.isAgg152
  z28:=Tryd.sizeOf152
  v28:=Tryd.zeroValue152
  i26:=by kernel_rfl }
def Tryd.sortA_ren:Go.Shelf.Ren:=⟨fun | 5=>116 | 8=>113 | 7=>130 | 19=>127 | 20=>128 | 10=>136 | 11=>137 | 12=>138 | 13=>139 | 14=>140 | 15=>141 | 16=>142 | 17=>143 | 18=>144 | 30=>146 | 31=>132 | 32=>133 | 33=>147 | 34=>148 | 35=>114 | 40=>149 | n=>n,fun | 23=>27 | 25=>3 | 3=>3 | 32=>168 | 22=>27 | 0=>0 | 44=>182 | 46=>184 | 4=>4 | 36=>175 | 35=>174 | 41=>179 | 5=>5 | 9=>9 | 53=>187 | 57=>191 | 63=>199 | 64=>200 | n=>n,fun | n=>n⟩
theorem Tryd.sortA : Go.Proofs.SlLaysM.n5 Tryd.prog Tryd.sortA_ren := {
  mixed:=by kernel_rfl
  f5:=⟨Tryd.f116.name,by decide,Tryd.func116.trans (congrArg some (by kernel_rfl))⟩
  f7:=⟨Tryd.f130.name,by decide,Tryd.func130.trans (congrArg some (by kernel_rfl))⟩
  f8:=Tryd.func113.trans (congrArg some (by kernel_rfl))
  f10:=⟨Tryd.f136.name,by decide,Tryd.func136.trans (congrArg some (by kernel_rfl))⟩
  f11:=⟨Tryd.f137.name,by decide,Tryd.func137.trans (congrArg some (by kernel_rfl))⟩
  f12:=⟨Tryd.f138.name,by decide,Tryd.func138.trans (congrArg some (by kernel_rfl))⟩
  f13:=⟨Tryd.f139.name,by decide,Tryd.func139.trans (congrArg some (by kernel_rfl))⟩
  f14:=⟨Tryd.f140.name,by decide,Tryd.func140.trans (congrArg some (by kernel_rfl))⟩
  f15:=⟨Tryd.f141.name,by decide,Tryd.func141.trans (congrArg some (by kernel_rfl))⟩
  f16:=⟨Tryd.f142.name,by decide,Tryd.func142.trans (congrArg some (by kernel_rfl))⟩
  f17:=⟨Tryd.f143.name,by decide,Tryd.func143.trans (congrArg some (by kernel_rfl))⟩
  f18:=⟨Tryd.f144.name,by decide,Tryd.func144.trans (congrArg some (by kernel_rfl))⟩
  f19:=Tryd.func127.trans (congrArg some (by kernel_rfl))
  f20:=Tryd.func128.trans (congrArg some (by kernel_rfl))
  f30:=⟨Tryd.f146.name,by decide,Tryd.func146.trans (congrArg some (by kernel_rfl))⟩
  f31:=Tryd.func132.trans (congrArg some (by kernel_rfl))
  f32:=Tryd.func133.trans (congrArg some (by kernel_rfl))
  f33:=⟨Tryd.f147.name,by decide,Tryd.func147.trans (congrArg some (by kernel_rfl))⟩
  f34:=⟨Tryd.f148.name,by decide,Tryd.func148.trans (congrArg some (by kernel_rfl))⟩
  f35:=⟨Tryd.f114.name,by decide,Tryd.func114.trans (congrArg some (by kernel_rfl))⟩
  f40:=⟨Tryd.f149.name,by decide,Tryd.func149.trans (congrArg some (by kernel_rfl))⟩
  t0:=Tryd.underlying0
  a0:=Tryd.isAgg0
  z0:=Tryd.sizeOf0
  v0:=Tryd.zeroValue0
  t3:=Tryd.underlying3
  a3:=Tryd.isAgg3
  z3:=Tryd.sizeOf3
  v3:=Tryd.zeroValue3
  t4:=Tryd.underlying4
  a4:=Tryd.isAgg4
  z4:=Tryd.sizeOf4
  v4:=Tryd.zeroValue4
  t5:=Tryd.underlying5
  a5:=Tryd.isAgg5
  z5:=Tryd.sizeOf5
  v5:=Tryd.zeroValue5
  t9:=Tryd.underlying9
  a9:=Tryd.isAgg9
  z9:=Tryd.sizeOf9
  v9:=Tryd.zeroValue9
  t22:=Tryd.underlying27
  a22:=Tryd.isAgg27
  z22:=Tryd.sizeOf27
  v22:=Tryd.zeroValue27
  t23:=Tryd.underlying27
  a23:=Tryd.isAgg27
  z23:=Tryd.sizeOf27
  v23:=Tryd.zeroValue27
  t25:=Tryd.underlying3
  a25:=Tryd.isAgg3
  z25:=Tryd.sizeOf3
  v25:=Tryd.zeroValue3
  t32:=Tryd.underlying168
  a32:=Tryd.isAgg168
  z32:=Tryd.sizeOf168
  v32:=Tryd.zeroValue168
  t35:=Tryd.underlying174
  a35:=Tryd.isAgg174
  z35:=Tryd.sizeOf174
  v35:=Tryd.zeroValue174
  t36:=Tryd.underlying175
  a36:=Tryd.isAgg175
  z36:=Tryd.sizeOf175
  v36:=Tryd.zeroValue175
  t41:=Tryd.underlying179
  a41:=Tryd.isAgg179
  z41:=Tryd.sizeOf179
  v41:=Tryd.zeroValue179
  t44:=Tryd.underlying182
  a44:=Tryd.isAgg182
  z44:=Tryd.sizeOf182
  v44:=Tryd.zeroValue182
  t46:=Tryd.underlying184
  a46:=Tryd.isAgg184
  z46:=Tryd.sizeOf184
  v46:=Tryd.zeroValue184
  t53:=Tryd.underlying187
  a53:=Tryd.isAgg187
  z53:=Tryd.sizeOf187
  v53:=Tryd.zeroValue187
  t57:=Tryd.underlying191
  a57:=Tryd.isAgg191
  z57:=Tryd.sizeOf191
  v57:=Tryd.zeroValue191
  t63:=Tryd.underlying199
  a63:=Tryd.isAgg199
  z63:=Tryd.sizeOf199
  v63:=Tryd.zeroValue199
  t64:=Tryd.underlying200
  a64:=Tryd.isAgg200
  z64:=Tryd.sizeOf200
  v64:=Tryd.zeroValue200 }
end Go.Proofs
namespace Go.Pm
open Go.RowKit Go.Maps Go.Sort Go.Shelf Go.Proofs
set_option maxRecDepth 100000

theorem zlF {F : List Int → Option (List Int)} : ∀ (f : Nat) (i : Int) (n : Nat) (l : List Int), zvZ F f i n = some l → l.length = n ∧ (∀ x ∈ l, F [x] ≠ none ∧ i ≤ x ∧ x < i + f) ∧ l.Pairwise (· < ·)
  | _,_,0,l,h=>by simp [zvZ] at h;subst h;exact ⟨rfl,fun x hx=>by simp at hx,List.Pairwise.nil⟩
  | 0,_,n+1,l,h=>by simp [zvZ] at h
  | f+1,i,n+1,l,h=>by
    simp only [zvZ] at h
    split at h
    · rename_i v hv
      split at h
      · rename_i r hr
        simp only [Option.some.injEq] at h;subst h
        obtain ⟨h1,h2,h3⟩:=zlF f (i+1) n r hr
        refine ⟨by simp [h1],fun x hx=>?_,List.pairwise_cons.2 ⟨fun x hx=>by have:=h2 x hx;omega,h3⟩⟩
        rcases List.mem_cons.1 hx with rfl | hx
        · exact ⟨by rw [hv];simp,by omega,by omega⟩
        · have:=h2 x hx;exact ⟨this.1,by omega,by omega⟩
      · cases h
    · obtain ⟨h1, h2, h3⟩ := zlF f (i + 1) (n + 1) l h
      exact ⟨h1,fun x hx=>by have:=h2 x hx;exact ⟨this.1,by omega,by omega⟩,h3⟩
theorem zlG {α : Type} [DecidableEq α] : ∀ {l m : List α}, l.Nodup → (∀ x ∈ l, x ∈ m) → m.length ≤ l.length → l.Perm m
  | [],m,_,_,h=>by
    have:m=[]:=List.eq_nil_of_length_eq_zero (by simpa using h)
    subst this;exact .refl _
  | a :: l,m,hn,hs,h=>by
    obtain ⟨h1,h2⟩:=List.nodup_cons.1 hn
    have ha:=hs a List.mem_cons_self
    have hp:=List.perm_cons_erase ha
    refine (List.Perm.cons a (zlG h2 (fun x hx=>?_) ?_)).trans hp.symm
    · exact (List.mem_erase_of_ne (fun e=>h1 (by rw [← e];exact hx))).2 (hs x (List.mem_cons_of_mem _ hx))
    · have := hp.length_eq
      simp at this h
      omega

theorem zCD:zpa Tryd.prog 103 (.keys 117):=fun w mb=>by
 refine ⟨⟨_,rfl,rfl,by kernel_rfl⟩,?_⟩
 have c:CallsIn Fence.wide 5 Tryd.prog 103 #[.map (some mb)] w fun e w'=>e=.returned (.func (.func 117) #[] #[.pointer (some ⟨w.heap.size,0,none⟩)])∧w'=w.alloc (.cells #[.map (some mb)] 103):=AnyZI.keys_in Tryd.keysA Fence.wide 5 trivial rfl (some mb) w
 refine ((callsIn_wide (n:=5)).1 c).mono ?_
 rintro e w' ⟨rfl,rfl⟩
 exact ⟨rfl,_,rfl⟩
theorem sortsA (m:Nat):AnyZI.SortsIn Tryd.prog Tryd.sortedA_ren Fence.wide m :=
  ⟨fun blk off cap ss W hH hblk hsz=>callsIn_wide.2 (AnyM.slices_Sort_int Tryd.sortA blk off cap ss W hH hblk hsz),
   fun p cap W=>callsIn_wide.2 (AnyM.slices_Sort_int_none Tryd.sortA p cap W)⟩

def rdN:Value→Option (DataW Unit×List MemPlace):=fun _=>some (.nil,[])
theorem zvQ:zpa Tryd.prog 102 (.sorted 117):=fun w h k mb C ty fr es clock vt q n F hw hk hC hb hE hm hn hky=>by
 refine ⟨⟨_,rfl,rfl,by kernel_rfl⟩,?_⟩
 obtain ⟨en,M⟩:=hm
 have E:=zhb hE
 have hq1:q.1=false:=by
  have e:=E.kag
  rw [show ze6 Tryd.prog 3=some false by kernel_rfl] at e
  exact (Option.some.inj e).symm
 have hq2:q.2.1=1:=by
  have e:=E.key
  rw [show zd5 Tryd.prog 8 3=some 1 by kernel_rfl] at e
  exact (Option.some.inj e).symm
 obtain ⟨l,hl⟩:=Option.isSome_iff_exists.1 hky
 have hll:zv0 F n=l:=by unfold zv0;rw [hl];rfl
 obtain ⟨l1,l2,l3⟩:=zlF _ _ _ _ hl
 rw [hll]
 have one:∀ x∈en,x.1=[x.1.headD 0]:=fun x hx=>by
  have:=(M.len x hx).1
  rw [hq2] at this
  match x.1,this with
  | [a],_=>rfl
 have hkeys:es.toList.map (·.key)=(en.map fun x=>x.1.headD 0).map encZ:=by
  have:=congrArg (List.map Prod.fst) M.ents
  simp only [List.map_map] at this ⊢
  refine (show es.toList.map (·.key)=_ from this).trans (List.map_congr_left fun x hx=>?_)
  show zbO q.1 x.1=encZ (x.1.headD 0)
  rw [hq1];rfl
 have hkn:(en.map fun x=>x.1.headD 0).Nodup:=by
  have:(en.map (·.1))=(en.map fun x=>x.1.headD 0).map fun a=>[a]:=by
   rw [List.map_map];exact List.map_congr_left fun x hx=>one x hx
  have hd:=M.nodup
  rw [this] at hd
  exact (List.pairwise_map.1 hd).imp fun h e=>h (by rw [e])
 have hperm:l.Perm (en.map fun x=>x.1.headD 0):=by
  refine zlG (l3.imp fun h=>Int.ne_of_lt h) (fun x hx=>?_) (by rw [List.length_map,← M.size,l1];exact Nat.le_refl _)
  have h1:=(l2 x hx).1
  rw [M.find [x] (by rw [hq2];rfl)] at h1
  by_cases hex:∃ y∈en,y.1=[x]
  ·obtain ⟨y, hy, e⟩ := hex
   exact List.mem_map.2 ⟨y,hy,by rw [e];rfl⟩
  ·exact absurd (zgK fun y hy e=>hex ⟨y,hy,e⟩) h1
 have hread:∀ x∈es.toList,∃ a:Int,x.key=encZ a∧keyOf Tryd.prog 3 x.key=some (.int .i64 a):=fun x hx=>by
  have hm:x.key∈es.toList.map (·.key):=List.mem_map.2 ⟨x,hx,rfl⟩
  rw [hkeys] at hm
  obtain ⟨a,ha,e⟩:=List.mem_map.1 hm
  have hb:=(l2 a (hperm.mem_iff.2 ha)).2
  refine ⟨a,e.symm,?_⟩
  rw [← e]
  have hu:Tryd.prog.underlying 3=some (.int .i64):=Tryd.underlying3
  have hwf:(Lit.int .i64 a).wf=true:=by
   simp only [Lit.wf,Bool.and_eq_true,decide_eq_true_eq]
   have e1:IntKind.i64.min = -9223372036854775808:=by decide
   have e2:IntKind.i64.max=9223372036854775807:=by decide
   rw [e1,e2]
   have:=hb.2
   omega
  simp [keyOf,mapKey,hu,hwf]
 have hsize:es.size=n:=by
  have:=congrArg List.length M.ents
  simp at this
  rw [this,M.size]
 have hst:MapKept.Stamped es clock:=⟨M.born,M.bornN,by rw [hkeys];exact List.pairwise_map.2 (hkn.imp fun h e=>h (encZ_inj e))⟩
 have hown:w.ownsMap Tryd.prog 3 rdN mb n (.map ((es.toList.map (WideElems.rg Tryd.prog 3 rdN)).foldr DataW.insert [])) :=
  ⟨es,clock,hb,⟨by rw [hsize];exact Nat.le_trans hn (by decide),hst,fun x hx=>by
   obtain ⟨a,e1,e2⟩:=hread x hx
   exact ⟨(.int .i64 a,.nil),by simp only [WideElems.rd,e2,rdN,Option.bind_some,Option.map_some]⟩⟩,by omega,rfl⟩
 have hik:(intKeys (.map ((es.toList.map (WideElems.rg Tryd.prog 3 rdN)).foldr DataW.insert []))).Perm l:=by
  show (((es.toList.map (WideElems.rg Tryd.prog 3 rdN)).foldr DataW.insert []).map fun p=>intOf p.1).Perm l
  refine ((WideShapes.sorted_perm _).map _).trans (List.Perm.trans (List.Perm.of_eq ?_) hperm.symm)
  rw [List.map_map]
  have e:(en.map fun x=>x.1.headD 0)=es.toList.map fun x=>intOf ((keyOf Tryd.prog 3 x.key).getD (.bool false)):=by
   have h1:(en.map fun x=>x.1.headD 0)=((en.map fun x=>x.1.headD 0).map encZ).map fun v=>match v with | .int _ a=>a | _=>0:=by
    rw [List.map_map];exact (List.map_id _).symm
   rw [h1,← hkeys,List.map_map]
   refine List.map_congr_left fun x hx=>?_
   obtain ⟨a,e1,e2⟩:=hread x hx
   simp only [Function.comp,e2]
   rw [e1];rfl
  rw [e]
  refine List.map_congr_left fun x hx=>?_
  obtain ⟨a,e1,e2⟩:=hread x hx
  simp only [Function.comp,WideElems.rg,WideElems.rd,e2,rdN,Option.bind_some,Option.map_some,Option.getD_some]
 have hsz:Maps.size (DataW.map ((es.toList.map (WideElems.rg Tryd.prog 3 rdN)).foldr DataW.insert []):DataW Unit)=n:=by
  show List.length _=n
  rw [(WideShapes.sorted_perm _).length_eq];simp [hsize]
 have hlt:k < w.heap.size:=hw.lt hk
 have hcell:w.cell? ⟨k,0,none⟩=some (.map (some mb)):=by
  have:=hw.fz hk
  simp [World.cell?,this,hC]
 have hseq:SeqGives Fence.wide 2 Tryd.prog 117 #[.pointer (some ⟨k,0,none⟩)] encZ (fun ss=>ss.Perm (intKeys _)) (Maps.size _) w :=
  AnyZI.keys_gives (ρ:=Tryd.keysA_ren) { Tryd.keysA with } Fence.wide _ trivial rfl (by omega) k mb n _ w hlt hcell hown
 have cS:=AnyZI.sorted_in Tryd.sortedA Fence.wide 5 trivial trivial trivial trivial rfl (by omega) (sortsA _) (enters_of Tryd.func116 (by kernel_rfl) rfl) 117 #[.pointer (some ⟨k,0,none⟩)] trivial (enters_of Tryd.func117 (by kernel_rfl) rfl) _ _ (by rw [hsz];exact Nat.le_trans hn (by decide)) (by rw [hsz];omega) _ hseq
 change CallsIn _ _ Tryd.prog 102 _ _ _ at cS
 refine ((callsIn_wide (n:=5)).1 cS).mono ?_
 rintro e w' ⟨v,ss,rfl,hS,hrow,_,hbel⟩
 refine ⟨v,rfl,?_,⟨hbel,Nat.zero_le _⟩⟩
 have hsl:ss.mergeSort (fun x y=>decide (x≤y))=l:=by
  rw [show ss.mergeSort (fun x y=>decide (x≤y))=l.mergeSort leI from mergeSort_of_perm_i (hS.trans hik)]
  exact List.mergeSort_of_pairwise (l3.imp fun h=>by simp only [leI,decide_eq_true_eq];exact Int.le_of_lt h)
 have hlen:ss.length=n:=by rw [(hS.trans hik).length_eq,l1]
 rw [hsl,hlen] at hrow
 exact hrow
end Go.Pm
namespace Go.Proofs
open Go Go.Pm
set_option maxRecDepth 100000
set_option linter.unusedVariables false
attribute [local irreducible] Go.Pm.vcFun Go.Pm.vc Go.Pm.vcIter
abbrev zDB:OwnK:=.sorted 117
theorem zK5:zpa Tryd.prog 102 zDB:=zvQ
abbrev zDC:OwnK:=.keys 117
theorem zK6:zpa Tryd.prog 103 zDC:=zCD
structure Rec69 where
  S:web→Int→((Sl (Sl Int))×web)
  P:web→Int→Bool
class Slf69 where
  r:Rec69
section
variable [Slf69]
def zyv : MK
  | [.box 105 [.p (.int .i64 b0_Net_Nodes),.p (.sl b0_Net_Ties_n b0_Net_Ties_s b0_Net_Ties_g),.mo 3 4 b0_out_q b0_out_n b0_out_F],.d (.one (.int .i64 b1))]=>some (IsE zae 4 b0_Net_Ties_s b0_Net_Ties_g∧b0_out_q=(false,1,false,[none])∧Slf69.r.P (⟨(⟨b0_Net_Nodes,(⟨b0_Net_Ties_n,zar b0_Net_Ties_g⟩:(Sl Tie))⟩:Net),(⟨b0_out_n,b0_out_F⟩:Mp)⟩:web) b1=true,[.one (.sl (((Slf69.r.S (⟨(⟨b0_Net_Nodes,(⟨b0_Net_Ties_n,zar b0_Net_Ties_g⟩:(Sl Tie))⟩:Net),(⟨b0_out_n,b0_out_F⟩:Mp)⟩:web) b1).1).len) 1 (fun i=>zcu (((Slf69.r.S (⟨(⟨b0_Net_Nodes,(⟨b0_Net_Ties_n,zar b0_Net_Ties_g⟩:(Sl Tie))⟩:Net),(⟨b0_out_n,b0_out_F⟩:Mp)⟩:web) b1).1).get i)))],[.box 105 [.p (.int .i64 (((Slf69.r.S (⟨(⟨b0_Net_Nodes,(⟨b0_Net_Ties_n,zar b0_Net_Ties_g⟩:(Sl Tie))⟩:Net),(⟨b0_out_n,b0_out_F⟩:Mp)⟩:web) b1).2).Net.Nodes)),.p (.sl (((Slf69.r.S (⟨(⟨b0_Net_Nodes,(⟨b0_Net_Ties_n,zar b0_Net_Ties_g⟩:(Sl Tie))⟩:Net),(⟨b0_out_n,b0_out_F⟩:Mp)⟩:web) b1).2).Net.Ties.len) 4 (fun i=>zae (((Slf69.r.S (⟨(⟨b0_Net_Nodes,(⟨b0_Net_Ties_n,zar b0_Net_Ties_g⟩:(Sl Tie))⟩:Net),(⟨b0_out_n,b0_out_F⟩:Mp)⟩:web) b1).2).Net.Ties.get i))),.mo 3 4 (false,1,false,[none]) ((((Slf69.r.S (⟨(⟨b0_Net_Nodes,(⟨b0_Net_Ties_n,zar b0_Net_Ties_g⟩:(Sl Tie))⟩:Net),(⟨b0_out_n,b0_out_F⟩:Mp)⟩:web) b1).2).out).n) ((((Slf69.r.S (⟨(⟨b0_Net_Nodes,(⟨b0_Net_Ties_n,zar b0_Net_Ties_g⟩:(Sl Tie))⟩:Net),(⟨b0_out_n,b0_out_F⟩:Mp)⟩:web) b1).2).out).F)],.d (.one (.int .i64 b1))])
  | _=>none
abbrev T69:Tabs:=(((((Tabs.nil.addF 88 zxR).addF 89 zCC).addO 102 zDB).addO 103 zDC).addM 69 zyv)
theorem zK7 (hself:zjO Tryd.prog 69 zyv):TabsOk Tryd.prog T69:=(((((TabsOk.nil.addF zKQ).addF zMr).addO zK5).addO zK6).addM hself)
abbrev zCE:Ctrs:=csm T69 (fun _ _=>[]) (fun _=>false)
def zfV:Ann:=⟨57,[(0,zK [0,1] [0,12288]),(1,zK [0,1,10] [0,12288]),(2,zK [0,4] [0,17,12288]),(3,zK [0,1,19] [0,12288]),(4,zK [0,4] [0,12288]),(5,zK [0,1,5] [0,12288]),(6,zK [0,1,5,21,22,23] [0,12288]),(7,zK [0,1,5,21,22,23,24] [0,47,12288]),(8,zK [0,1,5,7,21,22,23] [0,7,47,12288]),(9,zK [0,1,5,7,21,22,23,34] [0,7,47,12288]),(10,zK [0,1,5,7,21,22,23] [0,7,47,12288]),(11,zK [0,1,5,7,21,22,23] [0,7,47,12288]),(12,zK [0,1,5,21,22,23] [0,47,12288]),(13,zK [0,1,5,21,22,23] [0,47,12288]),(14,zK [0,4] [0,47,12288])],
 [(7,⟨[0,1,5,21,22,23],[0,47,12288],[(5,47,27,fun _=>zcu default)],[],[],[],[]⟩)],
 [],
 [],[]⟩
def zgu (w:web) (left:Int) (zaH:Int) (zbc:Int) (zgv:Nat) (zcV:Nat→List PV) (zgw:Nat) (zcW:Nat→List PV) (zaf:Nat) (zaa:(List Int→Option (List Int))):St:=⟨[(0,.one (.c (.ptr 0 0))),(1,.one (.c (.p (.int .i64 left)))),(5,.one (.c (.vec 47))),(21,.one (.c (.p (.sl ((s89 w).len) 5 (fun i=>zad ((s89 w).get i)))))),(22,.one (.c (.p (.int .i64 ((s89 w).len:Int))))),(23,.one (.c (.p (.int .i64 zaH))))],[(0,.box 105 [.p (.int .i64 zbc),.p (.sl zgv 4 zcV),.mo 12288]),(47,.vec 27 1 24 zgw zcW),(12288,.mo 3 4 (false,1,false,[none]) zaf zaa)],[]⟩
def zik (K:List PA×List XA→Prop) (w:web) (left:Int) (zaH:Int) (zbc:Int) (zgv:Nat) (zcV:Nat→List PV) (zgw:Nat) (zcW:Nat→List PV) (zaf:Nat) (zaa:(List Int→Option (List Int))):Prop:=vc Tryd.prog zCE zfV (cdF Tryd.f69 [1,1,1,1,0,1,0]) (zai 0 (sqK Tryd.prog zCE zfV (cdF Tryd.f69 [1,1,1,1,1]) (zmx Tryd.prog Tryd.f69 [.box 105 [.p (.int .i64 w.Net.Nodes),.p (.sl w.Net.Ties.len 4 (fun i=>zae (w.Net.Ties.get i))),.mo 3 4 (false,1,false,[none]) w.out.n w.out.F],.d (.one (.int .i64 left))] (fun a b=>K (a,b))))) (zgu w left zaH zbc zgv zcV zgw zcW zaf zaa)
theorem zCF (w : web) (left : Int) (K : List PA × List XA → Prop) :
  zk1 Tryd.prog zCE zfV 69 [.box 105 [.p (.int .i64 w.Net.Nodes),.p (.sl w.Net.Ties.len 4 (fun i=>zae (w.Net.Ties.get i))),.mo 3 4 (false,1,false,[none]) w.out.n w.out.F],.d (.one (.int .i64 left))] (fun a b=>K (a,b)) =
  ((IsE zae 4 4 (fun i=>zae (w.Net.Ties.get i))∧((false,1,false,[none]):MQ)=(false,1,false,[none])∧(p88 w=true)) ∧
 (zbV (!(s88 w))
 (((w.out.n≤1000000∧(zvZ w.out.F 9223372036854775808 0 w.out.n).isSome=true)) ∧
 (K ([.one (.sl 1 1 (fun _=>(zcu (⟨w.out.n,(fun i=>(zv0 w.out.F w.out.n).getD i 0)⟩:(Sl Int)))))],[.box 105 [.p (.int .i64 w.Net.Nodes),.p (.sl w.Net.Ties.len 4 (fun i=>zae (w.Net.Ties.get i))),.mo 3 4 (false,1,false,[none]) w.out.n w.out.F],.d (.one (.int .i64 left))])))
 (zbV (left == (0:Int))
 (K ([.one (.nils)],[.box 105 [.p (.int .i64 w.Net.Nodes),.p (.sl w.Net.Ties.len 4 (fun i=>zae (w.Net.Ties.get i))),.mo 3 4 (false,1,false,[none]) w.out.n w.out.F],.d (.one (.int .i64 left))]))
 (((∀ i,sc2 ((fun i=>zad ((s89 w).get i)) i)=true)∧IsE zae 4 4 (fun i=>zae (w.Net.Ties.get i))∧((false,1,false,[none]):MQ)=(false,1,false,[none])∧(p89 w=true)) ∧
 (zik K w left (0:Int) w.Net.Nodes w.Net.Ties.len (fun i=>zae (w.Net.Ties.get i)) 0 (fun i=>zcu ((fun _=>default) i)) w.out.n w.out.F))))):=by kernel_rfl
def znc (K:List PA×List XA→Prop) (X0:St→Prop) (w:web) (left:Int) (zaH:Int) (zbc:Int) (zbf:(Sl Tie)) (zbH:(Sl (Sl Int))) (zaf:Nat) (zaa:(List Int→Option (List Int))):Prop :=
  (zbV (decide (zaH < ((s89 w).len : Int)))
 (((0≤zaH∧zaH < ((s89 w).len:Int))) ∧
 (zbV ((zv3 (zaa [((s89 w).get zaH.toNat).Use.Tie]) 0) != 0)
 (X0 (zgu w left (w64 (zaH+(1:Int))) zbc zbf.len (fun i=>zae (zbf.get i)) zbH.len (fun i=>zcu (zbH.get i)) zaf zaa))
 ((IsE zae 4 4 (fun i=>zae (zbf.get i))∧((false,1,false,[none]):MQ)=(false,1,false,[none])∧(Slf69.r.P (⟨(⟨zbc,zbf⟩:Net),(⟨(addN (zaa [((s89 w).get zaH.toNat).Use.Tie]) zaf),(zee [((s89 w).get zaH.toNat).Use.Tie] [1] zaa)⟩:Mp)⟩:web) (w64 (left - (1:Int)))=true)) ∧
 ((((zbH.len+((Slf69.r.S (⟨(⟨zbc,zbf⟩:Net),(⟨(addN (zaa [((s89 w).get zaH.toNat).Use.Tie]) zaf),(zee [((s89 w).get zaH.toNat).Use.Tie] [1] zaa)⟩:Mp)⟩:web) (w64 (left - (1:Int)))).1).len) * 24≤140737488355328∧zbH.len+((Slf69.r.S (⟨(⟨zbc,zbf⟩:Net),(⟨(addN (zaa [((s89 w).get zaH.toNat).Use.Tie]) zaf),(zee [((s89 w).get zaH.toNat).Use.Tie] [1] zaa)⟩:Mp)⟩:web) (w64 (left - (1:Int)))).1).len≤9223372036854775807)) ∧
 (X0 (zgu w left (w64 (zaH+(1:Int))) (((Slf69.r.S (⟨(⟨zbc,zbf⟩:Net),(⟨(addN (zaa [((s89 w).get zaH.toNat).Use.Tie]) zaf),(zee [((s89 w).get zaH.toNat).Use.Tie] [1] zaa)⟩:Mp)⟩:web) (w64 (left - (1:Int)))).2).Net.Nodes) (((Slf69.r.S (⟨(⟨zbc,zbf⟩:Net),(⟨(addN (zaa [((s89 w).get zaH.toNat).Use.Tie]) zaf),(zee [((s89 w).get zaH.toNat).Use.Tie] [1] zaa)⟩:Mp)⟩:web) (w64 (left - (1:Int)))).2).Net.Ties.len) (fun i=>zae (((Slf69.r.S (⟨(⟨zbc,zbf⟩:Net),(⟨(addN (zaa [((s89 w).get zaH.toNat).Use.Tie]) zaf),(zee [((s89 w).get zaH.toNat).Use.Tie] [1] zaa)⟩:Mp)⟩:web) (w64 (left - (1:Int)))).2).Net.Ties.get i)) (zbH.len+((Slf69.r.S (⟨(⟨zbc,zbf⟩:Net),(⟨(addN (zaa [((s89 w).get zaH.toNat).Use.Tie]) zaf),(zee [((s89 w).get zaH.toNat).Use.Tie] [1] zaa)⟩:Mp)⟩:web) (w64 (left - (1:Int)))).1).len) (appG zbH.len (fun i=>zcu (zbH.get i)) (fun i=>zcu (((Slf69.r.S (⟨(⟨zbc,zbf⟩:Net),(⟨(addN (zaa [((s89 w).get zaH.toNat).Use.Tie]) zaf),(zee [((s89 w).get zaH.toNat).Use.Tie] [1] zaa)⟩:Mp)⟩:web) (w64 (left - (1:Int)))).1).get i))) (zC8 (((((Slf69.r.S (⟨(⟨zbc,zbf⟩:Net),(⟨(addN (zaa [((s89 w).get zaH.toNat).Use.Tie]) zaf),(zee [((s89 w).get zaH.toNat).Use.Tie] [1] zaa)⟩:Mp)⟩:web) (w64 (left - (1:Int)))).2).out).F) [((s89 w).get zaH.toNat).Use.Tie]) ((((Slf69.r.S (⟨(⟨zbc,zbf⟩:Net),(⟨(addN (zaa [((s89 w).get zaH.toNat).Use.Tie]) zaf),(zee [((s89 w).get zaH.toNat).Use.Tie] [1] zaa)⟩:Mp)⟩:web) (w64 (left - (1:Int)))).2).out).n)) (zBp [((s89 w).get zaH.toNat).Use.Tie] ((((Slf69.r.S (⟨(⟨zbc,zbf⟩:Net),(⟨(addN (zaa [((s89 w).get zaH.toNat).Use.Tie]) zaf),(zee [((s89 w).get zaH.toNat).Use.Tie] [1] zaa)⟩:Mp)⟩:web) (w64 (left - (1:Int)))).2).out).F))))))))
 (K ([.one (.sl zbH.len 1 (fun i=>zcu (zbH.get i)))],[.box 105 [.p (.int .i64 zbc),.p (.sl zbf.len 4 (fun i=>zae (zbf.get i))),.mo 3 4 (false,1,false,[none]) zaf zaa],.d (.one (.int .i64 left))])))
theorem zqo (K : List PA × List XA → Prop) (X0 : St → Prop) (w : web) (left : Int) (zaH : Int) (zbc : Int) (zbf : (Sl Tie)) (zbH : (Sl (Sl Int))) (zaf : Nat) (zaa : (List Int → Option (List Int))) :
  vc Tryd.prog zCE zfV (cd (cdF Tryd.f69 [1,1,1,1,0,1,0]) [0]) (zbp Tryd.prog zfV 7 X0 (zai 0 (sqK Tryd.prog zCE zfV (cdF Tryd.f69 [1,1,1,1,1]) (zmx Tryd.prog Tryd.f69 [.box 105 [.p (.int .i64 w.Net.Nodes),.p (.sl w.Net.Ties.len 4 (fun i=>zae (w.Net.Ties.get i))),.mo 3 4 (false,1,false,[none]) w.out.n w.out.F],.d (.one (.int .i64 left))] (fun a b=>K (a,b)))))) (zgu w left zaH zbc zbf.len (fun i=>zae (zbf.get i)) zbH.len (fun i=>zcu (zbH.get i)) zaf zaa) =
  znc K X0 w left zaH zbc zbf zbH zaf zaa:=by kernel_rfl
theorem zvR (K : List PA × List XA → Prop) (w : web) (left : Int) (zaH : Int) (zbc : Int) (zgv : Nat) (zcV : Nat → List PV) (zgw : Nat) (zcW : Nat → List PV) (zaf : Nat) (zaa : (List Int → Option (List Int)))
  (h:∀ X0:St→Prop,(∀ (zaH:Int) (zbc:Int) (zbf:(Sl Tie)) (zbH:(Sl (Sl Int))) (zaf:Nat) (zaa:(List Int→Option (List Int))),znc K X0 w left zaH zbc zbf zbH zaf zaa→X0 (zgu w left zaH zbc zbf.len (fun i=>zae (zbf.get i)) zbH.len (fun i=>zcu (zbH.get i)) zaf zaa))→X0 (zgu w left zaH zbc zgv zcV zgw zcW zaf zaa)) :
  zik K w left zaH zbc zgv zcV zgw zcW zaf zaa:=by
  have e:zik K w left zaH zbc zgv zcV zgw zcW zaf zaa=(∀ X:St→Prop,(∀ s,vc Tryd.prog zCE zfV (cd (cdF Tryd.f69 [1,1,1,1,0,1,0]) [0]) (zbp Tryd.prog zfV 7 X (zai 0 (sqK Tryd.prog zCE zfV (cdF Tryd.f69 [1,1,1,1,1]) (zmx Tryd.prog Tryd.f69 [.box 105 [.p (.int .i64 w.Net.Nodes),.p (.sl w.Net.Ties.len 4 (fun i=>zae (w.Net.Ties.get i))),.mo 3 4 (false,1,false,[none]) w.out.n w.out.F],.d (.one (.int .i64 left))] (fun a b=>K (a,b)))))) s→X s)→X (zgu w left zaH zbc zgv zcV zgw zcW zaf zaa)):=by kernel_rfl
  refine zbd e ?_
  intro X hX
  refine h X ?_
  intro zaH zbc zbf zbH zaf zaa hs
  refine hX _ ?_
  have e2:=zqo K X w left zaH zbc zbf zbH zaf zaa
  rw [e2]
  exact hs
abbrev zDD (left:Int) (r:((Sl (Sl Int))×web)):List PA×List XA:=([.one (.sl r.1.len 1 (fun i=>zcu (r.1.get i)))],[.box 105 [.p (.int .i64 r.2.Net.Nodes),.p (.sl r.2.Net.Ties.len 4 (fun i=>zae (r.2.Net.Ties.get i))),.mo 3 4 (false,1,false,[none]) r.2.out.n r.2.out.F],.d (.one (.int .i64 left))])
attribute [irreducible] zik
def zos (w:web) (left:Int) (S0:Int→Int→(Sl Tie)→(Sl (Sl Int))→Nat→(List Int→Option (List Int))→((Sl (Sl Int))×web)) (zaH:Int) (zbc:Int) (zbf:(Sl Tie)) (zbH:(Sl (Sl Int))) (zaf:Nat) (zaa:(List Int→Option (List Int))):((Sl (Sl Int))×web) :=
  (cond (decide (zaH < ((s89 w).len : Int)))
 (cond ((zv3 (zaa [((s89 w).get zaH.toNat).Use.Tie]) 0) != 0)
 (S0 (w64 (zaH+(1:Int))) zbc zbf zbH zaf zaa)
 (S0 (w64 (zaH+(1:Int))) (((Slf69.r.S (⟨(⟨zbc,zbf⟩:Net),(⟨(addN (zaa [((s89 w).get zaH.toNat).Use.Tie]) zaf),(zee [((s89 w).get zaH.toNat).Use.Tie] [1] zaa)⟩:Mp)⟩:web) (w64 (left - (1:Int)))).2).Net.Nodes) (((Slf69.r.S (⟨(⟨zbc,zbf⟩:Net),(⟨(addN (zaa [((s89 w).get zaH.toNat).Use.Tie]) zaf),(zee [((s89 w).get zaH.toNat).Use.Tie] [1] zaa)⟩:Mp)⟩:web) (w64 (left - (1:Int)))).2).Net.Ties) (⟨(zbH.len+((Slf69.r.S (⟨(⟨zbc,zbf⟩:Net),(⟨(addN (zaa [((s89 w).get zaH.toNat).Use.Tie]) zaf),(zee [((s89 w).get zaH.toNat).Use.Tie] [1] zaa)⟩:Mp)⟩:web) (w64 (left - (1:Int)))).1).len),(zms zbH.len zbH.get ((Slf69.r.S (⟨(⟨zbc,zbf⟩:Net),(⟨(addN (zaa [((s89 w).get zaH.toNat).Use.Tie]) zaf),(zee [((s89 w).get zaH.toNat).Use.Tie] [1] zaa)⟩:Mp)⟩:web) (w64 (left - (1:Int)))).1).get)⟩:Sl (Sl Int)) (zC8 (((((Slf69.r.S (⟨(⟨zbc,zbf⟩:Net),(⟨(addN (zaa [((s89 w).get zaH.toNat).Use.Tie]) zaf),(zee [((s89 w).get zaH.toNat).Use.Tie] [1] zaa)⟩:Mp)⟩:web) (w64 (left - (1:Int)))).2).out).F) [((s89 w).get zaH.toNat).Use.Tie]) ((((Slf69.r.S (⟨(⟨zbc,zbf⟩:Net),(⟨(addN (zaa [((s89 w).get zaH.toNat).Use.Tie]) zaf),(zee [((s89 w).get zaH.toNat).Use.Tie] [1] zaa)⟩:Mp)⟩:web) (w64 (left - (1:Int)))).2).out).n)) (zBp [((s89 w).get zaH.toNat).Use.Tie] ((((Slf69.r.S (⟨(⟨zbc,zbf⟩:Net),(⟨(addN (zaa [((s89 w).get zaH.toNat).Use.Tie]) zaf),(zee [((s89 w).get zaH.toNat).Use.Tie] [1] zaa)⟩:Mp)⟩:web) (w64 (left - (1:Int)))).2).out).F))))
 (zbH,(⟨(⟨zbc,zbf⟩:Net),(⟨zaf,zaa⟩:Mp)⟩:web)))
def zot (w:web) (left:Int) (P0:Int→Int→(Sl Tie)→(Sl (Sl Int))→Nat→(List Int→Option (List Int))→Bool) (zaH:Int) (zbc:Int) (zbf:(Sl Tie)) (zbH:(Sl (Sl Int))) (zaf:Nat) (zaa:(List Int→Option (List Int))):Bool :=
  (cond (decide (zaH < ((s89 w).len : Int)))
 (decide ((0≤zaH∧zaH < ((s89 w).len:Int))) &&
 (cond ((zv3 (zaa [((s89 w).get zaH.toNat).Use.Tie]) 0) != 0)
 (P0 (w64 (zaH+(1:Int))) zbc zbf zbH zaf zaa)
 (decide ((Slf69.r.P (⟨(⟨zbc,zbf⟩:Net),(⟨(addN (zaa [((s89 w).get zaH.toNat).Use.Tie]) zaf),(zee [((s89 w).get zaH.toNat).Use.Tie] [1] zaa)⟩:Mp)⟩:web) (w64 (left - (1:Int)))=true)) &&
 (decide (((zbH.len+((Slf69.r.S (⟨(⟨zbc,zbf⟩:Net),(⟨(addN (zaa [((s89 w).get zaH.toNat).Use.Tie]) zaf),(zee [((s89 w).get zaH.toNat).Use.Tie] [1] zaa)⟩:Mp)⟩:web) (w64 (left - (1:Int)))).1).len) * 24≤140737488355328∧zbH.len+((Slf69.r.S (⟨(⟨zbc,zbf⟩:Net),(⟨(addN (zaa [((s89 w).get zaH.toNat).Use.Tie]) zaf),(zee [((s89 w).get zaH.toNat).Use.Tie] [1] zaa)⟩:Mp)⟩:web) (w64 (left - (1:Int)))).1).len≤9223372036854775807)) &&
 (P0 (w64 (zaH+(1:Int))) (((Slf69.r.S (⟨(⟨zbc,zbf⟩:Net),(⟨(addN (zaa [((s89 w).get zaH.toNat).Use.Tie]) zaf),(zee [((s89 w).get zaH.toNat).Use.Tie] [1] zaa)⟩:Mp)⟩:web) (w64 (left - (1:Int)))).2).Net.Nodes) (((Slf69.r.S (⟨(⟨zbc,zbf⟩:Net),(⟨(addN (zaa [((s89 w).get zaH.toNat).Use.Tie]) zaf),(zee [((s89 w).get zaH.toNat).Use.Tie] [1] zaa)⟩:Mp)⟩:web) (w64 (left - (1:Int)))).2).Net.Ties) (⟨(zbH.len+((Slf69.r.S (⟨(⟨zbc,zbf⟩:Net),(⟨(addN (zaa [((s89 w).get zaH.toNat).Use.Tie]) zaf),(zee [((s89 w).get zaH.toNat).Use.Tie] [1] zaa)⟩:Mp)⟩:web) (w64 (left - (1:Int)))).1).len),(zms zbH.len zbH.get ((Slf69.r.S (⟨(⟨zbc,zbf⟩:Net),(⟨(addN (zaa [((s89 w).get zaH.toNat).Use.Tie]) zaf),(zee [((s89 w).get zaH.toNat).Use.Tie] [1] zaa)⟩:Mp)⟩:web) (w64 (left - (1:Int)))).1).get)⟩:Sl (Sl Int)) (zC8 (((((Slf69.r.S (⟨(⟨zbc,zbf⟩:Net),(⟨(addN (zaa [((s89 w).get zaH.toNat).Use.Tie]) zaf),(zee [((s89 w).get zaH.toNat).Use.Tie] [1] zaa)⟩:Mp)⟩:web) (w64 (left - (1:Int)))).2).out).F) [((s89 w).get zaH.toNat).Use.Tie]) ((((Slf69.r.S (⟨(⟨zbc,zbf⟩:Net),(⟨(addN (zaa [((s89 w).get zaH.toNat).Use.Tie]) zaf),(zee [((s89 w).get zaH.toNat).Use.Tie] [1] zaa)⟩:Mp)⟩:web) (w64 (left - (1:Int)))).2).out).n)) (zBp [((s89 w).get zaH.toNat).Use.Tie] ((((Slf69.r.S (⟨(⟨zbc,zbf⟩:Net),(⟨(addN (zaa [((s89 w).get zaH.toNat).Use.Tie]) zaf),(zee [((s89 w).get zaH.toNat).Use.Tie] [1] zaa)⟩:Mp)⟩:web) (w64 (left - (1:Int)))).2).out).F)))))))
 true)
def zil (w : web) (left : Int) : Nat → Int → Int → (Sl Tie) → (Sl (Sl Int)) → Nat → (List Int → Option (List Int)) → ((Sl (Sl Int)) × web)
  | 0=>fun _ _ _ _ _ _=>default
  | k+1=>zos w left (zil w left k)
def zim (w : web) (left : Int) : Nat → Int → Int → (Sl Tie) → (Sl (Sl Int)) → Nat → (List Int → Option (List Int)) → Bool
  | 0=>fun _ _ _ _ _ _=>false
  | k+1=>zot w left (zim w left k)
def zuU (w:web) (left:Int) (zaH:Int) (zbc:Int) (zbf:(Sl Tie)) (zbH:(Sl (Sl Int))) (zaf:Nat) (zaa:(List Int→Option (List Int))):((Sl (Sl Int))×web):=zil w left Fuel zaH zbc zbf zbH zaf zaa
def zuV (w:web) (left:Int) (zaH:Int) (zbc:Int) (zbf:(Sl Tie)) (zbH:(Sl (Sl Int))) (zaf:Nat) (zaa:(List Int→Option (List Int))):Bool:=zim w left Fuel zaH zbc zbf zbH zaf zaa
theorem zCG (K:List PA×List XA→Prop) (w:web) (left:Int) (zaH:Int) (zbc:Int) (zbf:(Sl Tie)) (zbH:(Sl (Sl Int))) (zaf:Nat) (zaa:(List Int→Option (List Int))) (zcV:Nat→List PV) (zlH:zcV=fun i=>zae (zbf.get i)) (zcW:Nat→List PV) (zlI:zcW=fun i=>zcu (zbH.get i)) (hs:zuV w left zaH zbc zbf zbH zaf zaa=true) (hk:K (zDD left (zuU w left zaH zbc zbf zbH zaf zaa))):zik (WkM K) w left zaH zbc zbf.len zcV zbH.len zcW zaf zaa:=by
  refine zvR (WkM K) w left zaH zbc zbf.len zcV zbH.len zcW zaf zaa ?_
  intro X0 hstep
  have key:∀ (k:Nat) (zaH:Int) (zbc:Int) (zbf:(Sl Tie)) (zbH:(Sl (Sl Int))) (zaf:Nat) (zaa:(List Int→Option (List Int))) (zcV:Nat→List PV) (zlH:zcV=fun i=>zae (zbf.get i)) (zcW:Nat→List PV) (zlI:zcW=fun i=>zcu (zbH.get i)),zim w left k zaH zbc zbf zbH zaf zaa=true→K (zDD left (zil w left k zaH zbc zbf zbH zaf zaa))→X0 (zgu w left zaH zbc zbf.len zcV zbH.len zcW zaf zaa):=by
    intro k
    induction k with
    | zero=>intro zaH zbc zbf zbH zaf zaa zcV zlH zcW zlI hs;exact absurd hs Bool.false_ne_true
    | succ k ih =>
      intro zaH zbc zbf zbH zaf zaa zcV zlH zcW zlI hs hk
      subst zlH
      subst zlI
      refine hstep zaH zbc zbf zbH zaf zaa ?_
      have hs:zot w left (zim w left k) zaH zbc zbf zbH zaf zaa=true:=hs
      have hk:K (zDD left (zos w left (zil w left k) zaH zbc zbf zbH zaf zaa)):=hk
      unfold zot at hs
      unfold zos at hk
      generalize zil w left k=S0 at hk ih
      generalize zim w left k=P0 at hs ih
      have hX0:=ih
      exact (za2 (K := fun r => K (zDD left r))
 (fun hs hk => (za6 hs fun hc hs => ⟨hc, (za2 (K := fun r => K (zDD left r))
 (fun hs hk=>(hX0 (w64 (zaH+(1:Int))) zbc zbf zbH zaf zaa (fun i=>zae (zbf.get i)) rfl (fun i=>zcu (zbH.get i)) rfl hs hk))
 (fun hs hk=>(za6 hs fun hc hs=>⟨⟨isE,rfl,hc⟩,(za6 hs fun hc hs=>⟨hc,(hX0 (w64 (zaH+(1:Int))) (((Slf69.r.S (⟨(⟨zbc,zbf⟩:Net),(⟨(addN (zaa [((s89 w).get zaH.toNat).Use.Tie]) zaf),(zee [((s89 w).get zaH.toNat).Use.Tie] [1] zaa)⟩:Mp)⟩:web) (w64 (left - (1:Int)))).2).Net.Nodes) (((Slf69.r.S (⟨(⟨zbc,zbf⟩:Net),(⟨(addN (zaa [((s89 w).get zaH.toNat).Use.Tie]) zaf),(zee [((s89 w).get zaH.toNat).Use.Tie] [1] zaa)⟩:Mp)⟩:web) (w64 (left - (1:Int)))).2).Net.Ties) (⟨(zbH.len+((Slf69.r.S (⟨(⟨zbc,zbf⟩:Net),(⟨(addN (zaa [((s89 w).get zaH.toNat).Use.Tie]) zaf),(zee [((s89 w).get zaH.toNat).Use.Tie] [1] zaa)⟩:Mp)⟩:web) (w64 (left - (1:Int)))).1).len),(zms zbH.len zbH.get ((Slf69.r.S (⟨(⟨zbc,zbf⟩:Net),(⟨(addN (zaa [((s89 w).get zaH.toNat).Use.Tie]) zaf),(zee [((s89 w).get zaH.toNat).Use.Tie] [1] zaa)⟩:Mp)⟩:web) (w64 (left - (1:Int)))).1).get)⟩:Sl (Sl Int)) (zC8 (((((Slf69.r.S (⟨(⟨zbc,zbf⟩:Net),(⟨(addN (zaa [((s89 w).get zaH.toNat).Use.Tie]) zaf),(zee [((s89 w).get zaH.toNat).Use.Tie] [1] zaa)⟩:Mp)⟩:web) (w64 (left - (1:Int)))).2).out).F) [((s89 w).get zaH.toNat).Use.Tie]) ((((Slf69.r.S (⟨(⟨zbc,zbf⟩:Net),(⟨(addN (zaa [((s89 w).get zaH.toNat).Use.Tie]) zaf),(zee [((s89 w).get zaH.toNat).Use.Tie] [1] zaa)⟩:Mp)⟩:web) (w64 (left - (1:Int)))).2).out).n)) (zBp [((s89 w).get zaH.toNat).Use.Tie] ((((Slf69.r.S (⟨(⟨zbc,zbf⟩:Net),(⟨(addN (zaa [((s89 w).get zaH.toNat).Use.Tie]) zaf),(zee [((s89 w).get zaH.toNat).Use.Tie] [1] zaa)⟩:Mp)⟩:web) (w64 (left - (1:Int)))).2).out).F)) (fun i=>zae (((Slf69.r.S (⟨(⟨zbc,zbf⟩:Net),(⟨(addN (zaa [((s89 w).get zaH.toNat).Use.Tie]) zaf),(zee [((s89 w).get zaH.toNat).Use.Tie] [1] zaa)⟩:Mp)⟩:web) (w64 (left - (1:Int)))).2).Net.Ties.get i)) rfl (appG zbH.len (fun i=>zcu (zbH.get i)) (fun i=>zcu (((Slf69.r.S (⟨(⟨zbc,zbf⟩:Net),(⟨(addN (zaa [((s89 w).get zaH.toNat).Use.Tie]) zaf),(zee [((s89 w).get zaH.toNat).Use.Tie] [1] zaa)⟩:Mp)⟩:web) (w64 (left - (1:Int)))).1).get i))) (zh0 (enc:=zcu) (f:=zbH.get) (h:=((Slf69.r.S (⟨(⟨zbc,zbf⟩:Net),(⟨(addN (zaa [((s89 w).get zaH.toNat).Use.Tie]) zaf),(zee [((s89 w).get zaH.toNat).Use.Tie] [1] zaa)⟩:Mp)⟩:web) (w64 (left - (1:Int)))).1).get) rfl rfl) hs hk)⟩)⟩)) hs hk)⟩))
 (fun hs hk=>(zxC hk)) hs hk)
  exact key _ zaH zbc zbf zbH zaf zaa zcV zlH zcW zlI hs hk
def zBl (w:web) (left:Int):((Sl (Sl Int))×web) :=
  (cond (!(s88 w))
 ((⟨1,fun _=>(⟨w.out.n,(fun i=>(zv0 w.out.F w.out.n).getD i 0)⟩:(Sl Int))⟩:(Sl (Sl Int))),w)
 (cond (left == (0:Int))
 ((⟨0,fun _=>default⟩:(Sl (Sl Int))),w)
 (zuU w left (0:Int) w.Net.Nodes w.Net.Ties (⟨0,(fun _=>default)⟩:Sl (Sl Int)) w.out.n w.out.F)))
def zKq (w:web) (left:Int):Bool :=
  (decide ((p88 w=true)) &&
 (cond (!(s88 w))
 (decide ((w.out.n≤1000000∧(zvZ w.out.F 9223372036854775808 0 w.out.n).isSome=true)) &&
 true)
 (cond (left == (0:Int))
 true
 (decide ((p89 w=true)) &&
 (zuV w left (0:Int) w.Net.Nodes w.Net.Ties (⟨0,(fun _=>default)⟩:Sl (Sl Int)) w.out.n w.out.F)))))
theorem zM0 (w:web) (left:Int) (K:List PA×List XA→Prop) (hs:zKq w left=true) (hk:K (zDD left (zBl w left))):zk1 Tryd.prog zCE zfV 69 [.box 105 [.p (.int .i64 w.Net.Nodes),.p (.sl w.Net.Ties.len 4 (fun i=>zae (w.Net.Ties.get i))),.mo 3 4 (false,1,false,[none]) w.out.n w.out.F],.d (.one (.int .i64 left))] (fun a b=>(WkM K) (a,b)):=by
  refine zbd (zCF w left (WkM K)) ?_
  unfold zKq at hs
  unfold zBl at hk
  exact (za6 hs fun hc hs => ⟨⟨isE, rfl, hc⟩, (za2 (K := fun r => K (zDD left r))
 (fun hs hk=>(za6 hs fun hc hs=>⟨hc,(zxC hk)⟩))
 (fun hs hk => (za2 (K := fun r => K (zDD left r))
 (fun hs hk=>(wkM hk (zcw (.one (.nil _ _)) zeB)))
 (fun hs hk=>(za6 hs fun hc hs=>⟨⟨(fun _=>rfl),isE,rfl,hc⟩,(zCG K w left (0:Int) w.Net.Nodes w.Net.Ties (⟨0,(fun _=>default)⟩:Sl (Sl Int)) w.out.n w.out.F (fun i=>zae (w.Net.Ties.get i)) rfl (fun i=>zcu ((fun _=>default) i)) rfl hs hk)⟩)) hs hk)) hs hk)⟩)
def zI6 : MK
  | [.box 105 [.p (.int .i64 b0_Net_Nodes),.p (.sl b0_Net_Ties_n b0_Net_Ties_s b0_Net_Ties_g),.mo 3 4 b0_out_q b0_out_n b0_out_F],.d (.one (.int .i64 b1))]=>some (IsE zae 4 b0_Net_Ties_s b0_Net_Ties_g∧b0_out_q=(false,1,false,[none])∧zKq (⟨(⟨b0_Net_Nodes,(⟨b0_Net_Ties_n,zar b0_Net_Ties_g⟩:(Sl Tie))⟩:Net),(⟨b0_out_n,b0_out_F⟩:Mp)⟩:web) b1=true,[.one (.sl (((zBl (⟨(⟨b0_Net_Nodes,(⟨b0_Net_Ties_n,zar b0_Net_Ties_g⟩:(Sl Tie))⟩:Net),(⟨b0_out_n,b0_out_F⟩:Mp)⟩:web) b1).1).len) 1 (fun i=>zcu (((zBl (⟨(⟨b0_Net_Nodes,(⟨b0_Net_Ties_n,zar b0_Net_Ties_g⟩:(Sl Tie))⟩:Net),(⟨b0_out_n,b0_out_F⟩:Mp)⟩:web) b1).1).get i)))],[.box 105 [.p (.int .i64 (((zBl (⟨(⟨b0_Net_Nodes,(⟨b0_Net_Ties_n,zar b0_Net_Ties_g⟩:(Sl Tie))⟩:Net),(⟨b0_out_n,b0_out_F⟩:Mp)⟩:web) b1).2).Net.Nodes)),.p (.sl (((zBl (⟨(⟨b0_Net_Nodes,(⟨b0_Net_Ties_n,zar b0_Net_Ties_g⟩:(Sl Tie))⟩:Net),(⟨b0_out_n,b0_out_F⟩:Mp)⟩:web) b1).2).Net.Ties.len) 4 (fun i=>zae (((zBl (⟨(⟨b0_Net_Nodes,(⟨b0_Net_Ties_n,zar b0_Net_Ties_g⟩:(Sl Tie))⟩:Net),(⟨b0_out_n,b0_out_F⟩:Mp)⟩:web) b1).2).Net.Ties.get i))),.mo 3 4 (false,1,false,[none]) ((((zBl (⟨(⟨b0_Net_Nodes,(⟨b0_Net_Ties_n,zar b0_Net_Ties_g⟩:(Sl Tie))⟩:Net),(⟨b0_out_n,b0_out_F⟩:Mp)⟩:web) b1).2).out).n) ((((zBl (⟨(⟨b0_Net_Nodes,(⟨b0_Net_Ties_n,zar b0_Net_Ties_g⟩:(Sl Tie))⟩:Net),(⟨b0_out_n,b0_out_F⟩:Mp)⟩:web) b1).2).out).F)],.d (.one (.int .i64 b1))])
  | _=>none
theorem zI7:zax Tryd.prog 69:=⟨_,rfl,rfl,by kernel_rfl⟩
theorem zK8 (hself:zjO Tryd.prog 69 zyv):zjO Tryd.prog 69 zI6:=zCh (zK7 hself) zI7 fun xs safe rs ys h hs K hk=>by
  unfold zI6 at h
  split at h
  · rename_i b0_Net_Nodes b0_Net_Ties_n b0_Net_Ties_s b0_Net_Ties_g b0_out_q b0_out_n b0_out_F b1
    simp only [Option.some.injEq,Prod.mk.injEq] at h
    obtain ⟨rfl,rfl,rfl⟩:=h
    obtain ⟨⟨rfl,b0_Net_Ties_f,rfl⟩,rfl,hs⟩:=hs
    try rw [zau b0_Net_Ties_f] at hs
    try rw [zau b0_Net_Ties_f] at hk
    refine ⟨fun _ _=>[],fun _=>false,zfV,?_⟩
    show zk1 Tryd.prog zCE zfV 69 _ _
    exact zM0 (⟨(⟨b0_Net_Nodes,(⟨b0_Net_Ties_n,b0_Net_Ties_f⟩:(Sl Tie))⟩:Net),(⟨b0_out_n,b0_out_F⟩:Mp)⟩:web) b1 (fun x=>K x.1 x.2) hs hk
  · cases h
end
def zvS : Nat → Rec69
  | 0=>⟨fun _ _=>default,fun _ _=>false⟩
  | k+1=>⟨@zBl ⟨zvS k⟩,@zKq ⟨zvS k⟩⟩
theorem zI8 : ∀ k, zjO Tryd.prog 69 (@zyv ⟨zvS k⟩)
  | 0=>fun xs ys safe rs h hs=>by
    unfold zyv at h
    split at h
    · simp only [Option.some.injEq, Prod.mk.injEq] at h
      obtain ⟨rfl,rfl,rfl⟩:=h
      exact absurd hs.2.2 Bool.false_ne_true
    · cases h
  | k+1=>@zK8 ⟨zvS k⟩ (zI8 k)
def s69 (w:web) (left:Int):((Sl (Sl Int))×web):=(zvS 64).S w left
def p69 (w:web) (left:Int):Bool:=(zvS 64).P w left
def zI9 : MK
  | [.box 105 [.p (.int .i64 b0_Net_Nodes),.p (.sl b0_Net_Ties_n b0_Net_Ties_s b0_Net_Ties_g),.mo 3 4 b0_out_q b0_out_n b0_out_F],.d (.one (.int .i64 b1))]=>some (IsE zae 4 b0_Net_Ties_s b0_Net_Ties_g∧b0_out_q=(false,1,false,[none])∧p69 (⟨(⟨b0_Net_Nodes,(⟨b0_Net_Ties_n,zar b0_Net_Ties_g⟩:(Sl Tie))⟩:Net),(⟨b0_out_n,b0_out_F⟩:Mp)⟩:web) b1=true,[.one (.sl (((s69 (⟨(⟨b0_Net_Nodes,(⟨b0_Net_Ties_n,zar b0_Net_Ties_g⟩:(Sl Tie))⟩:Net),(⟨b0_out_n,b0_out_F⟩:Mp)⟩:web) b1).1).len) 1 (fun i=>zcu (((s69 (⟨(⟨b0_Net_Nodes,(⟨b0_Net_Ties_n,zar b0_Net_Ties_g⟩:(Sl Tie))⟩:Net),(⟨b0_out_n,b0_out_F⟩:Mp)⟩:web) b1).1).get i)))],[.box 105 [.p (.int .i64 (((s69 (⟨(⟨b0_Net_Nodes,(⟨b0_Net_Ties_n,zar b0_Net_Ties_g⟩:(Sl Tie))⟩:Net),(⟨b0_out_n,b0_out_F⟩:Mp)⟩:web) b1).2).Net.Nodes)),.p (.sl (((s69 (⟨(⟨b0_Net_Nodes,(⟨b0_Net_Ties_n,zar b0_Net_Ties_g⟩:(Sl Tie))⟩:Net),(⟨b0_out_n,b0_out_F⟩:Mp)⟩:web) b1).2).Net.Ties.len) 4 (fun i=>zae (((s69 (⟨(⟨b0_Net_Nodes,(⟨b0_Net_Ties_n,zar b0_Net_Ties_g⟩:(Sl Tie))⟩:Net),(⟨b0_out_n,b0_out_F⟩:Mp)⟩:web) b1).2).Net.Ties.get i))),.mo 3 4 (false,1,false,[none]) ((((s69 (⟨(⟨b0_Net_Nodes,(⟨b0_Net_Ties_n,zar b0_Net_Ties_g⟩:(Sl Tie))⟩:Net),(⟨b0_out_n,b0_out_F⟩:Mp)⟩:web) b1).2).out).n) ((((s69 (⟨(⟨b0_Net_Nodes,(⟨b0_Net_Ties_n,zar b0_Net_Ties_g⟩:(Sl Tie))⟩:Net),(⟨b0_out_n,b0_out_F⟩:Mp)⟩:web) b1).2).out).F)],.d (.one (.int .i64 b1))])
  | _=>none
theorem zM1:zjO Tryd.prog 69 zI9:=zI8 64
abbrev T71:Tabs:=(Tabs.nil.addF 101 zuI)
theorem zK9:TabsOk Tryd.prog T71:=(TabsOk.nil.addF zIX)
abbrev G71:Ctrs:=csm T71 (fun _ _=>[]) (fun _=>false)
def zFu:Ann:=⟨36,[(0,zK [0,1] []),(1,zK [0,1,9,10,11] []),(2,zK [0,1,9,10,11,12] []),(3,zK [0,1,5,6,9,10,11] []),(4,zK [0,1,5,6,9,10,11,19] []),(5,zK [4] []),(6,zK [0,1,6,7,9,10,11] []),(7,zK [0,1,8,9,10,11] []),(8,zK [0,1,8,9,10,11,28] []),(9,zK [4] []),(10,zK [0,1,9,10,11] []),(11,zK [35] []),(12,zK [4] []),(13,zK [4] [])],
 [(2,zK [0,1,9,10,11] [])],
 [(6,zK [0,1,5,6,9,10,11] []),(8,zK [0,1,8,9,10,11] [])],
 [],[]⟩
abbrev R71:=Int
abbrev e71 (r:R71):List PA:=[.one (.int .i64 r)]
@[irreducible] def z71:=ptF Tryd.prog G71 zFu Tryd.f71
def zDE (ze0:(Sl Int)) (zet:(Sl Int)) (zj5:(Sl Int)) (zaJ:Int) (za5:Int) (zdL:Nat→List PV) (zdM:Nat→List PV) (zjz:Nat→List PV):St:=⟨[(0,zP (.sl ze0.len 1 zdL)),(1,zP (.sl zet.len 1 zdM)),(9,zP (.sl zj5.len 1 zjz)),(10,zI zaJ),(11,zI za5)],[],[]⟩
abbrev zCH (K:List PA→Prop) (X:St→Prop) (P:(Sl Int)→(Sl Int)→(Sl Int)→Int→Int→Bool) (S:(Sl Int)→(Sl Int)→(Sl Int)→Int→Int→Int):Prop:=∀ ⦃ze0:(Sl Int)⦄ ⦃zet:(Sl Int)⦄ ⦃zj5:(Sl Int)⦄ ⦃zaJ:Int⦄ ⦃za5:Int⦄ ⦃zdL:Nat→List PV⦄ ⦃zdM:Nat→List PV⦄ ⦃zjz:Nat→List PV⦄,P ze0 zet zj5 zaJ za5=true→K (e71 (S ze0 zet zj5 zaJ za5))→zdL=zg enc_3 ze0→zdM=zg enc_3 zet→zjz=zg enc_3 zj5→X (zDE ze0 zet zj5 zaJ za5 zdL zdM zjz)
section
variable {K:List PA→Prop} {s1_a0:(Sl Int)} {s2_a1:(Sl Int)} {ze0:(Sl Int)} {zet:(Sl Int)} {zj5:(Sl Int)} {zaJ:Int} {za5:Int} {zdL:Nat→List PV} {zdM:Nat→List PV} {zjz:Nat→List PV} {X0:St→Prop} {P0:(Sl Int)→(Sl Int)→(Sl Int)→Int→Int→Bool} {S0:(Sl Int)→(Sl Int)→(Sl Int)→Int→Int→Int} {zp8:(Sl Int)} {zj4:(Sl Int)} {iv1:Int} {zFv:Int} {zsf:(Sl Int)} {zin:Int} {zda:Int} {zp9:Nat→List PV} {zqa:Nat→List PV} {zDF:Nat→List PV} {zqb:(Sl Int)} {zqc:(Sl Int)} {cv2:Int} {zsg:Int} {zqd:Nat→List PV} {zqe:Nat→List PV}
def zyw (S0:(Sl Int)→(Sl Int)→(Sl Int)→Int→Int→Int) (zsf:(Sl Int)) (zin:Int) (zqb:(Sl Int)) (zqc:(Sl Int)) (cv2:Int) (zsg:Int):Int :=
  (cond (cv2 != (0:Int))
 cv2
 (S0 zqb zqc zsf zin (w64 (zsg+(1:Int)))))
def zyx (P0:(Sl Int)→(Sl Int)→(Sl Int)→Int→Int→Bool) (zsf:(Sl Int)) (zin:Int) (zqb:(Sl Int)) (zqc:(Sl Int)) (cv2:Int) (zsg:Int):Bool :=
  (cond (cv2 != (0:Int))
 true
 (P0 zqb zqc zsf zin (w64 (zsg+(1:Int)))))
theorem zFw (hX0:zCH K X0 P0 S0) (hs:zyx P0 zsf zin zqb zqc cv2 zsg=true) (hk:K (e71 (zyw S0 zsf zin zqb zqc cv2 zsg))) (zx7:zqd=zg enc_3 zqb) (zx8:zqe=zg enc_3 zqc):z71 K [1,0,1,0,0,1,1,0,0,1,1,1,1] [X0] ⟨[(0,zP (.sl zqb.len 1 zqd)),(1,zP (.sl zqc.len 1 zqe)),(8,zI cv2),(9,zS enc_3 1 zsf),(10,zI zin),(11,zI zsg)],[],[]⟩:=by subst zx7;subst zx8;exact zbd (by kernel_rfl) (zc hs hk (fun hs hk=>hk) (fun hs hk=>(hX0 hs hk rfl rfl rfl)))
def zyy (S0:(Sl Int)→(Sl Int)→(Sl Int)→Int→Int→Int) (zp8:(Sl Int)) (zj4:(Sl Int)) (iv1:Int) (zFv:Int) (zsf:(Sl Int)) (zin:Int) (zda:Int):Int :=
  (zyw S0 zsf zin zp8 zj4 (zBk zFv (zj4.get iv1.toNat)) zda)
def zyz (P0:(Sl Int)→(Sl Int)→(Sl Int)→Int→Int→Bool) (zp8:(Sl Int)) (zj4:(Sl Int)) (iv1:Int) (zFv:Int) (zsf:(Sl Int)) (zin:Int) (zda:Int):Bool :=
  (decide ((0≤iv1∧iv1 < (zj4.len:Int))) &&
 (zyx P0 zsf zin zp8 zj4 (zBk zFv (zj4.get iv1.toNat)) zda))
theorem zFx (hX0:zCH K X0 P0 S0) (hs:zyz P0 zp8 zj4 iv1 zFv zsf zin zda=true) (hk:K (e71 (zyy S0 zp8 zj4 iv1 zFv zsf zin zda))) (zx9:zp9=zg enc_3 zp8) (zya:zqa=zg enc_3 zj4) (zJa:zDF=zg enc_3 zsf):z71 K [1,0,1,0,0,1,1,0,0,1,1] [X0] ⟨[(0,zP (.sl zp8.len 1 zp9)),(1,zP (.sl zj4.len 1 zqa)),(5,zI iv1),(6,zI zFv),(9,zP (.sl zsf.len 1 zDF)),(10,zI zin),(11,zI zda)],[],[]⟩:=by subst zx9;subst zya;subst zJa;exact zbd (by kernel_rfl) (za6 hs fun hc hs=>And.intro hc (zFw hX0 hs hk rfl rfl))
def zyA (S0:(Sl Int)→(Sl Int)→(Sl Int)→Int→Int→Int) (ze0:(Sl Int)) (zet:(Sl Int)) (zj5:(Sl Int)) (zaJ:Int) (za5:Int):Int :=
  (cond (decide (za5 < zaJ))
 (cond (decide (za5 ≥ (zet.len : Int)))
 (1:Int)
 (zyy S0 ze0 zet za5 (zj5.get za5.toNat) zj5 zaJ za5))
 (cond (decide ((ze0.len : Int) < (zet.len : Int)))
 (-1:Int)
 (0:Int)))
def zyB (P0:(Sl Int)→(Sl Int)→(Sl Int)→Int→Int→Bool) (ze0:(Sl Int)) (zet:(Sl Int)) (zj5:(Sl Int)) (zaJ:Int) (za5:Int):Bool :=
  (cond (decide (za5 < zaJ))
 (decide ((0≤za5∧za5 < (zj5.len:Int))) &&
 (cond (decide (za5 ≥ (zet.len : Int)))
 true
 (zyz P0 ze0 zet za5 (zj5.get za5.toNat) zj5 zaJ za5)))
 true)
def zyC:Nat→(Sl Int)→(Sl Int)→(Sl Int)→Int→Int→Int:=lpO (fun _ _ _ _ _=>default) (zyA)
def zyD:Nat→(Sl Int)→(Sl Int)→(Sl Int)→Int→Int→Bool:=lpO (fun _ _ _ _ _=>false) (zyB)
def zyE (ze0:(Sl Int)) (zet:(Sl Int)) (zj5:(Sl Int)) (zaJ:Int) (za5:Int):Int:=zyC Fuel ze0 zet zj5 zaJ za5
def zyF (ze0:(Sl Int)) (zet:(Sl Int)) (zj5:(Sl Int)) (zaJ:Int) (za5:Int):Bool:=zyD Fuel ze0 zet zj5 zaJ za5
theorem zFy (hs:zyF ze0 zet zj5 zaJ za5=true) (hk:K (e71 (zyE ze0 zet zj5 zaJ za5))) (zlg:zdL=zg enc_3 ze0) (zlh:zdM=zg enc_3 zet) (zyG:zjz=zg enc_3 zj5):z71 K [1,0,1,0] [] (zDE ze0 zet zj5 zaJ za5 zdL zdM zjz) :=
  zl (fun X=>z71 K [1,0,1,0,0] [X]) (by kernel_rfl) fun X0 hX =>
  (show ∀ k, zCH K X0 (zyD k) (zyC k) from zhs _ _ (zyB) (zyA) (zCH K X0)
 (by intro _ _ _ _ _ _ _ _ hs;exact absurd hs Bool.false_ne_true)
 (by intro P0 S0 hX0 ze0 zet zj5 zaJ za5 zdL zdM zjz hs hk zlg zlh zyG;subst zlg;subst zlh;subst zyG;exact hX _ (zbd (by kernel_rfl) (zc hs hk (fun hs hk=>(za6 hs fun hc hs=>And.intro hc (zc hs hk (fun hs hk=>hk) (fun hs hk=>(zFx hX0 hs hk rfl rfl rfl))))) (fun hs hk=>(zt hk (fun hk=>hk) (fun hk=>hk))))))) _ hs hk zlg zlh zyG
def s71 (s1_a0:(Sl Int)) (s2_a1:(Sl Int)):Int :=
  (zyE s1_a0 s2_a1 s1_a0 (s1_a0.len:Int) (0:Int))
def p71 (s1_a0:(Sl Int)) (s2_a1:(Sl Int)):Bool :=
  (zyF s1_a0 s2_a1 s1_a0 (s1_a0.len:Int) (0:Int))
end
theorem q71 (s1_a0:(Sl Int)) (s2_a1:(Sl Int)) (K:List PA→Prop) (hs:p71 s1_a0 s2_a1=true) (hk:K (e71 (s71 s1_a0 s2_a1))):vcFun Tryd.prog G71 zFu 71 [.one (.sl s1_a0.len 1 (fun i=>enc_3 (s1_a0.get i))),.one (.sl s2_a1.len 1 (fun i=>enc_3 (s2_a1.get i)))] K :=
  zbd (by kernel_rfl) (zFy hs hk rfl rfl rfl)
def zFz : List PA → COut
  | [.one (.sl zdw zii zdx),.one (.sl zdH ziO zdE)]=>.det (IsE enc_3 1 zii zdx∧IsE enc_3 1 ziO zdE∧p71 (⟨zdw,zav zdx⟩:(Sl Int)) (⟨zdH,zav zdE⟩:(Sl Int))=true) [.one (.int .i64 (s71 (⟨zdw,zav zdx⟩:(Sl Int)) (⟨zdH,zav zdE⟩:(Sl Int))))]
  | _=>.no
theorem zJb:zax Tryd.prog 71:=⟨_,rfl,rfl,by kernel_rfl⟩
theorem zM2:Ok Tryd.prog 71 zFz:=zbY zK9 zJb fun args K h=>by
  unfold zFz at h
  split at h
  · rename_i zdw zii zdx zdH ziO zdE
    obtain ⟨⟨⟨rfl,zfx,rfl⟩,⟨rfl,zgo,rfl⟩,hs⟩,hk⟩:=h
    try rw [zby zfx] at hs
    try rw [zby zfx] at hk
    try rw [zby zgo] at hs
    try rw [zby zgo] at hk
    exact ⟨(fun _ _=>[]),(fun _=>false),zFu,q71 (⟨zdw,zfx⟩:(Sl Int)) (⟨zdH,zgo⟩:(Sl Int)) K hs hk⟩
  · exact h.elim
abbrev T70:Tabs:=(Tabs.nil.addF 71 zFz)
theorem zLa:TabsOk Tryd.prog T70:=(TabsOk.nil.addF zM2)
abbrev G70:Ctrs:=csm T70 (fun _ _=>[]) (fun _=>false)
def zFA:Ann:=⟨33,[(0,zK [0,1] []),(1,zK [0,1,9] []),(3,zK [0,1,5] []),(4,zK [0,1,5,6] []),(5,zK [0,1,5,6,17] []),(6,zK [0,1,5,6] []),(7,zK [0,1,5,6,27] []),(8,zK [0,1,5,6] []),(9,zK [4] [])],
 [(5,zK [0,1,5,6] [])],
 [(3,zK [0,1] []),(8,zK [0,1,5,6,27] [])],
 [],[]⟩
abbrev R70:=(Sl Int)
abbrev e70 (r:R70):List PA:=[.one (.sl r.len 1 (fun i=>enc_3 (r.get i)))]
@[irreducible] def z70:=ptF Tryd.prog G70 zFA Tryd.f70
def zDG (x:(Sl (Sl Int))) (mv1:(Sl Int)) (iv1:Int) (zqp:Nat→List PV):St:=⟨[(0,zS zcu 1 x),(1,zP (.fn 71 [] [])),(5,zP (.sl mv1.len 1 zqp)),(6,zI iv1)],[],[]⟩
abbrev zFB (K:List PA→Prop) (x:(Sl (Sl Int))) (X:St→Prop) (P:(Sl Int)→Int→Bool) (S:(Sl Int)→Int→(Sl Int)):Prop:=∀ ⦃mv1:(Sl Int)⦄ ⦃iv1:Int⦄ ⦃zqp:Nat→List PV⦄,P mv1 iv1=true→K (e70 (S mv1 iv1))→zqp=zg enc_3 mv1→X (zDG x mv1 iv1 zqp)
section
variable {K:List PA→Prop} {x:(Sl (Sl Int))} {mv1:(Sl Int)} {iv1:Int} {zqp:Nat→List PV} {X1:St→Prop} {P1:(Sl Int)→Int→Bool} {S1:(Sl Int)→Int→(Sl Int)} {mv2:(Sl Int)} {iv2:Int} {zsh:Bool} {zJc:Nat→List PV}
def zyH (S1:(Sl Int)→Int→(Sl Int)) (x:(Sl (Sl Int))) (mv2:(Sl Int)) (iv2:Int) (zsh:Bool):(Sl Int) :=
  (cond zsh
 (S1 (x.get iv2.toNat) (w64 (iv2+(1:Int))))
 (S1 mv2 (w64 (iv2+(1:Int)))))
def zyI (P1:(Sl Int)→Int→Bool) (x:(Sl (Sl Int))) (mv2:(Sl Int)) (iv2:Int) (zsh:Bool):Bool :=
  (cond zsh
 (decide ((0≤iv2∧iv2 < (x.len:Int))) &&
 (P1 (x.get iv2.toNat) (w64 (iv2+(1:Int)))))
 (P1 mv2 (w64 (iv2+(1:Int)))))
theorem zFC (hX1:zFB K x X1 P1 S1) (hs:zyI P1 x mv2 iv2 zsh=true) (hk:K (e70 (zyH S1 x mv2 iv2 zsh))) (zLb:zJc=zg enc_3 mv2):z70 K [1,1,1,0,1,0,0,1,0,0,1] [X1] ⟨[(0,zS zcu 1 x),(1,zP (.fn 71 [] [])),(5,zP (.sl mv2.len 1 zJc)),(6,zI iv2),(27,zB zsh)],[],[]⟩:=by subst zLb;exact zbd (by kernel_rfl) (zc hs hk (fun hs hk=>(za6 hs fun hc hs=>And.intro hc (hX1 hs hk rfl))) (fun hs hk=>(hX1 hs hk rfl)))
def zyJ (x:(Sl (Sl Int))) (S1:(Sl Int)→Int→(Sl Int)) (mv1:(Sl Int)) (iv1:Int):(Sl Int) :=
  (cond (decide (iv1 < (x.len : Int)))
 (zyH S1 x mv1 iv1 (decide ((s71 (x.get iv1.toNat) mv1) < (0:Int))))
 mv1)
def zyK (x:(Sl (Sl Int))) (P1:(Sl Int)→Int→Bool) (mv1:(Sl Int)) (iv1:Int):Bool :=
  (cond (decide (iv1 < (x.len : Int)))
 (decide ((0≤iv1∧iv1 < (x.len:Int))) &&
 (decide ((p71 (x.get iv1.toNat) mv1=true)) &&
 (zyI P1 x mv1 iv1 (decide ((s71 (x.get iv1.toNat) mv1) < (0:Int))))))
 true)
def zyL (x:(Sl (Sl Int))):Nat→(Sl Int)→Int→(Sl Int):=lpO (fun _ _=>default) (zyJ x)
def zyM (x:(Sl (Sl Int))):Nat→(Sl Int)→Int→Bool:=lpO (fun _ _=>false) (zyK x)
def zyN (x:(Sl (Sl Int))) (mv1:(Sl Int)) (iv1:Int):(Sl Int):=zyL x Fuel mv1 iv1
def zyO (x:(Sl (Sl Int))) (mv1:(Sl Int)) (iv1:Int):Bool:=zyM x Fuel mv1 iv1
theorem zFD (hs:zyO x mv1 iv1=true) (hk:K (e70 (zyN x mv1 iv1))) (zFE:zqp=zg enc_3 mv1):z70 K [1,1,1,0,1,0] [] (zDG x mv1 iv1 zqp) :=
  zl (fun X=>z70 K [1,1,1,0,1,0,0] [X]) (by kernel_rfl) fun X1 hX =>
  (show ∀ k, zFB K x X1 (zyM x k) (zyL x k) from zhs _ _ (zyK x) (zyJ x) (zFB K x X1)
 (by intro _ _ _ hs;exact absurd hs Bool.false_ne_true)
 (by intro P1 S1 hX1 mv1 iv1 zqp hs hk zFE;subst zFE;exact hX _ (zbd (by kernel_rfl) (zc hs hk (fun hs hk=>(za6 hs fun hc hs=>And.intro hc (za6 hs fun hc hs=>And.intro (And.intro (zE enc_3 1 ((x.get iv1.toNat).get)) (And.intro (zE enc_3 1 mv1.get) hc)) (zFC hX1 hs hk rfl)))) (fun hs hk=>hk))))) _ hs hk zFE
def zyP (x:(Sl (Sl Int))):(Sl Int) :=
  (zyN x (x.get 0) (1:Int))
def zyQ (x:(Sl (Sl Int))):Bool :=
  (decide ((0≤(0:Int)∧(0:Int) < (x.len:Int))) &&
 (zyO x (x.get 0) (1:Int)))
theorem zFF (hs:zyQ x=true) (hk:K (e70 (zyP x))):z70 K [1,1] [] ⟨[(0,zS zcu 1 x),(1,zP (.fn 71 [] []))],[],[]⟩:=zbd (by kernel_rfl) (za6 hs fun hc hs=>And.intro hc (zFD hs hk rfl))
def s70 (x:(Sl (Sl Int))):(Sl Int) :=
  (cond (decide ((x.len : Int) < (1:Int)))
 default
 (zyP x))
def p70 (x:(Sl (Sl Int))):Bool :=
  (cond (decide ((x.len : Int) < (1:Int)))
 false
 (zyQ x))
end
theorem q70 (x:(Sl (Sl Int))) (K:List PA→Prop) (hs:p70 x=true) (hk:K (e70 (s70 x))):vcFun Tryd.prog G70 zFA 70 [.one (.sl x.len 1 (fun i=>zcu (x.get i))),.one (.fn 71 [] [])] K :=
  zbd (by kernel_rfl) (zc hs hk (fun hs hk=>(absurd hs Bool.false_ne_true:False)) (fun hs hk=>(zFF hs hk)))
def zFG : List PA → COut
  | [.one (.sl zdw zii zdx),.one (.fn 71 [] [])]=>.det (IsE zcu 1 zii zdx∧p70 (⟨zdw,zn3 zdx⟩:(Sl (Sl Int)))=true) [.one (.sl ((s70 (⟨zdw,zn3 zdx⟩:(Sl (Sl Int)))).len) 1 (fun i=>enc_3 ((s70 (⟨zdw,zn3 zdx⟩:(Sl (Sl Int)))).get i)))]
  | _=>.no
theorem zJd:zax Tryd.prog 70:=⟨_,rfl,rfl,by kernel_rfl⟩
theorem zM3:Ok Tryd.prog 70 zFG:=zbY zLa zJd fun args K h=>by
  unfold zFG at h
  split at h
  · rename_i zdw zii zdx
    obtain ⟨⟨⟨rfl,zfx,rfl⟩,hs⟩,hk⟩:=h
    try rw [zk5 zfx] at hs
    try rw [zk5 zfx] at hk
    exact ⟨(fun _ _=>[]),(fun _=>false),zFA,q70 (⟨zdw,zfx⟩:(Sl (Sl Int))) K hs hk⟩
  · exact h.elim
end Go.Proofs
namespace Go.Pm
open Go.RowKit (Below)
section
variable (P:Program) (Γ:Ctrs)
def zuW (fi : FuncId) : Code → Option (Nat × Nat)
  | .region id ops false=>match ops.toList with
    | [o1,o2]=>match o1.op,o1.dst,o1.guard,o2.op,o2.dst,o2.guard with
      | .makeFunc (.func f) first caps,some t,none,.defer { callee:=.value (.tmp t'),args,argTypes:=_ },none,none=>match Nat.beq f fi && Nat.beq t t' && first.isEmpty && args.isEmpty && Nat.beq caps.size 2 with
        | true=>some (id,t)
        | false=>none
      | _,_,_,_,_,_=>none
    | _=>none
  | _=>none
def zCI (fi : FuncId) (ann : Ann) : Code → (Exit → St → Prop) → St → Prop
  | .seq a b,K,σ=>match zuW fi a with
    | some (id,t)=>match Nat.blt t ann.nt with
      | true=>zEb P ann id (vc P Γ ann b K) ⟨(t,.junk) :: σ.env,σ.objs,[]⟩
      | false=>False
    | none=>vc P Γ ann a (zDa (zCI fi ann b K) K) σ
  | c,K,σ=>vc P Γ ann c K σ
def zuX (fi:FuncId) (ann:Ann) (f:FuncId) (args:List PA) (K:List PA→Prop):Prop :=
 match P.funcs[f]? with
 | some fn=>match fn.body with
  | some c=>match Nat.beq ann.nt fn.ntmps && Nat.ble args.length ann.nt with
   | true=>zCI P Γ fi ann c (zbo P fn K) ⟨zhM 0 args,[],[]⟩
   | false=>False
  | none=>False
 | none=>False
end
section
variable {P:Program} {Γ:Ctrs} {B:Nat} {w0:World}
theorem znd {fi:FuncId} {c:Code} {id t:Nat} (h:zuW fi c=some (id,t)):∃ (o1 o2:Oper) (caps:Array Operand) (ats:Array TypeId),c=.region id #[o1,o2] false∧caps.size=2∧o1.op=.makeFunc (.func fi) #[] caps∧o1.dst=some t∧o1.guard=none ∧
  o2.op=.defer { callee:=.value (.tmp t),args:=#[],argTypes:=ats }∧o2.dst=none∧o2.guard=none:=by
 unfold zuW at h
 split at h
 ·rename_i id' ops
  split at h
  ·rename_i o1 o2 hops
   split at h
   ·rename_i f first caps t' t2 args ats e1 e2 e3 e4 e5 e6
    split at h
    ·rename_i hc
     simp only [Bool.and_eq_true] at hc
     simp only [Option.some.injEq,Prod.mk.injEq] at h
     obtain ⟨rfl,rfl⟩:=h
     obtain ⟨⟨⟨⟨h1,h2⟩,h3⟩,h4⟩,h5⟩:=hc
     have h5:=Nat.eq_of_beq_eq_true h5
     have h1:=Nat.eq_of_beq_eq_true h1
     have h2:=Nat.eq_of_beq_eq_true h2
     have h3:first = #[]:=by simpa using h3
     have h4:args = #[]:=by simpa using h4
     subst h1 h2 h3 h4
     refine ⟨o1,o2,caps,ats,?_,h5,e1,e2,e3,e4,e5,e6⟩
     rw [← Array.toArray_toList (xs:=ops),hops]
    ·cases h
   ·cases h
  ·cases h
 ·cases h
theorem zvT {fi : FuncId} (hidle : ∀ caps : Array Value, caps.size = 2 → zns P { target := .fn (.func fi) caps, args := #[] }) {c : Code} {id t nt n : Nat} {h0 : Fz} {D : List Nat} {a0 a : Act} {σ : St} {g : Gh} {w : World} {Q : Exit → Act → World → Prop}
    (h:zuW fi c=some (id,t)) (ht:t < nt) (htD:t∈D) (S:Sim P nt B w0 h0 g σ a w) (hkp:Kp D a0 a)
    (hQ:∀ a',Sim P nt B w0 h0 g ⟨(t,.junk) :: σ.env,σ.objs,[]⟩ a' w→Kp D a0 a'→Q .normal a' w):c.wpIn (FR none) n P Q a w:=by
  obtain ⟨o1,o2,caps,ats,rfl,e0,e1,e2,e3,e4,e5,e6⟩:=znd h
  refine wpIn_region ?_
  show wpOpsIn (FR none) n P #[o1,o2] Q [0,1] a w
  have w1:∀ tm,Region.wanted o1 (yielded #[o1,o2] tm)=true:=fun tm=>by simp [Region.wanted,e3]
  have w2:∀ tm,Region.wanted o2 (yielded #[o1,o2] tm)=true:=fun tm=>by simp [Region.wanted,e6]
  have r1:(execOp a.eval o1).run P w=.ok (.value (.func (.func fi) #[] (caps.map a.eval))) w:=by
    simp only [execOp,e1,Instr.makeFunc,Sem.run_bind,Sem.run_pure,Result.andThen_ok];simp
  have ets:t < a.tmps.size:=Nat.lt_of_lt_of_le ht S.size
  have ev:(a.put (some t) (.func (.func fi) #[] (caps.map a.eval))).eval (.tmp t)=.func (.func fi) #[] (caps.map a.eval):=by
    simp [Act.put,Act.eval,Array.getD_eq_getD_getElem?,ets]
  have r2:(execOp (a.put (some t) (.func (.func fi) #[] (caps.map a.eval))).eval o2).run P w=.ok (.defer { target:=.fn (.func fi) (caps.map a.eval),args:=#[] }) w:=by
    simp only [execOp,e4,resolve,Sem.run_bind,ev,Deferred.ofValue,Sem.run_pure,Result.andThen_ok];simp
  show (if Region.wanted o1 (yielded #[o1,o2] a.tmps) then o1.wpIn (FR none) n P a w (wpOpsIn (FR none) n P #[o1,o2] Q [1]) Q else _)
  rw [if_pos (w1 _)]
  refine ⟨fun _ _=>trivial,?_⟩
  rw [show o1.semAt (FR none).round a.eval=execOp a.eval o1 from rfl,r1]
  show wpOpsIn (FR none) n P #[o1,o2] Q [1] (a.put o1.dst _) w
  rw [e2]
  show (if Region.wanted o2 (yielded #[o1,o2] (a.put (some t) _).tmps) then o2.wpIn (FR none) n P (a.put (some t) _) w (wpOpsIn (FR none) n P #[o1,o2] Q []) Q else _)
  rw [if_pos (w2 _)]
  refine ⟨fun _ _=>trivial,?_⟩
  have r3:Sem.run P (o2.semAt (FR none).round (a.put (some t) (.func (.func fi) #[] (caps.map a.eval))).eval) w=.ok (.defer { target:=.fn (.func fi) (caps.map a.eval),args:=#[] }) w:=r2
  rw [r3]
  have S1:=S.put (dst:=some t) (d:=.junk) (v:=.func (.func fi) #[] (caps.map a.eval)) (by simpa [zbP,Nat.blt_eq] using ht) trivial (fun L hL=>by simp [za7,zbv,zaI] at hL) []
  refine hQ _ (S1.act ?_ ?_ ?_) ?_
  · obtain ⟨es, m1, m2, m3, m4⟩ := S1.dfr
    refine ⟨.inr { target:=.fn (.func fi) (caps.map a.eval),args:=#[] } :: es,m1,?_,fun E hE=>?_,fun d hd=>?_⟩
    · rw [e5,List.map_cons,← m2];rfl
    · rcases List.mem_cons.1 hE with e | hE
      · cases e
      · exact m3 E hE
    · rcases List.mem_cons.1 hd with e | hd
      · cases e;exact hidle _ (by simpa using e0)
      · exact m4 d hd
  · rw [e5];exact S1.size
  · rw [e5];exact S1.env
  · rw [e5]
    exact hkp.put (dst:=some t) (fun z hz=>by cases hz;exact htD) _ a.defers
theorem zyR (hok:OkAll P Γ) {fi:FuncId} (hidle:∀ caps:Array Value,caps.size=2→zns P { target:=.fn (.func fi) caps,args:=#[] }) (ann:Ann):∀ (c:Code) (n:Nat) (h0:Fz) (D:List Nat) (a0:Act) (K:Exit→St→Prop) (σ:St) (g:Gh) (a:Act) (w:World),
  (∀ t∈zhK c,t∈D)→zCI P Γ fi ann c K σ→Sim P ann.nt B w0 h0 g σ a w→Kp D a0 a→c.wpIn (FR none) n P (PostR P ann.nt B w0 h0 D a0 K) a w
 | .seq x y,n,h0,D,a0,K,σ,g,a,w,hD,h,S,hkp=>by
  have hDx:∀ t∈zhK x,t∈D:=fun t ht=>hD t (List.mem_append.2 (.inl ht))
  have hDy:∀ t∈zhK y,t∈D:=fun t ht=>hD t (List.mem_append.2 (.inr ht))
  simp only [zCI] at h
  split at h
  ·rename_i id t hdf
   split at h
   ·rename_i hlt
    have ht:t < ann.nt:=by simpa [Nat.blt_eq] using hlt
    have htD:t∈D:=by
     obtain ⟨o1,o2,caps,ats,rfl,_,_,e2,_,_,e5,_⟩:=znd hdf
     exact hDx t (by simp [zhK,zwa,e2])
    refine wpIn_seq (zvT hidle hdf ht htD S hkp fun a' S' hk'=>?_)
    have hk:∀ s g2,vc P Γ ann y K s→Sim P ann.nt B w0 h0 g2 s a' w→y.wpIn (FR none) n P (PostR P ann.nt B w0 h0 D a0 K) a' w:=fun s g2 hv S2=>zd0 hok ann y none n h0 D a0 K s g2 a' w hDy (Rnd.none h0) hv S2 hk'
    unfold zEb at h
    split at h
    ·split at h
     ·rename_i s hs
      obtain ⟨g2,S2⟩:=zbE hs S'
      exact hk s g2 h S2
     ·exact h.elim
    ·exact hk _ g h S'
   ·exact h.elim
  ·refine wpIn_seq (wpIn_mono (zd0 hok ann x none n h0 D a0 _ σ g a w hDx (Rnd.none h0) h S hkp) ?_)
   rintro e a' w' ⟨g',σ',hK,S',hk'⟩
   cases e with
   | normal=>exact zyR hok hidle ann y n h0 D a0 K σ' g' a' w' hDy hK S' hk'
   | exit id=>exact ⟨g',σ',hK,S',hk'⟩
   | goto l=>exact ⟨g',σ',hK,S',hk'⟩
   | ret=>exact ⟨g',σ',hK,S',hk'⟩
   | panic ch=>exact ⟨g',σ',hK,S',hk'⟩
   | outgrown=>exact ⟨g',σ',hK,S',hk'⟩
 | .skip,n,h0,D,a0,K,σ,g,a,w,hD,h,S,hkp=>zd0 hok ann .skip none n h0 D a0 K σ g a w hD (Rnd.none h0) h S hkp
 | .region i o d,n,h0,D,a0,K,σ,g,a,w,hD,h,S,hkp=>zd0 hok ann (.region i o d) none n h0 D a0 K σ g a w hD (Rnd.none h0) h S hkp
 | .cond c x y,n,h0,D,a0,K,σ,g,a,w,hD,h,S,hkp=>zd0 hok ann (.cond c x y) none n h0 D a0 K σ g a w hD (Rnd.none h0) h S hkp
 | .block i x,n,h0,D,a0,K,σ,g,a,w,hD,h,S,hkp=>zd0 hok ann (.block i x) none n h0 D a0 K σ g a w hD (Rnd.none h0) h S hkp
 | .loop x,n,h0,D,a0,K,σ,g,a,w,hD,h,S,hkp=>zd0 hok ann (.loop x) none n h0 D a0 K σ g a w hD (Rnd.none h0) h S hkp
 | .scope x,n,h0,D,a0,K,σ,g,a,w,hD,h,S,hkp=>zd0 hok ann (.scope x) none n h0 D a0 K σ g a w hD (Rnd.none h0) h S hkp
 | .exit i,n,h0,D,a0,K,σ,g,a,w,hD,h,S,hkp=>zd0 hok ann (.exit i) none n h0 D a0 K σ g a w hD (Rnd.none h0) h S hkp
 | .goto i,n,h0,D,a0,K,σ,g,a,w,hD,h,S,hkp=>zd0 hok ann (.goto i) none n h0 D a0 K σ g a w hD (Rnd.none h0) h S hkp
 | .label i,n,h0,D,a0,K,σ,g,a,w,hD,h,S,hkp=>zd0 hok ann (.label i) none n h0 D a0 K σ g a w hD (Rnd.none h0) h S hkp
 | .ret,n,h0,D,a0,K,σ,g,a,w,hD,h,S,hkp=>zd0 hok ann .ret none n h0 D a0 K σ g a w hD (Rnd.none h0) h S hkp
 | .rangeFunc f p x y,n,h0,D,a0,K,σ,g,a,w,hD,h,S,hkp=>zd0 hok ann (.rangeFunc f p x y) none n h0 D a0 K σ g a w hD (Rnd.none h0) h S hkp
 | .refuse x,n,h0,D,a0,K,σ,g,a,w,hD,h,S,hkp=>zd0 hok ann (.refuse x) none n h0 D a0 K σ g a w hD (Rnd.none h0) h S hkp
theorem zCJ {G : Ctrs} (hok : OkAll P G) {f fi : FuncId} (hidle : ∀ caps : Array Value, caps.size = 2 → zns P { target := .fn (.func fi) caps, args := #[] }) {args : List PA} {K : List PA → Prop} {ann : Ann} (hv : zuX P G fi ann f args K) {w : World} {h0 : Fz} {vs : List Value} (hvs : RL (paR h0) args vs) (hfz : Hw h0 w) (hgl : zeA h0) :
  Calls P f vs.toArray w fun e w'=>∃ (h':Fz) (rs:List PA) (v:Value),K rs∧e=.returned v∧zo3 h' rs v∧Bel h0 w.heap.size w w' ∧
   Fle h0 h'∧Hw h' w'∧∀ b o,h' b=some o→h0 b=some o∨w.heap.size≤b:=by
 unfold zuX at hv
 split at hv
 ·rename_i fn hfn
  split at hv
  ·rename_i c hbody
   split at hv
   ·rename_i hnt
    simp only [Bool.and_eq_true,Nat.ble_eq] at hnt
    have S:=zk0 (P:=P) (Nat.eq_of_beq_eq_true hnt.1) hnt.2 hvs hfz hgl
    have hwp:=zyR (B:=w.heap.size) (w0:=w) hok hidle ann c 0 h0 (zhK c) _ _ _ _ _ _ (fun _ h=>h) hv S (Kp.refl _ _)
    refine (callsIn_wide (n:=0)).1 ?_
    refine callsIn_of_wp_marks (F:=FR none) hfn hbody trivial (wpIn_mono hwp ?_)
    have h0b:∀ b,h0 b=some (.fz (.deferred (some [])))→b < w.heap.size:=fun b h=>hfz.lt h
    rintro e a' w' ⟨g',σ',hK',S',_⟩
    have fin:zHG P fn K σ'→LeavesInM (FR none) 0 P fn a'.tmps (fun e w'=>∃ (h':Fz) (rs:List PA) (v:Value),K rs∧e=.returned v∧zo3 h' rs v∧Bel h0 w.heap.size w w' ∧
      Fle h0 h'∧Hw h' w'∧∀ b o,h' b=some o→h0 b=some o∨w.heap.size≤b) a'.defers .returning w':=by
     intro hf
     obtain ⟨Ds,h1,h2,h3,h4⟩:=S'.dfr
     refine zkZ h0b Ds g' a' w' h1 h2 h3 h4 S' fun g2 a2 w2 _ S2=>?_
     unfold zHG at hf
     split at hf
     ·rename_i l hl
      obtain ⟨u,v,hu,hrun,hres⟩:=zkY S2 hl
      obtain ⟨h',S3,F⟩:=S2.freeze hu
      exact ⟨v,hrun,h',l,v,hf,rfl,hres h' F,S3.below,S3.le0,S3.hw,S3.hn⟩
     ·exact hf.elim
    cases e with
    | normal=>exact fin hK'
    | ret=>exact fin hK'
    | exit id=>exact hK'.elim
    | goto l=>exact hK'.elim
    | panic ch=>exact hK'.elim
    | outgrown=>exact hK'.elim
   ·exact hv.elim
  ·exact hv.elim
 ·exact hv.elim
theorem zCK {T : Tabs} (hT : TabsOk P T) {f fi : FuncId} {C : List PA → COut} (hc : zax P f) (hidle : ∀ caps : Array Value, caps.size = 2 → zns P { target := .fn (.func fi) caps, args := #[] })
    (h:∀ args K,(C args).wp K→∃ args',RL PAle args args'∧∃ memo vv ann,zuX P (csm T memo vv) fi ann f args' (Wk K)):Ok P f C:=by
  intro args K hK w h0 vs hvs hfz hgl
  obtain ⟨args',hle,memo,vv,ann,hv⟩:=h args K hK
  refine ⟨hc,(zCJ (hT.all memo vv) hidle hv (zxA (R:=paR h0) (S:=PAle) (T:=paR h0) (fun _ _ _ e r=>zCg e r) _ _ _ hle hvs) hfz hgl).mono ?_⟩
  rintro e w' ⟨h',rs,v,⟨rs',hr,hk⟩,he,hres,rest⟩
  exact ⟨h',rs',v,hk,he,zxB hr hres,rest⟩
end
end Go.Pm
