/- Part 5 of what the proof rests on: a machine that runs functions of the program on pure values, proved sound; the functions that the law reaches, and what they compute. -/
import Derived.Test.YtedhjaaikeakoaaDoorQ4
import Derived.Sort.OwnSortedInts
import Derived.Lib.SlicesCompact
import Derived.Test.YtedhjaaikeakoaaDoorProg
import Derived.ProofKit
import Derived.Deep.Slices
import Derived.OpenShut
import Derived.Shelf.SlIterI.Nil
import Derived.Shelf.SortM.Plain
import Derived.Shelf.SortM.SortNone
import Derived.Ground.GgzProg
import Derived.Ground.SlgmProg
set_option linter.all false
namespace Go.Pm

structure Tabs where
  fn:List (Nat×(List PA→COut))
  own:List (Nat×OwnK)
  it:List (Nat×(List PA→Option (Prop×List (List PA))))
  mt:List (Nat×MK)
def zue : List (Nat × (List PA → COut)) → Nat → List PA → COut
  | [],_=>fun _=>.no
  | (k,c) :: r,n=>match Nat.beq k n with | true=>c | false=>zue r n
def zuf (l:List (Nat×OwnK)) (f:Nat):OwnK:=match lk l f with | some c=>c | none=>.none
def zAJ (l:List (Nat×(List PA→Option (Prop×List (List PA))))) (f:Nat):List PA→Option (Prop×List (List PA)):=match lk l f with | some c=>c | none=>fun _=>none
def csm (T:Tabs) (memo:Nat→Int→List Int) (vv:Nat→Bool):Ctrs:=⟨zue T.fn,zuf T.own,zAJ T.it,memo,vv,lk T.mt⟩
abbrev cs (T:Tabs):Ctrs:=csm T (fun _ _=>[]) (fun _=>false)
def Tabs.nil:Tabs:=⟨[],[],[],[]⟩
def Tabs.addF (T:Tabs) (f:Nat) (c:List PA→COut):Tabs:=⟨(f,c) :: T.fn,T.own,T.it,T.mt⟩
def Tabs.addO (T:Tabs) (f:Nat) (c:OwnK):Tabs:=⟨T.fn,(f,c) :: T.own,T.it,T.mt⟩
def Tabs.addI (T:Tabs) (f:Nat) (c:List PA→Option (Prop×List (List PA))):Tabs:=⟨T.fn,T.own,(f,c) :: T.it,T.mt⟩
def Tabs.addM (T:Tabs) (f:Nat) (c:MK):Tabs:=⟨T.fn,T.own,T.it,(f,c) :: T.mt⟩

theorem zGp {P:Program} {f:Nat} : Ok P f (fun _=>.no):=fun _ _ h=>h.elim
theorem zGq {P:Program} {f:Nat} : zzl P f (fun _=>none):=fun _ _ _ h=>by cases h

structure TabsOk (P : Program) (T : Tabs) : Prop where
  fn:∀ x∈T.fn,Ok P x.1 x.2
  own:∀ x∈T.own,zmh P x.1 x.2
  it:∀ x∈T.it,zzl P x.1 x.2
  mt:∀ x∈T.mt,zhB P x.1 x.2
theorem TabsOk.nil {P:Program} : TabsOk P .nil:=⟨fun _ h=>(by cases h),fun _ h=>(by cases h),fun _ h=>(by cases h),fun _ h=>(by cases h)⟩
theorem TabsOk.addF {P:Program} {T:Tabs} (h:TabsOk P T) {f:Nat} {c:List PA→COut} (hc:Ok P f c):TabsOk P (T.addF f c) :=
 ⟨fun x hx=>(List.mem_cons.1 hx).elim (fun e=>by rw [e];exact hc) (fun hx=>h.fn x hx),h.own,h.it,h.mt⟩
theorem TabsOk.addO {P:Program} {T:Tabs} (h:TabsOk P T) {f:Nat} {c:OwnK} (hc:zmh P f c):TabsOk P (T.addO f c) :=
 ⟨h.fn,fun x hx=>(List.mem_cons.1 hx).elim (fun e=>by rw [e];exact hc) (fun hx=>h.own x hx),h.it,h.mt⟩
theorem TabsOk.addI {P:Program} {T:Tabs} (h:TabsOk P T) {f:Nat} {c:List PA→Option (Prop×List (List PA))} (hc:zzl P f c):TabsOk P (T.addI f c) :=
 ⟨h.fn,h.own,fun x hx=>(List.mem_cons.1 hx).elim (fun e=>by rw [e];exact hc) (fun hx=>h.it x hx),h.mt⟩
theorem TabsOk.addM {P:Program} {T:Tabs} (h:TabsOk P T) {f:Nat} {c:MK} (hc:zhB P f c):TabsOk P (T.addM f c) :=
 ⟨h.fn,h.own,h.it,fun x hx=>(List.mem_cons.1 hx).elim (fun e=>by rw [e];exact hc) (fun hx=>h.mt x hx)⟩
theorem TabsOk.all {P:Program} {T:Tabs} (h:TabsOk P T) (memo:Nat→Int→List Int) (vv:Nat→Bool):OkAll P (csm T memo vv):=by
 refine ⟨fun f C hC=>h.mt _ (zbM hC),fun f=>?_,fun f=>?_,fun f=>?_⟩
 ·show Ok P f (zue T.fn f)
  have key:∀ l:List (Nat×(List PA→COut)),(∀ x∈l,Ok P x.1 x.2)→Ok P f (zue l f):=by
   intro l
   induction l with
   | nil=>intro _;exact zGp
   | cons x l ih =>
    intro hl
    obtain ⟨k,c⟩:=x
    simp only [zue]
    split
    ·rename_i e
     have:=hl (k,c) List.mem_cons_self
     rw [← Nat.eq_of_beq_eq_true e];exact this
    ·exact ih fun x hx=>hl x (List.mem_cons_of_mem _ hx)
  exact key T.fn h.fn
 ·show zmh P f (zuf T.own f)
  unfold zuf
  split
  ·rename_i c hc;exact h.own _ (zbM hc)
  ·trivial
 ·show zzl P f (zAJ T.it f)
  unfold zAJ
  split
  ·rename_i c hc;exact h.it _ (zbM hc)
  ·exact zGq

theorem zbr {P : Program} {T : Tabs} (hT : TabsOk P T) {f : FuncId} {C : List PA → COut} (hc : zan P f)
    (h:∀ args K,(C args).wp K→∃ memo vv ann,vcFun P (csm T memo vv) ann f args K):Ok P f C :=
  zyw (hT.all (fun _ _=>[]) (fun _=>false)) hc h
theorem zAK {P : Program} {T : Tabs} (hT : TabsOk P T) {f : FuncId} {C : MK} (hc : zan P f)
    (h:∀ xs safe rs ys,C xs=some (safe,rs,ys)→safe→∀ K:List PA→List XA→Prop,K rs ys→∃ memo vv ann,ziK P (csm T memo vv) ann f xs K):zhB P f C :=
  zua (hT.all (fun _ _=>[]) (fun _=>false)) hc h
theorem zEj {P : Program} {T : Tabs} (hT : TabsOk P T) {f : FuncId} {C : List PA → Option (Prop × List (List PA))} (hc : zan P f)
    (h:∀ l caps safe ys,C caps=some (safe,ys)→safe→∃ memo vv ann,vcIter P (csm T memo vv) ann f l caps ys):zzl P f C :=
  zyA (hT.all (fun _ _=>[]) (fun _=>false)) hc h
structure Sl (α : Type) where
  len:Nat
  get:Nat→α
instance {α:Type} [Inhabited α]:Inhabited (Sl α):=⟨⟨0,fun _=>default⟩⟩
abbrev w64 (x:Int):Int:=IntKind.i64.wrap x

def IsE {α:Type} (enc:α→List PV) (size s:Nat) (g:Nat→List PV):Prop:=s=size∧∃ f:Nat→α,g=fun i=>enc (f i)
theorem isE {α:Type} {enc:α→List PV} {size:Nat} {f:Nat→α} : IsE enc size size (fun i=>enc (f i)):=⟨rfl,f,rfl⟩
theorem zug {α:Type} {enc:α→List PV} {size:Nat} {x:α} : IsE enc size size (fun _=>enc x):=⟨rfl,fun _=>x,rfl⟩
def zsn {α:Type} (n:Nat) (get new:Nat→α):Nat→α:=fun j=>match Nat.ble n j with | true=>new (j - n) | false=>get j
theorem zyE {α:Type} {enc:α→List PV} {n:Nat} {f h:Nat→α} : appG n (fun i=>enc (f i)) (fun i=>enc (h i))=fun i=>enc (zsn n f h i):=by
 funext j;simp only [appG,zsn];cases Nat.ble n j <;> rfl
def znR {α : Type} (x : α) : List α → Nat → α
  | [],_=>x
  | y :: _,0=>y
  | _ :: r,i+1=>znR x r i
theorem zq5 {α:Type} {enc:α→List PV} {x y:α} {r:List α} : zbz (enc x :: enc y :: r.map enc)=fun i=>enc (znR x (x :: y :: r) i):=by
 have key:∀ (l:List α) (i:Nat),(match (l.map enc)[i]? with | some z=>z | none=>enc x)=enc (znR x l i):=by
  intro l
  induction l with
  | nil=>intro i;rfl
  | cons a l ih =>
   intro i
   cases i with
   | zero=>rfl
   | succ i=>simpa [znR] using ih i
 funext i
 exact key (x :: y :: r) i
theorem zdL {α:Type} {enc:α→List PV} {size:Nat} {x y:α} (r:List α):IsE enc size size (zbz (enc x :: enc y :: r.map enc)):=⟨rfl,_,zq5⟩

theorem zaM {b:Bool} {A B:Prop} {S S':Bool} {α:Type} {K:α→Prop} {x y:α} (h1:S=true→K x→A) (h2:S'=true→K y→B) (hs:cond b S S'=true) (hk:K (cond b x y)):zbA b A B:=by
 cases b
 ·exact h2 hs hk
 ·exact h1 hs hk
theorem zga {b:Bool} {A B:Prop} {S S':Bool} {α β:Type} {f:α→β} {ys:List β} {x y:List α} (hs:cond b S S'=true) (hk:ys=(cond b x y).map f) (h1:S=true→ys=x.map f→A) (h2:S'=true→ys=y.map f→B):zbA b A B:=by
 cases b
 ·exact h2 hs hk
 ·exact h1 hs hk
theorem itY {α β:Type} {f:α→β} {ys:List β} {p:β} {x r:List α} {l:Nat} {A:List β→Prop} (hk:ys=x.map f) (e:x.map f=p :: r.map f) (h:∀ zs,zs=r.map f→A zs):l=l∧∃ z,ys=p :: z∧A z∧True :=
 ⟨rfl,_,hk.trans e,h _ rfl,trivial⟩
theorem zaX {C A:Prop} [d:Decidable C] {r:Bool} (hs:(decide C && r)=true) (k:C→r=true→A):A:=by
 rw [Bool.and_eq_true] at hs
 exact k (of_decide_eq_true hs.1) hs.2
abbrev Fuel:Nat:=9223372036854775808
def setT {α:Type} (i:Nat) (v:α) (get:Nat→α):Nat→α:=fun j=>match Nat.beq j i with | true=>v | false=>get j
theorem zm0 {α:Type} {enc:α→List PV} {n:Nat} {g g':Nat→List PV} {f h:Nat→α} (h1:g=fun i=>enc (f i)) (h2:g'=fun i=>enc (h i)):appG n g g'=fun i=>enc (zsn n f h i):=by
 subst h1;subst h2;exact zyE
theorem zky {α:Type} {enc:α→List PV} {i k:Nat} {g:Nat→List PV} {f:Nat→α} {new:List PV} {v:α} (h1:g=fun i=>enc (f i)) (h2:spl (enc (f i)) k new=enc v):zhE i k g new=fun j=>enc (setT i v f j):=by
 subst h1
 funext j
 simp only [zhE,setT]
 cases e:Nat.beq j i
 ·rfl
 ·have := Nat.eq_of_beq_eq_true e
  subst this;exact h2
def zsD (P:Program) (G:Ctrs) (ann:Ann) (hd:Nat) (ps:List Nat) (assign body:Code) (X:List (List PA)→St→Prop) (K:Exit→St→Prop) (y:List PA) (rest:List (List PA)) (s:St):Prop :=
 match lk ann.head hd with
 | some k=>match zfW ps y s.env with
  | some env=>vc P G ann assign (zzk (vc P G ann body (zj7 P k (X rest) K)) fun _ _=>False) ⟨env,s.objs,[]⟩
  | none=>False
 | none=>False
end Go.Pm
namespace Go.Pm
open Go Go.Sort

/-! Nil slices are slices of length 0. -/
inductive PVle : PV → PV → Prop
  | rfl (p:PV):PVle p p
  | nil (s:Nat) (g:Nat→List PV):PVle .nils (.sl 0 s g)
  | nilm (q:MQ):PVle .nilm (.fm q 0 (fun _=>none))
inductive PAle : PA → PA → Prop
  | one {p q:PV} : PVle p q→PAle (.one p) (.one q)
  | agg {l m:List PV} : RL PVle l m→PAle (.agg l) (.agg m)
theorem zm1 {α β:Type} {R:α→β→Prop} : RL R [] []:=trivial
theorem zgx {α β:Type} {R:α→β→Prop} {a:α} {b:β} {l:List α} {m:List β} (h:R a b) (h':RL R l m):RL R (a :: l) (b :: m):=⟨h,h'⟩
theorem zeM {α : Type} {R : α → α → Prop} (h : ∀ a, R a a) : ∀ l : List α, RL R l l
  | []=>trivial
  | a :: l=>⟨h a,zeM h l⟩
theorem zft (a:PA):PAle a a:=by
 cases a with
 | one p=>exact .one (.rfl p)
 | agg l=>exact .agg (zeM .rfl l)
def Wk (K:List PA→Prop) (l:List PA):Prop:=∃ l',RL PAle l l'∧K l'
theorem wk {K:List PA→Prop} {l l':List PA} (hk:K l') (h:RL PAle l l'):Wk K l:=⟨l',h,hk⟩
theorem zfu {K:List PA→Prop} {l:List PA} (hk:K l):Wk K l:=⟨l,zeM zft l,hk⟩
theorem zEk {h:Fz} {p q:PV} {v:Value} (e:PVle p q) (r:Rep h p v):Rep h q v:=by
 cases e with
 | rfl=>exact r
 | nil s g=>cases r;exact .sl0 s g
 | nilm q=>cases r;exact .fmn q _ (fun _ _=>rfl)
theorem zuh {α β γ : Type} {R : α → β → Prop} {S : α → γ → Prop} {T : γ → β → Prop} (h : ∀ a b c, S a c → R a b → T c b) : ∀ (l : List α) (m : List β) (k : List γ), RL S l k → RL R l m → RL T k m
  | [],[],[],_,_=>trivial
  | a :: l,b :: m,c :: k,hs,hr=>⟨h a b c hs.1 hr.1,zuh h l m k hs.2 hr.2⟩
  | [],_ :: _,[],_,hr=>hr.elim
  | [],_,_ :: _,hs,_=>hs.elim
  | _ :: _,_,[],hs,_=>hs.elim
  | _ :: _,[],_ :: _,_,hr=>hr.elim
theorem zyF {h:Fz} {a b:PA} {v:Value} (e:PAle a b) (r:paR h a v):paR h b v:=by
 cases e with
 | one e=>exact zEk e r
 | agg e =>
  obtain ⟨vs,rfl,hv⟩:=r
  exact ⟨vs,rfl,zuh (R:=Rep h) (S:=PVle) (T:=Rep h) (fun _ _ _ e r=>zEk e r) _ _ _ e hv⟩
theorem zui {h:Fz} {l m:List PA} {v:Value} (e:RL PAle l m) (r:zma h l v):zma h m v:=by
 match l,m,e,r with
 | [a],[b],e,r=>exact zyF e.1 r
 | [],[],_,r=>exact r
 | a :: b :: l,c :: d :: m,e,r =>
  obtain ⟨vs,hv,hr⟩:=r
  exact ⟨vs,hv,zuh (R:=paR h) (S:=PAle) (T:=paR h) (fun _ _ _ e r=>zyF e r) _ _ _ e hr⟩
 | [_],_ :: _ :: _,e,_=>exact e.2.elim
 | _ :: _ :: _,[_],e,_=>exact e.2.elim
 | [],_ :: _,e,_=>exact e.elim
 | _ :: _,[],e,_=>exact e.elim
theorem zgK {P : Program} {T : Tabs} (hT : TabsOk P T) {f : FuncId} {C : List PA → COut} (hc : zan P f)
    (h:∀ args K,(C args).wp K→∃ args',RL PAle args args'∧∃ memo vv ann,vcFun P (csm T memo vv) ann f args' (Wk K)):Ok P f C:=by
  intro args K hK w h0 vs hvs hfz hgl
  obtain ⟨args',hle,memo,vv,ann,hv⟩:=h args K hK
  refine ⟨hc,(zt3 (hT.all memo vv) hv (zuh (R:=paR h0) (S:=PAle) (T:=paR h0) (fun _ _ _ e r=>zyF e r) _ _ _ hle hvs) hfz hgl).mono ?_⟩
  rintro e w' ⟨h',rs,v,⟨rs',hr,hk⟩,he,hres,rest⟩
  exact ⟨h',rs',v,hk,he,zui hr hres,rest⟩
theorem zyG {P : Program} {T : Tabs} (hT : TabsOk P T) {f : FuncId} {C : MK} (hc : zan P f)
    (h:∀ xs safe rs ys,C xs=some (safe,rs,ys)→safe→∀ K:List PA→List XA→Prop,K rs ys→∃ memo vv ann,ziK P (csm T memo vv) ann f xs (fun a b=>Wk (fun a'=>K a' b) a)):zhB P f C:=by
  intro xs ys safe rs hC hs w h0 base vs hvs hn hK hw hgl hB
  obtain ⟨memo,vv,ann,hv⟩:=h xs safe rs ys hC hs (fun l zs=>l=rs∧zs=ys) ⟨rfl,rfl⟩
  refine ⟨hc,(zt9 (hT.all memo vv) hv hvs hn hK hw hgl hB).mono ?_⟩
  rintro e w' ⟨h',v,rs',ys',⟨rs2,hr,rfl,rfl⟩,he,hres,r⟩
  exact ⟨h',v,he,zui hr hres,r⟩
def WkM (K:List PA×List XA→Prop) (p:List PA×List XA):Prop:=Wk (fun a=>K (a,p.2)) p.1
theorem wkM {K:List PA×List XA→Prop} {l l':List PA} {b:List XA} (hk:K (l',b)) (h:RL PAle l l'):WkM K (l,b):=⟨l',h,hk⟩
theorem zuj {K:List PA×List XA→Prop} {p:List PA×List XA} (hk:K p):WkM K p:=⟨p.1,zeM zft p.1,hk⟩
/-! Maps, as typed values; the keys of a map. -/
structure Mp where
  n:Nat
  F:List Int→Option (List Int)
instance:Inhabited Mp:=⟨⟨0,fun _=>none⟩⟩

end Go.Pm
namespace Go.Pm

abbrev zI (x:Int):DV:=.one (.c (.p (.int .i64 x)))
abbrev zB (x:Bool):DV:=.one (.c (.p (.bool x)))
abbrev zP (x:PV):DV:=.one (.c (.p x))
abbrev zp (L k:Nat):DV:=.one (.c (.ptr L k))
abbrev zv (L:Nat):DV:=.one (.c (.vec L))
abbrev zs {α:Type} (enc:α→List PV) (s:Nat) (x:Sl α):PV:=.sl x.len s (fun i=>enc (x.get i))
abbrev zS {α:Type} (enc:α→List PV) (s:Nat) (x:Sl α):DV:=zP (zs enc s x)
abbrev zm (l:List PV):List Cl:=l.map Cl.p
abbrev zi (x:Int):Cl:=.p (.int .i64 x)
abbrev zg {α:Type} (enc:α→List PV) (x:Sl α):Nat→List PV:=fun i=>enc (x.get i)
abbrev zK (a b:List Nat):Keep:=⟨a,b,[],[],[],[],[]⟩
theorem zE {α:Type} (enc:α→List PV) (size:Nat) (f:Nat→α):IsE enc size size (fun i=>enc (f i)):=⟨rfl,f,rfl⟩

theorem zuk {α : Type} : ∀ (new l pre : List α), l.length = new.length → spl (pre ++ l) pre.length new = pre ++ new
  | [],l,pre,h=>by
    have:l=[]:=List.eq_nil_of_length_eq_zero h
    subst this;rfl
  | x :: r,[],pre,h=>by simp at h
  | x :: r,y :: l,pre,h=>by
    have e:=zuk r l (pre ++ [x]) (by simpa using h)
    simp only [spl,List.append_assoc,List.singleton_append,List.length_append,List.length_singleton] at e ⊢
    rw [List.set_append_right _ _ (Nat.le_refl _),Nat.sub_self,List.set_cons_zero]
    exact e
theorem zls {n:Nat} {F G:Nat→Int} : spl (zgw 0 n F) 0 (zgw 0 n G)=zgw 0 n G:=by
 have h:=zuk (zgw 0 n G) (zgw 0 n F) [] (by rw [zee,zee])
 simpa using h
theorem zlt {n:Nat} {F:Nat→Int} : zgw 0 n F=zgw 0 n (zkL (zm (zgw 0 n F))):=by
 refine List.ext_getElem? fun k=>?_
 by_cases hk:k < n
 ·rw [zfZ n 0 F k hk, zfZ n 0 _ k hk, Nat.zero_add]
  congr 2
  have h:(zm (zgw 0 n F))[k]? = some (.p (.int .i64 (F k))):=by
   rw [zm,List.getElem?_map,zfZ n 0 F k hk,Nat.zero_add];rfl
  unfold zkL
  rw [h]
 ·rw [List.getElem?_eq_none (by rw [zee];omega),List.getElem?_eq_none (by rw [zee];omega)]

@[reducible] def lpO {A : Type} (d : A) (st : A → A) : Nat → A
  | 0=>d
  | k+1=>st (lpO d st k)
theorem zjV {A B : Type} (a : A) (b : B) (p : A → A) (s : B → B) (M : A → B → Prop) (h0 : M a b) (h1 : ∀ P S, M P S → M (p P) (s S)) : ∀ k, M (lpO a p k) (lpO b s k)
  | 0=>h0
  | k+1=>h1 _ _ (zjV a b p s M h0 h1 k)
def xcm (l:List PV):List XC:=l.map .p
def unX : List XC → List PV
  | []=>[]
  | .p v :: r=>v :: unX r
  | _ :: r=>.nilp :: unX r
theorem zul : ∀ l : List PV, unX (xcm l) = l
  | []=>rfl
  | v :: r=>by show v :: unX (xcm r)=v :: r;rw [zul r]
theorem zAL {n:Nat} {F:Nat→Int} : xcm (zgw 0 n F)=xcm (zgw 0 n (zkL (zm (unX (xcm (zgw 0 n F)))))):=by
 rw [zul,← zlt]

section
variable (P:Program) (Γ:Ctrs) (ann:Ann)
def pt : Code → (Exit → St → Prop) → List Nat → List (St → Prop) → St → Prop
  | .seq a b,K,i :: r,X=>match i with | 0=>pt a (sqK P Γ ann b K) r X | _=>pt b K r X
  | .cond _ a b,K,i :: r,X=>match i with | 0=>pt a K r X | _=>pt b K r X
  | .block id b,K,_ :: r,X=>pt b (zai id K) r X
  | .loop b,K,_ :: r,x :: X=>pt b (zba P ann (zj6 b) x K) r X
  | .scope b,K,_ :: r,X=>pt b (zb9 K) r X
  | c,K,_,_=>vc P Γ ann c K
def ptF (fn:Func) (K:List PA→Prop) (l:List Nat) (X:List (St→Prop)):St→Prop :=
 match fn.body with
 | some c=>pt P Γ ann c (za8 P fn K) l X
 | none=>fun _=>False
end

theorem zc {b:Bool} {A B:Prop} {S S':Bool} {α:Type} {e:α→List PA} {K:List PA→Prop} {x y:α} (hs:cond b S S'=true) (hk:K (e (cond b x y))) (h1:S=true→K (e x)→A) (h2:S'=true→K (e y)→B):zbA b A B:=by
 cases b
 ·exact h2 hs hk
 ·exact h1 hs hk
theorem zt {b:Bool} {A B:Prop} {α:Type} {e:α→List PA} {K:List PA→Prop} {x y:α} (hk:K (e (cond b x y))) (h1:K (e x)→A) (h2:K (e y)→B):zbA b A B:=by
 cases b
 ·exact h2 hk
 ·exact h1 hk
theorem zEl {b:Bool} {s:Prop} {r1 r2:List PA} {K:List PA→Prop} (h:(COut.alt b s r1 s r2).wp K):s∧K (cond b r1 r2):=by
 cases b
 ·exact h.2 rfl
 ·exact h.1 rfl
theorem zl {at_:Prop} {g:St} (B:(St→Prop)→St→Prop) (e:at_ = ∀ X:St→Prop,(∀ s,B X s→X s)→X g) (h:∀ X:St→Prop,(∀ s,B X s→X s)→X g):at_:=e ▸ h
end Go.Pm
namespace Go.Proofs
open Go Go.Pm
set_option maxRecDepth 100000
set_option linter.unusedVariables false
attribute [local irreducible] Go.Pm.vcFun Go.Pm.vc Go.Pm.vcIter
abbrev Tab:=Nat→Int
def tg (n:Nat) (F:Tab) (k:Nat):Int:=zkL (zm (zgw 0 n F)) k
def ts (n:Nat) (F:Tab) (k:Nat) (vs:List Int):Tab:=zzf k vs (zkL (zm (zgw 0 n F)))
abbrev enc_3 (x:Int):List PV:=[.int .i64 x]
def zGr : List PV → Int
  | [.int .i64 x]=>x
  | _=>default
def zaq (g:Nat→List PV):Nat→Int:=fun i=>zGr (g i)
theorem za0 (f:Nat→Int):zaq (fun i=>enc_3 (f i))=f:=rfl
structure Tie where
  From:Int
  To:Int
  Low:Int
  High:Int
deriving Inhabited
abbrev enc_40 (x:Tie):List PV:=[.int .i64 x.From,.int .i64 x.To,.int .i64 x.Low,.int .i64 x.High]
def zEm : List PV → Tie
  | [.int .i64 x_From,.int .i64 x_To,.int .i64 x_Low,.int .i64 x_High]=>(⟨x_From,x_To,x_Low,x_High⟩:Tie)
  | _=>default
def zaa (g:Nat→List PV):Nat→Tie:=fun i=>zEm (g i)
theorem zaj (f:Nat→Tie):zaa (fun i=>enc_40 (f i))=f:=rfl
abbrev zEn (x:(Sl Tie)):List PV:=[.sl x.len 4 (fun i=>enc_40 (x.get i))]
structure Net where
  Nodes:Int
  Ties:(Sl Tie)
deriving Inhabited
abbrev enc_24 (x:Net):List PV:=[.int .i64 x.Nodes,.sl x.Ties.len 4 (fun i=>enc_40 (x.Ties.get i))]
abbrev zbX (x:(Sl Int)):List PV:=[.sl x.len 1 (fun i=>enc_3 (x.get i))]
def zEo : List PV → (Sl Int)
  | [.sl x_n _ x_g]=>(⟨x_n,zaq x_g⟩:(Sl Int))
  | _=>default
def zlu (g:Nat→List PV):Nat→(Sl Int):=fun i=>zEo (g i)
theorem ziO (f:Nat→(Sl Int)):zlu (fun i=>zbX (f i))=f:=rfl
structure Span where
  Low:Int
  High:Int
deriving Inhabited
abbrev zbu (x:Span):List PV:=[.int .i64 x.Low,.int .i64 x.High]
def zEp : List PV → Span
  | [.int .i64 x_Low,.int .i64 x_High]=>(⟨x_Low,x_High⟩:Span)
  | _=>default
def zeN (g:Nat→List PV):Nat→Span:=fun i=>zEp (g i)
theorem zeo (f:Nat→Span):zeN (fun i=>zbu (f i))=f:=rfl
structure Pulse where
  A:Int
  B:Int
  TimeA:Int
  TimeB:Int
  Flight:Span
  Jitter:Int
deriving Inhabited
structure Use where
  Tie:Int
  Back:Bool
deriving Inhabited
abbrev zaO (x:Use):List PV:=[.int .i64 x.Tie,.bool x.Back]
def zEq : List PV → Use
  | [.int .i64 x_Tie,.bool x_Back]=>(⟨x_Tie,x_Back⟩:Use)
  | _=>default
def zcO (g:Nat→List PV):Nat→Use:=fun i=>zEq (g i)
theorem zcP (f:Nat→Use):zcO (fun i=>zaO (f i))=f:=rfl
structure Flash where
  A:Int
  B:Int
  Time:Int
  Flight:Int
  Wrong:Int
deriving Inhabited
structure web where
  Net:Net
  out:Mp
deriving Inhabited
abbrev zat (x:web):List PV:=[.int .i64 x.Net.Nodes,.sl x.Net.Ties.len 4 (fun i=>enc_40 (x.Net.Ties.get i)),.fm (false,1,false,[none]) x.out.n x.out.F]
structure far where
  length:Int
  uses:Int
deriving Inhabited
abbrev zb8 (x:far):List PV:=[.int .i64 x.length,.int .i64 x.uses]
def zAM : List PV → far
  | [.int .i64 x_length,.int .i64 x_uses]=>(⟨x_length,x_uses⟩:far)
  | _=>default
def zhO (g:Nat→List PV):Nat→far:=fun i=>zAM (g i)
theorem zhn (f:Nat→far):zhO (fun i=>zb8 (f i))=f:=rfl
abbrev zad (x:Tab):List PV:=zgw 0 80 x
def za5 (l:List PV):Tab:=zkL (zm l)
structure Step where
  From:Int
  To:Int
  Length:Int
  Use:Use
deriving Inhabited
structure step where
  Use:Use
  from_:Int
  to:Int
  length:Int
deriving Inhabited
abbrev zae (x:step):List PV:=[.int .i64 x.Use.Tie,.bool x.Use.Back,.int .i64 x.from_,.int .i64 x.to,.int .i64 x.length]
def zAN : List PV → step
  | [.int .i64 x_Use_Tie,.bool x_Use_Back,.int .i64 x_from_,.int .i64 x_to,.int .i64 x_length]=>(⟨(⟨x_Use_Tie,x_Use_Back⟩:Use),x_from_,x_to,x_length⟩:step)
  | _=>default
def zgb (g:Nat→List PV):Nat→step:=fun i=>zAN (g i)
theorem zdM (f:Nat→step):zgb (fun i=>zae (f i))=f:=rfl
structure tie where
  Tie:Tie
  index:Int
deriving Inhabited
abbrev zum (x:tie):List PV:=[.int .i64 x.Tie.From,.int .i64 x.Tie.To,.int .i64 x.Tie.Low,.int .i64 x.Tie.High,.int .i64 x.index]
abbrev zun (x:Tab):List PV:=zgw 0 40 x
abbrev zax (x:(Sl Tab)):List PV:=[.sl x.len 80 (fun i=>zad (x.get i))]
end Go.Proofs
namespace Go.Pm
open Go Go.Deep

theorem zyH (b o i j:Nat):((⟨b,o,none⟩:Addr).add i).add j=⟨b,o+i+j,none⟩:=by
 simp only [Addr.add]
 by_cases h1:i=0
 ·subst h1
  by_cases h2:j=0
  ·subst h2;rfl
  ·rw [if_neg h2];rfl
 ·rw [if_neg h1]
  by_cases h2:j=0
  ·subst h2;rfl
  ·rw [if_neg h2]
def H0 (w:World):Fz:=fun b=>(w.heap[b]?).map .fz
theorem hw_H0 (w:World):Hw (H0 w) w:=by
 intro b x h
 unfold H0 at h
 cases e:w.heap[b]? with
 | none=>rw [e] at h;cases h
 | some o=>rw [e] at h;cases h;exact ⟨o,rfl,rfl⟩
def wfI (x:Int):Prop:=-9223372036854775808≤x∧x≤9223372036854775807
section
variable {H:Type} {en:TypeId×Value→H} {P:Program} {w:World} {sp:Nat→Bool} {held:Bool}
def Rd (H:Type) (en:TypeId×Value→H) (P:Program) (w:World) (sp:Nat→Bool) (held:Bool) (t:TypeId) {α:Type} (enc:α→List PV) (wf:α→Prop):Prop :=
 ∀ (fuel:Nat) (cs:List Value) (x:DataW H×List MemPlace),DataW.trod en P w 0 sp held fuel t cs=some x→∃ a:α,RL (Rep (H0 w)) (enc a) cs∧wf a
theorem zEr {t:TypeId} (ht:P.underlying t=some (.int .i64)):Rd H en P w sp held t (fun x=>[.int .i64 x]) wfI:=by
 intro fuel cs x h
 obtain ⟨n,rfl,_,hw⟩:=DataW.trod_int ht h
 refine ⟨n,⟨.int _ _,trivial⟩,?_⟩
 simp only [Lit.wf,Bool.and_eq_true,decide_eq_true_eq] at hw
 exact ⟨hw.1,hw.2⟩
theorem zm2 {t : TypeId} {fs : Array Field} (ht : P.underlying t = some (.struct fs)) {fuel : Nat} {cs : List Value} {x : DataW H × List MemPlace} (h : DataW.trod en P w 0 sp held fuel t cs = some x) :
  cs.length=P.cellsOf t∧∀ (i:Nat) (f:Field),fs[i]? = some f→∃ n y,DataW.trod en P w 0 sp held n f.type ((cs.drop f.offset).take (P.cellsOf f.type))=some y:=by
 obtain ⟨xs,n,_,_,hl,hx,hf⟩:=DataW.trod_struct ht h
 refine ⟨hl,fun i f hi=>?_⟩
 have hlt:i < xs.length:=by rw [hx];exact (Array.getElem?_eq_some_iff.1 hi).1
 exact ⟨n,xs[i],by rw [hf i f hi,List.getElem?_eq_getElem hlt]⟩
theorem zq6 {t e : TypeId} {α : Type} [Inhabited α] {enc : α → List PV} {wf : α → Prop} {s : Nat} (ht : P.underlying t = some (.slice e)) (hc : P.cellsOf e = s) (hs : 0 < s) (hlen : ∀ a, (enc a).length = s)
    (hel:Rd H en P w sp held e enc wf):Rd H en P w sp held t (fun x:Sl α=>[.sl x.len s (fun i=>enc (x.get i))]) (fun x=>x.len≤9223372036854775807∧∀ i,i < x.len→wf (x.get i)):=by
  intro fuel cs x h
  rcases open_slice ht h with ⟨rfl,_⟩ | ⟨a,len,cap,m,n,D,Pl,rfl,_,hl,hm,hmm,_,hget⟩
  · exact ⟨⟨0,default⟩,⟨.sl0 _ _,trivial⟩,Nat.zero_le _,fun i hi=>absurd hi (Nat.not_lt_zero i)⟩
  · by_cases h0 : len = 0
    · subst h0
      exact ⟨⟨0,default⟩,⟨.sle _ _ _ _,trivial⟩,Nat.zero_le _,fun i hi=>absurd hi (Nat.not_lt_zero i)⟩
    · have hlm : len ≤ m := by rw [hmm]; split <;> omega
      rw [hc] at hget
      have hex:∀ i,i < len→∃ y:α,(∃ cs',w.cells? 0 (a.add (i * s)) s=some cs'∧RL (Rep (H0 w)) (enc y) cs')∧wf y:=by
        intro i hi
        obtain ⟨cs',h1,h2⟩:=hget i (by omega)
        obtain ⟨y,h3,h4⟩:=hel _ _ _ h2
        exact ⟨y,⟨cs',h1,h3⟩,h4⟩
      have hch:∃ f:Nat→α,∀ i,i < len→(∃ cs',w.cells? 0 (a.add (i * s)) s=some cs'∧RL (Rep (H0 w)) (enc (f i)) cs')∧wf (f i):=by
        refine ⟨fun i=>if hi:i < len then Classical.choose (hex i hi) else default,fun i hi=>?_⟩
        simp only [dif_pos hi]
        exact Classical.choose_spec (hex i hi)
      obtain ⟨f,hf⟩:=hch
      -- the block
      have hcell:∀ i,i < len→∀ j,j < s→∃ cs',w.cells? 0 (a.add (i * s)) s=some cs'∧RL (Rep (H0 w)) (enc (f i)) cs'∧w.cell? ((a.add (i * s)).add j)=cs'[j]?∧cs'.length=s:=by
        intro i hi j hj
        obtain ⟨⟨cs',h1,h2⟩,_⟩:=hf i hi
        obtain ⟨_,h3,h4⟩:=World.cells?_some h1
        exact ⟨cs',h1,h2,h4 j hj,h3⟩
      obtain ⟨cs0,_,_,hc0,hl0⟩:=hcell 0 (by omega) 0 hs
      have ha0:w.cell? a=cs0[0]?:=by simpa [Addr.add] using hc0
      rw [List.getElem?_eq_getElem (by omega)] at ha0
      obtain ⟨C,ty,fr,hblk,hspot⟩:∃ C ty fr,w.heap[a.block]? = some (.cells C ty fr)∧a.spot=none:=by
        unfold World.cell? at ha0
        split at ha0
        · rename_i C ty fr hb
          refine ⟨C,ty,fr,hb,?_⟩
          cases hsp:a.spot with
          | none=>rfl
          | some k=>rw [hsp] at ha0;simp at ha0
        · cases ha0
      have ea:a=⟨a.block,a.off,none⟩:=by rw [← hspot]
      have hat:∀ i j,i < len→j < s→∃ cs',RL (Rep (H0 w)) (enc (f i)) cs'∧C[a.off+i * s+j]? = cs'[j]?∧cs'.length=s:=by
        intro i j hi hj
        obtain ⟨cs',_,h2,h3,h4⟩:=hcell i hi j hj
        refine ⟨cs',h2,?_,h4⟩
        rw [← h3]
        have e2:(a.add (i * s)).add j=⟨a.block,a.off+i * s+j,none⟩:=(congrArg (fun z:Addr=>(z.add (i * s)).add j) ea).trans (zyH _ _ _ _)
        rw [e2]
        simp [World.cell?,hblk]
      refine ⟨⟨len,f⟩,⟨?_,trivial⟩,by simp only [maxLen] at hm;show len≤_;omega,fun i hi=>(hf i hi).2⟩
      rw [ea]
      refine .sl len s _ a.block a.off cap C ty fr (fun i j=>C.getD (a.off+i * s+j) undef) (by simp [H0,hblk]) hl (fun i _=>hlen _) ?_ ?_
      · intro i j x hi hx
        have hj:j < s:=by have:=(List.getElem?_eq_some_iff.1 hx).1;rw [hlen] at this;exact this
        obtain ⟨cs',h1,h2,h3⟩:=hat i j hi hj
        rw [Array.getD_eq_getD_getElem?,h2,List.getElem?_eq_getElem (by omega)]
        rfl
      · intro i j x hi hx
        have hj:j < s:=by have:=(List.getElem?_eq_some_iff.1 hx).1;rw [hlen] at this;exact this
        obtain ⟨cs',h1,h2,h3⟩:=hat i j hi hj
        obtain ⟨v,hv,hr⟩:=h1.get j x hx
        rw [Array.getD_eq_getD_getElem?,h2,hv]
        exact hr
theorem zdm {α:Type} (l:List α) (o s:Nat):l.drop o=(l.drop o).take s ++ l.drop (o+s):=by
 rw [← List.drop_drop]
 exact (List.take_append_drop s (l.drop o)).symm
theorem okWide_agg {t:TypeId} {fs:Array Field} {r:Reach} {base:Nat} {v:Value} (ht:P.underlying t=some (.struct fs)) (h:Value.okWide P w r base t v):∃ cs,v=.agg cs:=by
 unfold Value.okWide at h
 rw [ht] at h
 obtain ⟨cs,hv,_⟩:=h
 exact ⟨cs,hv⟩
def zGs : TypeDesc → Bool
  | .struct _=>false
  | .array _ _=>false
  | _=>true
theorem okWide_one {t:TypeId} {d:TypeDesc} {r:Reach} {base:Nat} {v:Value} (ht:P.underlying t=some d) (hd:zGs d=true) (h:Value.okWide P w r base t v):v.cells.toList=[v]:=by
 unfold Value.okWide at h
 rw [ht] at h
 cases v with
 | agg cs =>
  exfalso
  cases d <;> first | (cases hd;done) | (simp only [Cell.okWide,Cell.ok,ht] at h)
 | _=>rfl
theorem pa_one {h:Fz} {p:PV} {v:Value} (hv:v.cells.toList=[v]) (r:RL (Rep h) [p] v.cells.toList):paR h (.one p) v:=by
 rw [hv] at r
 exact r.1
theorem pa_agg {h:Fz} {l:List PV} {v:Value} (hv:∃ cs,v=.agg cs) (r:RL (Rep h) l v.cells.toList):paR h (.agg l) v:=by
 obtain ⟨cs,rfl⟩:=hv
 exact ⟨cs.toList,by simp,r⟩
theorem below_H0 {w':World} (b:Bel (H0 w) w.heap.size w w'):Go.RowKit.Below w.heap.size w w' :=
 ⟨b.os,b.tape,b.output,b.size,fun k hk=>b.block k hk fun F e=>by
  unfold H0 at e
  cases hb:w.heap[k]? <;> rw [hb] at e <;> cases e⟩
end
end Go.Pm
namespace Go.Proofs
open Go Go.Pm
set_option maxRecDepth 100000
set_option linter.unusedVariables false
attribute [local irreducible] Go.Pm.vcFun Go.Pm.vc Go.Pm.vcIter
theorem C_3:Tryd.prog.cellsOf 3=1:=by kernel_rfl
theorem zHX:Tryd.prog.cellsOf 22=1:=by kernel_rfl
theorem zHY:Tryd.prog.cellsOf 24=2:=by kernel_rfl
theorem zHF:Tryd.prog.cellsOf 40=4:=by kernel_rfl
abbrev zAO (x:Int):Prop:=wfI x
theorem zDE {H:Type} {en:TypeId×Value→H} {w:World} {sp:Nat→Bool} {held:Bool} : Rd H en Tryd.prog w sp held 3 enc_3 zAO:=zEr Tryd.underlying3
def zEs (x:Tie):Prop:=zAO x.From∧zAO x.To∧zAO x.Low∧zAO x.High
theorem zGt {H:Type} {en:TypeId×Value→H} {w:World} {sp:Nat→Bool} {held:Bool} : Rd H en Tryd.prog w sp held 40 enc_40 zEs:=by
  intro fuel cs x h
  obtain ⟨hl,hf⟩:=zm2 Tryd.underlying40 h
  rw [zHF] at hl
  obtain ⟨n0,y0,g0⟩:=hf 0 _ rfl
  have g0:DataW.trod en Tryd.prog w 0 sp held n0 3 ((cs.drop 0).take (Tryd.prog.cellsOf 3))=some y0:=g0
  rw [C_3] at g0
  obtain ⟨a0,r0,w0⟩:=zDE _ _ _ g0
  obtain ⟨n1,y1,g1⟩:=hf 1 _ rfl
  have g1:DataW.trod en Tryd.prog w 0 sp held n1 3 ((cs.drop 1).take (Tryd.prog.cellsOf 3))=some y1:=g1
  rw [C_3] at g1
  obtain ⟨a1,r1,w1⟩:=zDE _ _ _ g1
  obtain ⟨n2,y2,g2⟩:=hf 2 _ rfl
  have g2:DataW.trod en Tryd.prog w 0 sp held n2 3 ((cs.drop 2).take (Tryd.prog.cellsOf 3))=some y2:=g2
  rw [C_3] at g2
  obtain ⟨a2,r2,w2⟩:=zDE _ _ _ g2
  obtain ⟨n3,y3,g3⟩:=hf 3 _ rfl
  have g3:DataW.trod en Tryd.prog w 0 sp held n3 3 ((cs.drop 3).take (Tryd.prog.cellsOf 3))=some y3:=g3
  rw [C_3] at g3
  obtain ⟨a3,r3,w3⟩:=zDE _ _ _ g3
  have z:cs.drop 4=[]:=List.drop_eq_nil_of_le (by omega)
  have R:=(r0.append (r1.append (r2.append (r3.append (show RL (Rep (H0 w)) [] (cs.drop 4) by rw [z];exact zm1)))))
  rw [← (show cs.drop 3=(cs.drop 3).take 1 ++ cs.drop 4 from zdm cs 3 1)] at R
  rw [← (show cs.drop 2=(cs.drop 2).take 1 ++ cs.drop 3 from zdm cs 2 1)] at R
  rw [← (show cs.drop 1=(cs.drop 1).take 1 ++ cs.drop 2 from zdm cs 1 1)] at R
  rw [← (show cs.drop 0=(cs.drop 0).take 1 ++ cs.drop 1 from zdm cs 0 1)] at R
  exact ⟨⟨a0,a1,a2,a3⟩,R,⟨w0,w1,w2,w3⟩⟩
def zEt (x:(Sl Tie)):Prop:=x.len≤9223372036854775807∧∀ i,i < x.len→zEs (x.get i)
theorem zGu {H:Type} {en:TypeId×Value→H} {w:World} {sp:Nat→Bool} {held:Bool} : Rd H en Tryd.prog w sp held 22 zEn zEt:=zq6 Tryd.underlying22 zHF (by decide) (fun _=>rfl) zGt
def wf_24 (x:Net):Prop:=zAO x.Nodes∧zEt x.Ties
theorem rd_24 {H:Type} {en:TypeId×Value→H} {w:World} {sp:Nat→Bool} {held:Bool} : Rd H en Tryd.prog w sp held 24 enc_24 wf_24:=by
  intro fuel cs x h
  obtain ⟨hl,hf⟩:=zm2 Tryd.underlying24 h
  rw [zHY] at hl
  obtain ⟨n0,y0,g0⟩:=hf 0 _ rfl
  have g0:DataW.trod en Tryd.prog w 0 sp held n0 3 ((cs.drop 0).take (Tryd.prog.cellsOf 3))=some y0:=g0
  rw [C_3] at g0
  obtain ⟨a0,r0,w0⟩:=zDE _ _ _ g0
  obtain ⟨n1,y1,g1⟩:=hf 1 _ rfl
  have g1:DataW.trod en Tryd.prog w 0 sp held n1 22 ((cs.drop 1).take (Tryd.prog.cellsOf 22))=some y1:=g1
  rw [zHX] at g1
  obtain ⟨a1,r1,w1⟩:=zGu _ _ _ g1
  have z:cs.drop 2=[]:=List.drop_eq_nil_of_le (by omega)
  have R:=(r0.append (r1.append (show RL (Rep (H0 w)) [] (cs.drop 2) by rw [z];exact zm1)))
  rw [← (show cs.drop 1=(cs.drop 1).take 1 ++ cs.drop 2 from zdm cs 1 1)] at R
  rw [← (show cs.drop 0=(cs.drop 0).take 1 ++ cs.drop 1 from zdm cs 0 1)] at R
  exact ⟨⟨a0,a1⟩,R,⟨w0,w1⟩⟩
def wf_27 (x:(Sl Int)):Prop:=x.len≤9223372036854775807∧∀ i,i < x.len→zAO (x.get i)
theorem rd_27 {H:Type} {en:TypeId×Value→H} {w:World} {sp:Nat→Bool} {held:Bool} : Rd H en Tryd.prog w sp held 27 zbX wf_27:=zq6 Tryd.underlying27 C_3 (by decide) (fun _=>rfl) zDE
end Go.Proofs
namespace Go.Proofs
open Go Go.Pm
set_option maxRecDepth 100000
set_option linter.unusedVariables false
attribute [local irreducible] Go.Pm.vcFun Go.Pm.vc Go.Pm.vcIter
abbrev T81:Tabs:=Tabs.nil
theorem zGv:TabsOk Tryd.prog T81:=TabsOk.nil
abbrev G81:Ctrs:=csm T81 (fun _ _=>[]) (fun _=>false)
def zEu:Ann:=⟨15,[(0,zK [0,1,2] []),(1,zK [6] [])],
 [],
 [],
 [],[]⟩
abbrev R81:=Bool
abbrev e81 (r:R81):List PA:=[.one (.bool r)]
section
variable {K:List PA→Prop} {n:Int} {low:Int} {high:Int}
def s81 (n:Int) (low:Int) (high:Int):Bool :=
  (cond (decide (n ≥ low))
 (decide (n≤high))
 false)
end
theorem q81 (n:Int) (low:Int) (high:Int) (K:List PA→Prop) (hk:K (e81 (s81 n low high))):vcFun Tryd.prog G81 zEu 81 [.one (.int .i64 n),.one (.int .i64 low),.one (.int .i64 high)] K :=
  za9 (by kernel_rfl) (zt hk (fun hk=>hk) (fun hk=>hk))
def zso : List PA → COut
  | [.one (.int .i64 a0),.one (.int .i64 a1),.one (.int .i64 a2)]=>.tot [.one (.bool (s81 a0 a1 a2))]
  | _=>.no
theorem zEv:zan Tryd.prog 81:=⟨_,rfl,rfl,by kernel_rfl⟩
theorem zGb:Ok Tryd.prog 81 zso:=zbr zGv zEv fun args K h=>by
  unfold zso at h
  split at h
  · rename_i a0 a1 a2
    have hk:=h
    exact ⟨(fun _ _=>[]),(fun _=>false),zEu,q81 a0 a1 a2 K hk⟩
  · exact h.elim
abbrev T78:Tabs:=(Tabs.nil.addF 81 zso)
theorem zGw:TabsOk Tryd.prog T78:=(TabsOk.nil.addF zGb)
abbrev G78:Ctrs:=csm T78 (fun _ _=>[]) (fun _=>false)
def zAP:Ann:=⟨55,[(0,zK [1,2] [2]),(1,zK [1,2,5] [2]),(2,zK [1,2,5,6] [2]),(3,zK [4] [])],
 [],
 [(2,zK [1,2,5] [2]),(3,zK [1,2,5,6] [2])],
 [],[]⟩
abbrev R78:=Bool
abbrev e78 (r:R78):List PA:=[.one (.bool r)]
@[irreducible] def z78:=ptF Tryd.prog G78 zAP Tryd.f78
section
variable {K:List PA→Prop} {t:Tie} {nodes:Int} {zlv:Bool} {zq7:Bool}
def ziP (t:Tie) (nodes:Int) (zlv:Bool) (zq7:Bool):Bool :=
  (cond (s81 t.From (0:Int) (w64 (nodes - (1:Int))))
 (cond (s81 t.To (0:Int) (w64 (nodes - (1:Int))))
 (cond (t.From != t.To)
 (cond zlv
 (cond zq7
 (decide (t.Low≤t.High))
 false)
 false)
 false)
 false)
 false)
theorem zuo (hk:K (e78 (ziP t nodes zlv zq7))):z78 K [1,1,1] [] ⟨[(1,zI nodes),(2,zp 2 0),(5,zB zlv),(6,zB zq7)],[(2,.box 40 (zm (enc_40 t)))],[]⟩:=za9 (by kernel_rfl) (zt hk (fun hk=>(zt hk (fun hk=>(zt hk (fun hk=>(zt hk (fun hk=>(zt hk (fun hk=>hk) (fun hk=>hk))) (fun hk=>hk))) (fun hk=>hk))) (fun hk=>hk))) (fun hk=>hk))
def ziQ (t:Tie) (nodes:Int) (zlv:Bool):Bool :=
  (cond (t.High == (1000000000000:Int))
 (ziP t nodes zlv true)
 (ziP t nodes zlv (s81 t.High (-1000000000:Int) (1000000000:Int))))
theorem zup (hk:K (e78 (ziQ t nodes zlv))):z78 K [1,1] [] ⟨[(1,zI nodes),(2,zp 2 0),(5,zB zlv)],[(2,.box 40 (zm (enc_40 t)))],[]⟩:=za9 (by kernel_rfl) (zt hk (fun hk=>(zuo hk)) (fun hk=>(zuo hk)))
def s78 (t:Tie) (nodes:Int):Bool :=
  (cond (t.Low == (-1000000000000:Int))
 (ziQ t nodes true)
 (ziQ t nodes (s81 t.Low (-1000000000:Int) (1000000000:Int))))
end
theorem q78 (t:Tie) (nodes:Int) (K:List PA→Prop) (hk:K (e78 (s78 t nodes))):vcFun Tryd.prog G78 zAP 78 [.agg (enc_40 t),.one (.int .i64 nodes)] K :=
  za9 (by kernel_rfl) (zt hk (fun hk=>(zup hk)) (fun hk=>(zup hk)))
def zAQ : List PA → COut
  | [.agg [.int .i64 a0_From,.int .i64 a0_To,.int .i64 a0_Low,.int .i64 a0_High],.one (.int .i64 a1)]=>.tot [.one (.bool (s78 (⟨a0_From,a0_To,a0_Low,a0_High⟩:Tie) a1))]
  | _=>.no
theorem zEw:zan Tryd.prog 78:=⟨_,rfl,rfl,by kernel_rfl⟩
theorem zHZ:Ok Tryd.prog 78 zAQ:=zbr zGw zEw fun args K h=>by
  unfold zAQ at h
  split at h
  · rename_i a0_From a0_To a0_Low a0_High a1
    have hk:=h
    exact ⟨(fun _ _=>[]),(fun _=>false),zAP,q78 (⟨a0_From,a0_To,a0_Low,a0_High⟩:Tie) a1 K hk⟩
  · exact h.elim
abbrev T67:Tabs:=((Tabs.nil.addF 78 zAQ).addF 81 zso)
theorem zGx:TabsOk Tryd.prog T67:=((TabsOk.nil.addF zHZ).addF zGb)
abbrev G67:Ctrs:=csm T67 (fun _ _=>[]) (fun _=>false)
def zyI:Ann:=⟨27,[(0,zK [1] [1]),(1,zK [1,6,7,8] [1]),(2,zK [1,6,7,8,9] [1]),(3,zK [1,4,6,7,8] [1,4]),(4,zK [1,6,7,8,16] [1]),(5,zK [2] []),(6,zK [1,6,7,8] [1]),(7,zK [2] [])],
 [(2,zK [1,6,7,8] [1])],
 [(5,zK [1,6,7,8,16] [1])],
 [],[]⟩
abbrev R67:=Bool
abbrev e67 (r:R67):List PA:=[.one (.bool r)]
@[irreducible] def z67:=ptF Tryd.prog G67 zyI Tryd.f67
def zzC (n:Net) (zc6:Int):St:=⟨[(1,zp 1 0),(6,zS enc_40 4 n.Ties),(7,zI (n.Ties.len:Int)),(8,zI zc6)],[(1,.box 24 (zm (enc_24 n)))],[]⟩
abbrev zAR (K:List PA→Prop) (n:Net) (X:St→Prop) (P:Int→Bool) (S:Int→Bool):Prop:=∀ ⦃zc6:Int⦄,P zc6=true→K (e67 (S zc6))→X (zzC n zc6)
section
variable {K:List PA→Prop} {n:Net} {zc6:Int} {X0:St→Prop} {P0:Int→Bool} {S0:Int→Bool} {zAS:Int} {zor:Bool}
def zos (S0:Int→Bool) (n:Net) (zAS:Int) (zor:Bool):Bool :=
  (cond zor
 false
 (S0 (w64 (zAS+(1:Int)))))
def zot (P0:Int→Bool) (n:Net) (zAS:Int) (zor:Bool):Bool :=
  (cond zor
 true
 (P0 (w64 (zAS+(1:Int)))))
theorem zAT (hX0:zAR K n X0 P0 S0) (hs:zot P0 n zAS zor=true) (hk:K (e67 (zos S0 n zAS zor))):z67 K [1,0,1,0,0,1,1,0,0,1,1] [X0] ⟨[(1,zp 1 0),(6,zS enc_40 4 n.Ties),(7,zI (n.Ties.len:Int)),(8,zI zAS),(16,zB zor)],[(1,.box 24 (zm (enc_24 n)))],[]⟩:=za9 (by kernel_rfl) (zc hs hk (fun hs hk=>hk) (fun hs hk=>(hX0 hs hk)))
def zgL (n:Net) (S0:Int→Bool) (zc6:Int):Bool :=
  (cond (decide (zc6 < (n.Ties.len : Int)))
 (zos S0 n zc6 (!(s78 (n.Ties.get zc6.toNat) n.Nodes)))
 (cond (s81 n.Nodes (1:Int) (40:Int))
 (decide ((n.Ties.len:Int)≤(200:Int)))
 false))
def zgM (n:Net) (P0:Int→Bool) (zc6:Int):Bool :=
  (cond (decide (zc6 < (n.Ties.len : Int)))
 (decide ((0≤zc6∧zc6 < (n.Ties.len:Int))) &&
 (zot P0 n zc6 (!(s78 (n.Ties.get zc6.toNat) n.Nodes))))
 true)
def zgN (n:Net):Nat→Int→Bool:=lpO (fun _=>default) (zgL n)
def zgO (n:Net):Nat→Int→Bool:=lpO (fun _=>false) (zgM n)
def zuq (n:Net) (zc6:Int):Bool:=zgN n Fuel zc6
def zur (n:Net) (zc6:Int):Bool:=zgO n Fuel zc6
theorem zAU (hs:zur n zc6=true) (hk:K (e67 (zuq n zc6))):z67 K [1,0,1,0] [] (zzC n zc6) :=
  zl (fun X=>z67 K [1,0,1,0,0] [X]) (by kernel_rfl) fun X0 hX =>
  (show ∀ k, zAR K n X0 (zgO n k) (zgN n k) from zjV _ _ (zgM n) (zgL n) (zAR K n X0)
 (by intro _ hs;exact absurd hs Bool.false_ne_true)
 (by intro P0 S0 hX0 zc6 hs hk;exact hX _ (za9 (by kernel_rfl) (zc hs hk (fun hs hk=>(zaX hs fun hc hs=>And.intro hc (zAT hX0 hs hk))) (fun hs hk=>(zt hk (fun hk=>hk) (fun hk=>hk))))))) _ hs hk
def s67 (n:Net):Bool :=
  (zuq n (0:Int))
def p67 (n:Net):Bool :=
  (zur n (0:Int))
end
theorem q67 (n:Net) (K:List PA→Prop) (hs:p67 n=true) (hk:K (e67 (s67 n))):vcFun Tryd.prog G67 zyI 67 [.agg (enc_24 n)] K :=
  za9 (by kernel_rfl) (zAU hs hk)
def zou : List PA → COut
  | [.agg [.int .i64 a0_Nodes,.sl a0_Ties_n a0_Ties_s a0_Ties_g]]=>.det (IsE enc_40 4 a0_Ties_s a0_Ties_g∧p67 (⟨a0_Nodes,(⟨a0_Ties_n,zaa a0_Ties_g⟩:(Sl Tie))⟩:Net)=true) [.one (.bool (s67 (⟨a0_Nodes,(⟨a0_Ties_n,zaa a0_Ties_g⟩:(Sl Tie))⟩:Net)))]
  | [.agg [.int .i64 a0_Nodes,.nils]]=>.det (p67 (⟨a0_Nodes,(⟨0,fun _=>default⟩:(Sl Tie))⟩:Net)=true) [.one (.bool (s67 (⟨a0_Nodes,(⟨0,fun _=>default⟩:(Sl Tie))⟩:Net)))]
  | _=>.no
theorem zEx:zan Tryd.prog 67:=⟨_,rfl,rfl,by kernel_rfl⟩
theorem zEy:Ok Tryd.prog 67 zou:=zgK zGx zEx fun args K h=>by
  unfold zou at h
  split at h
  · rename_i a0_Nodes a0_Ties_n a0_Ties_s a0_Ties_g
    obtain ⟨⟨⟨rfl,a0_Ties_f,rfl⟩,hs⟩,hk⟩:=h
    try rw [zaj a0_Ties_f] at hs
    try rw [zaj a0_Ties_f] at hk
    exact ⟨_,zeM zft _,(fun _ _=>[]),(fun _=>false),zyI,q67 (⟨a0_Nodes,(⟨a0_Ties_n,a0_Ties_f⟩:(Sl Tie))⟩:Net) (Wk K) hs (zfu hk)⟩
  · rename_i a0_Nodes
    obtain ⟨hs,hk⟩:=h
    exact ⟨_,(zgx (.agg (zgx (.rfl _) (zgx (.nil _ _) zm1))) zm1),(fun _ _=>[]),(fun _=>false),zyI,q67 (⟨a0_Nodes,(⟨0,fun _=>default⟩:(Sl Tie))⟩:Net) (Wk K) hs (zfu hk)⟩
  · exact h.elim
abbrev T93:Tabs:=Tabs.nil
theorem zGy:TabsOk Tryd.prog T93:=TabsOk.nil
abbrev G93:Ctrs:=csm T93 (fun _ _=>[]) (fun _=>false)
def zAV:Ann:=⟨4,[(0,⟨[1],[1],[],[],[],[],[]⟩),(1,⟨[2],[],[],[],[],[],[]⟩)],
 [],
 [],
 [],[]⟩
theorem zAW (w : web) (K : List PA → Prop) :
  vcFun Tryd.prog G93 zAV 93 [.one (.fp (zat w) 0)] K =
  (K [.one (.fn 110 [] [.fp [.fp (zat w) 0] 0])]):=by kernel_rfl
theorem q93 (w:web) (K:List PA→Prop) (hk:K [.one (.fn 110 [] [.fp [.fp (zat w) 0] 0])]):vcFun Tryd.prog G93 zAV 93 [.one (.fp (zat w) 0)] K:=za9 (zAW w K) hk
def zm3 : List PA → COut
  | [.one (.fp [.int .i64 a0_Net_Nodes,.sl a0_Net_Ties_n a0_Net_Ties_s a0_Net_Ties_g,.fm a0_out_q a0_out_n a0_out_F] 0)]=>.det (IsE enc_40 4 a0_Net_Ties_s a0_Net_Ties_g∧a0_out_q=(false,1,false,[none])) [.one (.fn 110 [] [.fp [.fp (zat (⟨(⟨(⟨a0_Net_Nodes,(⟨a0_Net_Ties_n,zaa a0_Net_Ties_g⟩:(Sl Tie))⟩:Net),(⟨a0_out_n,a0_out_F⟩:Mp)⟩:web).Net,((⟨(⟨a0_Net_Nodes,(⟨a0_Net_Ties_n,zaa a0_Net_Ties_g⟩:(Sl Tie))⟩:Net),(⟨a0_out_n,a0_out_F⟩:Mp)⟩:web).out)⟩:web)) 0] 0])]
  | _=>.no
theorem zEz:zan Tryd.prog 93:=⟨_,rfl,rfl,by kernel_rfl⟩
theorem zDF:Ok Tryd.prog 93 zm3:=zbr zGy zEz fun args K h=>by
  unfold zm3 at h
  split at h
  · rename_i a0_Net_Nodes a0_Net_Ties_n a0_Net_Ties_s a0_Net_Ties_g a0_out_q a0_out_n a0_out_F
    obtain ⟨⟨⟨rfl,a0_Net_Ties_f,rfl⟩,rfl⟩,hk⟩:=h
    try rw [zaj a0_Net_Ties_f] at hk
    exact ⟨fun _ _=>[],fun _=>false,zAV,q93 (⟨(⟨a0_Net_Nodes,(⟨a0_Net_Ties_n,a0_Net_Ties_f⟩:(Sl Tie))⟩:Net),(⟨a0_out_n,a0_out_F⟩:Mp)⟩:web) K hk⟩
  · exact h.elim
abbrev T94:Tabs:=Tabs.nil
theorem zGz:TabsOk Tryd.prog T94:=TabsOk.nil
abbrev G94:Ctrs:=csm T94 (fun _ _=>[]) (fun _=>false)
def zEA:Ann:=⟨21,[(0,zK [1,2] [1,2]),(1,zK [2,3] [2])],
 [],
 [],
 [],[]⟩
abbrev R94:=(step×Bool)
abbrev e94 (r:R94):List PA:=[.agg [.int .i64 r.1.Use.Tie,.bool r.1.Use.Back,.int .i64 r.1.from_,.int .i64 r.1.to,.int .i64 r.1.length],.one (.bool r.2)]
section
variable {K:List PA→Prop} {t:tie}
def s94 (t:tie):(step×Bool) :=
  ((⟨(⟨t.index,false⟩:Use),t.Tie.From,t.Tie.To,t.Tie.High⟩:step),(t.Tie.High != (1000000000000:Int)))
end
theorem q94 (t:tie) (K:List PA→Prop) (hk:K (e94 (s94 t))):vcFun Tryd.prog G94 zEA 94 [.agg (zum t)] K :=
  za9 (by kernel_rfl) hk
def zAX : List PA → COut
  | [.agg [.int .i64 a0_Tie_From,.int .i64 a0_Tie_To,.int .i64 a0_Tie_Low,.int .i64 a0_Tie_High,.int .i64 a0_index]]=>.tot [.agg [.int .i64 (((s94 (⟨(⟨a0_Tie_From,a0_Tie_To,a0_Tie_Low,a0_Tie_High⟩:Tie),a0_index⟩:tie)).1).Use.Tie),.bool (((s94 (⟨(⟨a0_Tie_From,a0_Tie_To,a0_Tie_Low,a0_Tie_High⟩:Tie),a0_index⟩:tie)).1).Use.Back),.int .i64 (((s94 (⟨(⟨a0_Tie_From,a0_Tie_To,a0_Tie_Low,a0_Tie_High⟩:Tie),a0_index⟩:tie)).1).from_),.int .i64 (((s94 (⟨(⟨a0_Tie_From,a0_Tie_To,a0_Tie_Low,a0_Tie_High⟩:Tie),a0_index⟩:tie)).1).to),.int .i64 (((s94 (⟨(⟨a0_Tie_From,a0_Tie_To,a0_Tie_Low,a0_Tie_High⟩:Tie),a0_index⟩:tie)).1).length)],.one (.bool ((s94 (⟨(⟨a0_Tie_From,a0_Tie_To,a0_Tie_Low,a0_Tie_High⟩:Tie),a0_index⟩:tie)).2))]
  | _=>.no
theorem zEB:zan Tryd.prog 94:=⟨_,rfl,rfl,by kernel_rfl⟩
theorem zH0:Ok Tryd.prog 94 zAX:=zbr zGz zEB fun args K h=>by
  unfold zAX at h
  split at h
  · rename_i a0_Tie_From a0_Tie_To a0_Tie_Low a0_Tie_High a0_index
    have hk:=h
    exact ⟨(fun _ _=>[]),(fun _=>false),zEA,q94 (⟨(⟨a0_Tie_From,a0_Tie_To,a0_Tie_Low,a0_Tie_High⟩:Tie),a0_index⟩:tie) K hk⟩
  · exact h.elim
abbrev T95:Tabs:=Tabs.nil
theorem zGA:TabsOk Tryd.prog T95:=TabsOk.nil
abbrev G95:Ctrs:=csm T95 (fun _ _=>[]) (fun _=>false)
def zEC:Ann:=⟨22,[(0,zK [1,2] [1,2]),(1,zK [2,3] [2])],
 [],
 [],
 [],[]⟩
abbrev R95:=(step×Bool)
abbrev e95 (r:R95):List PA:=[.agg [.int .i64 r.1.Use.Tie,.bool r.1.Use.Back,.int .i64 r.1.from_,.int .i64 r.1.to,.int .i64 r.1.length],.one (.bool r.2)]
section
variable {K:List PA→Prop} {t:tie}
def s95 (t:tie):(step×Bool) :=
  ((⟨(⟨t.index,true⟩:Use),t.Tie.To,t.Tie.From,(w64 (0 - t.Tie.Low))⟩:step),(t.Tie.Low != (-1000000000000:Int)))
end
theorem q95 (t:tie) (K:List PA→Prop) (hk:K (e95 (s95 t))):vcFun Tryd.prog G95 zEC 95 [.agg (zum t)] K :=
  za9 (by kernel_rfl) hk
def zAY : List PA → COut
  | [.agg [.int .i64 a0_Tie_From,.int .i64 a0_Tie_To,.int .i64 a0_Tie_Low,.int .i64 a0_Tie_High,.int .i64 a0_index]]=>.tot [.agg [.int .i64 (((s95 (⟨(⟨a0_Tie_From,a0_Tie_To,a0_Tie_Low,a0_Tie_High⟩:Tie),a0_index⟩:tie)).1).Use.Tie),.bool (((s95 (⟨(⟨a0_Tie_From,a0_Tie_To,a0_Tie_Low,a0_Tie_High⟩:Tie),a0_index⟩:tie)).1).Use.Back),.int .i64 (((s95 (⟨(⟨a0_Tie_From,a0_Tie_To,a0_Tie_Low,a0_Tie_High⟩:Tie),a0_index⟩:tie)).1).from_),.int .i64 (((s95 (⟨(⟨a0_Tie_From,a0_Tie_To,a0_Tie_Low,a0_Tie_High⟩:Tie),a0_index⟩:tie)).1).to),.int .i64 (((s95 (⟨(⟨a0_Tie_From,a0_Tie_To,a0_Tie_Low,a0_Tie_High⟩:Tie),a0_index⟩:tie)).1).length)],.one (.bool ((s95 (⟨(⟨a0_Tie_From,a0_Tie_To,a0_Tie_Low,a0_Tie_High⟩:Tie),a0_index⟩:tie)).2))]
  | _=>.no
theorem zED:zan Tryd.prog 95:=⟨_,rfl,rfl,by kernel_rfl⟩
theorem zH1:Ok Tryd.prog 95 zAY:=zbr zGA zED fun args K h=>by
  unfold zAY at h
  split at h
  · rename_i a0_Tie_From a0_Tie_To a0_Tie_Low a0_Tie_High a0_index
    have hk:=h
    exact ⟨(fun _ _=>[]),(fun _=>false),zEC,q95 (⟨(⟨a0_Tie_From,a0_Tie_To,a0_Tie_Low,a0_Tie_High⟩:Tie),a0_index⟩:tie) K hk⟩
  · exact h.elim
abbrev zHG:Tabs:=((Tabs.nil.addF 94 zAX).addF 95 zAY)
theorem zEE:TabsOk Tryd.prog zHG:=((TabsOk.nil.addF zH0).addF zH1)
abbrev zEF:Ctrs:=csm zHG (fun _ _=>[]) (fun _=>false)
def zho:Ann:=⟨52,[(0,⟨[0,1,14,15,16],[],[],[],[],[],[]⟩),(1,⟨[0,1,14,15,16,17],[],[],[],[],[],[]⟩),(2,⟨[0,1,3,4,14,15,16],[4],[],[],[],[],[]⟩),(3,⟨[0,1,3,4,14,15,16,26],[4],[],[],[],[],[]⟩),(4,⟨[0,1,5,14,15,16],[5],[],[],[],[],[]⟩),(5,⟨[0,1,14,15,16,34,35],[],[],[],[],[],[]⟩),(6,⟨[0,1,14,15,16,34,35,36],[],[],[],[],[],[]⟩),(7,⟨[0,1,7,14,15,16,34,35],[],[],[],[],[],[]⟩),(8,⟨[0,1,8,9,14,15,16,34,35],[8],[],[],[],[],[]⟩),(9,⟨[0,1,14,15,16,34,35,49],[],[],[],[],[],[]⟩),(10,⟨[0,1,14,15,16,34,35],[],[],[],[],[],[]⟩),(11,⟨[0,1,14,15,16],[],[],[],[],[],[]⟩)],
 [(1,⟨[0,1,14,15,16],[],[],[],[],[],[]⟩)],
 [],
 [(6,3,⟨[0,1,14,15,16,34,35],[],[],[],[],[],[]⟩)],[9]⟩
def zdt (l:Nat) (a:web) (zaD:Int):St:=⟨[(0,.one (.c (.p (.yl l)))),(1,.one (.c (.p (.fp [.fp (zat a) 0] 0)))),(14,.one (.c (.p (.sl a.Net.Ties.len 4 (fun i=>enc_40 (a.Net.Ties.get i)))))),(15,.one (.c (.p (.int .i64 (a.Net.Ties.len:Int))))),(16,.one (.c (.p (.int .i64 zaD))))],[],[]⟩
def zgc (l:Nat) (ys:List (List PA)) (a:web) (zaD:Int):Prop:=vcY Tryd.prog zEF zho l (cdF Tryd.f110 [1,0]) (zmf 0 zxU) ys false (zdt l a zaD)
theorem zyJ (l : Nat) (a : web) (ys : List (List PA)) :
  vcIter Tryd.prog zEF zho 110 l [.one (.fp [.fp (zat a) 0] 0)] ys =
  (zgc l ys a (0:Int)):=by kernel_rfl
def zkz (l:Nat) (X0:List (List PA)→Bool→St→Prop) (ys:List (List PA)) (a:web) (zaD:Int):Prop :=
  (zbA (decide (zaD < (a.Net.Ties.len : Int)))
 (((0≤zaD∧zaD < (a.Net.Ties.len:Int))) ∧
 (zbA ((zxI (a.out.F [zaD]) 0) != 0)
 (X0 ys false (zdt l a (w64 (zaD+(1:Int)))))
 (zbA ((s94 (⟨(a.Net.Ties.get zaD.toNat), zaD⟩ : tie)).2)
 (l=l∧∃ r1,ys=[.agg [.int .i64 (((s94 (⟨(a.Net.Ties.get zaD.toNat),zaD⟩:tie)).1).Use.Tie),.bool (((s94 (⟨(a.Net.Ties.get zaD.toNat),zaD⟩:tie)).1).Use.Back),.int .i64 (((s94 (⟨(a.Net.Ties.get zaD.toNat),zaD⟩:tie)).1).from_),.int .i64 (((s94 (⟨(a.Net.Ties.get zaD.toNat),zaD⟩:tie)).1).to),.int .i64 (((s94 (⟨(a.Net.Ties.get zaD.toNat),zaD⟩:tie)).1).length)]] :: r1 ∧
 (zbA ((s95 (⟨(a.Net.Ties.get zaD.toNat), zaD⟩ : tie)).2)
 (l=l∧∃ r2,r1=[.agg [.int .i64 (((s95 (⟨(a.Net.Ties.get zaD.toNat),zaD⟩:tie)).1).Use.Tie),.bool (((s95 (⟨(a.Net.Ties.get zaD.toNat),zaD⟩:tie)).1).Use.Back),.int .i64 (((s95 (⟨(a.Net.Ties.get zaD.toNat),zaD⟩:tie)).1).from_),.int .i64 (((s95 (⟨(a.Net.Ties.get zaD.toNat),zaD⟩:tie)).1).to),.int .i64 (((s95 (⟨(a.Net.Ties.get zaD.toNat),zaD⟩:tie)).1).length)]] :: r2 ∧
 (X0 r2 false (zdt l a (w64 (zaD+(1:Int)))))∧True)
 (X0 r1 false (zdt l a (w64 (zaD+(1:Int))))))∧True)
 (zbA ((s95 (⟨(a.Net.Ties.get zaD.toNat), zaD⟩ : tie)).2)
 (l=l∧∃ r3,ys=[.agg [.int .i64 (((s95 (⟨(a.Net.Ties.get zaD.toNat),zaD⟩:tie)).1).Use.Tie),.bool (((s95 (⟨(a.Net.Ties.get zaD.toNat),zaD⟩:tie)).1).Use.Back),.int .i64 (((s95 (⟨(a.Net.Ties.get zaD.toNat),zaD⟩:tie)).1).from_),.int .i64 (((s95 (⟨(a.Net.Ties.get zaD.toNat),zaD⟩:tie)).1).to),.int .i64 (((s95 (⟨(a.Net.Ties.get zaD.toNat),zaD⟩:tie)).1).length)]] :: r3 ∧
 (X0 r3 false (zdt l a (w64 (zaD+(1:Int)))))∧True)
 (X0 ys false (zdt l a (w64 (zaD+(1:Int)))))))))
 (ys=[]))
theorem zm4 (l : Nat) (X0 : List (List PA) → Bool → St → Prop) (ys : List (List PA)) (a : web) (zaD : Int) :
  vcY Tryd.prog zEF zho l (cd (cdF Tryd.f110 [1,0]) [0]) (zxS Tryd.prog zho 1 X0 (zmf 0 zxU)) ys false (zdt l a zaD) =
  zkz l X0 ys a zaD:=by kernel_rfl
theorem zsp (l : Nat) (ys : List (List PA)) (a : web) (zaD : Int)
  (h:∀ X0:List (List PA)→Bool→St→Prop,(∀ (ys:List (List PA)) (zaD:Int),zkz l X0 ys a zaD→X0 ys false (zdt l a zaD))→X0 ys false (zdt l a zaD)) :
  zgc l ys a zaD:=by
  have e:zgc l ys a zaD=(∀ X:List (List PA)→Bool→St→Prop,(∀ ys q s,vcY Tryd.prog zEF zho l (cd (cdF Tryd.f110 [1,0]) [0]) (zxS Tryd.prog zho 1 X (zmf 0 zxU)) ys q s→X ys q s)→X ys false (zdt l a zaD)):=by kernel_rfl
  refine za9 e ?_
  intro X hX
  refine h X ?_
  intro ys zaD hs
  refine hX _ _ _ ?_
  have e2:=zm4 l X ys a zaD
  rw [e2]
  exact hs
attribute [irreducible] zgc
def zlw (a:web) (S0:Int→List step) (zaD:Int):List step :=
  (cond (decide (zaD < (a.Net.Ties.len : Int)))
 (cond ((zxI (a.out.F [zaD]) 0) != 0)
 (S0 (w64 (zaD+(1:Int))))
 (cond ((s94 (⟨(a.Net.Ties.get zaD.toNat), zaD⟩ : tie)).2)
 (((s94 (⟨(a.Net.Ties.get zaD.toNat), zaD⟩ : tie)).1) :: (cond ((s95 (⟨(a.Net.Ties.get zaD.toNat), zaD⟩ : tie)).2)
 (((s95 (⟨(a.Net.Ties.get zaD.toNat),zaD⟩:tie)).1) :: (S0 (w64 (zaD+(1:Int)))))
 (S0 (w64 (zaD+(1:Int))))))
 (cond ((s95 (⟨(a.Net.Ties.get zaD.toNat), zaD⟩ : tie)).2)
 (((s95 (⟨(a.Net.Ties.get zaD.toNat),zaD⟩:tie)).1) :: (S0 (w64 (zaD+(1:Int)))))
 (S0 (w64 (zaD+(1:Int)))))))
 [])
def zlx (a:web) (P0:Int→Bool) (zaD:Int):Bool :=
  (cond (decide (zaD < (a.Net.Ties.len : Int)))
 (decide ((0≤zaD∧zaD < (a.Net.Ties.len:Int))) &&
 (cond ((zxI (a.out.F [zaD]) 0) != 0)
 (P0 (w64 (zaD+(1:Int))))
 (cond ((s94 (⟨(a.Net.Ties.get zaD.toNat), zaD⟩ : tie)).2)
 (cond ((s95 (⟨(a.Net.Ties.get zaD.toNat), zaD⟩ : tie)).2)
 (P0 (w64 (zaD+(1:Int))))
 (P0 (w64 (zaD+(1:Int)))))
 (cond ((s95 (⟨(a.Net.Ties.get zaD.toNat), zaD⟩ : tie)).2)
 (P0 (w64 (zaD+(1:Int))))
 (P0 (w64 (zaD+(1:Int))))))))
 true)
def zgd (a : web) : Nat → Int → List step
  | 0=>fun _=>[]
  | k+1=>zlw a (zgd a k)
def zge (a : web) : Nat → Int → Bool
  | 0=>fun _=>false
  | k+1=>zlx a (zge a k)
def zq8 (a:web) (zaD:Int):List step:=zgd a Fuel zaD
def zq9 (a:web) (zaD:Int):Bool:=zge a Fuel zaD
theorem zyK (l:Nat) (a:web) (ys:List (List PA)) (zaD:Int) (hs:zq9 a zaD=true) (hk:ys=(zq8 a zaD).map (fun y=>[.agg (zae y)])):zgc l ys a zaD:=by
  refine zsp l ys a zaD ?_
  intro X0 hstep
  have key:∀ (k:Nat) (ys:List (List PA)) (zaD:Int),zge a k zaD=true→ys=(zgd a k zaD).map (fun y=>[.agg (zae y)])→X0 ys false (zdt l a zaD):=by
    intro k
    induction k with
    | zero=>intro ys zaD hs;exact absurd hs Bool.false_ne_true
    | succ k ih =>
      intro ys zaD hs hk
      refine hstep ys zaD ?_
      have hs:zlx a (zge a k) zaD=true:=hs
      have hk:ys=(zlw a (zgd a k) zaD).map (fun y=>[.agg (zae y)]):=hk
      unfold zlx at hs
      unfold zlw at hk
      generalize zgd a k=S0 at hk ih
      generalize zge a k=P0 at hs ih
      have hX0:=ih
      exact (zga hs hk
 (fun hs hk => (zaX hs fun hc hs => ⟨hc, (zga hs hk
 (fun hs hk=>(hX0 _ (w64 (zaD+(1:Int))) hs hk))
 (fun hs hk => (zga hs hk
 (fun hs hk => (itY hk rfl (fun _ hk => (zga hs hk
 (fun hs hk=>(itY hk rfl (fun _ hk=>(hX0 _ (w64 (zaD+(1:Int))) hs hk))))
 (fun hs hk=>(hX0 _ (w64 (zaD+(1:Int))) hs hk))))))
 (fun hs hk => (zga hs hk
 (fun hs hk=>(itY hk rfl (fun _ hk=>(hX0 _ (w64 (zaD+(1:Int))) hs hk))))
 (fun hs hk=>(hX0 _ (w64 (zaD+(1:Int))) hs hk)))))))⟩))
 (fun hs hk=>hk))
  exact key _ _ zaD hs hk
def zgP (a:web):List step :=
  (zq8 a (0:Int))
def zj1 (a:web):Bool :=
  (zq9 a (0:Int))
theorem zH2 (l:Nat) (a:web) (ys:List (List PA)) (hs:zj1 a=true) (hk:ys=(zgP a).map (fun y=>[.agg (zae y)])):vcIter Tryd.prog zEF zho 110 l [.one (.fp [.fp (zat a) 0] 0)] ys:=by
  refine za9 (zyJ l a ys) ?_
  unfold zj1 at hs
  unfold zgP at hk
  exact (zyK l a _ (0:Int) hs hk)
def zm5 : List PA → Option (Prop × List (List PA))
  | [.one (.fp [.fp [.int .i64 a_Net_Nodes,.sl a_Net_Ties_n a_Net_Ties_s a_Net_Ties_g,.fm a_out_q a_out_n a_out_F] 0] 0)]=>some (IsE enc_40 4 a_Net_Ties_s a_Net_Ties_g∧a_out_q=(false,1,false,[none])∧zj1 (⟨(⟨a_Net_Nodes,(⟨a_Net_Ties_n,zaa a_Net_Ties_g⟩:(Sl Tie))⟩:Net),(⟨a_out_n,a_out_F⟩:Mp)⟩:web)=true,(zgP (⟨(⟨a_Net_Nodes,(⟨a_Net_Ties_n,zaa a_Net_Ties_g⟩:(Sl Tie))⟩:Net),(⟨a_out_n,a_out_F⟩:Mp)⟩:web)).map fun y=>[.agg (zae y)])
  | _=>none
theorem zAZ:zan Tryd.prog 110:=⟨_,rfl,rfl,by kernel_rfl⟩
theorem zsq:zzl Tryd.prog 110 zm5:=zEj zEE zAZ fun l caps safe ys h hs=>by
  unfold zm5 at h
  split at h
  · rename_i a_Net_Nodes a_Net_Ties_n a_Net_Ties_s a_Net_Ties_g a_out_q a_out_n a_out_F
    cases h
    obtain ⟨⟨rfl,a_Net_Ties_f,rfl⟩,rfl,hs⟩:=hs
    try rw [zaj a_Net_Ties_f] at hs
    try rw [zaj a_Net_Ties_f]
    exact ⟨fun _ _=>[],fun _=>false,zho,zH2 l (⟨(⟨a_Net_Nodes,(⟨a_Net_Ties_n,a_Net_Ties_f⟩:(Sl Tie))⟩:Net),(⟨a_out_n,a_out_F⟩:Mp)⟩:web) _ hs rfl⟩
  · cases h
abbrev T88:Tabs:=((Tabs.nil.addF 93 zm3).addI 110 zm5)
theorem zGB:TabsOk Tryd.prog T88:=((TabsOk.nil.addF zDF).addI zsq)
abbrev G88:Ctrs:=csm T88 (fun _ _=>[]) (fun _=>false)
def zcs:Ann:=⟨37,[(0,⟨[0],[],[],[],[],[],[]⟩),(1,⟨[0,3],[3],[],[],[],[],[]⟩),(2,⟨[0,3,11,12],[3],[],[],[],[],[]⟩),(3,⟨[0,3,11,12,13],[3],[],[],[],[],[]⟩),(4,⟨[0,3,4,11,12],[3,4],[],[],[],[],[]⟩),(5,⟨[0,3,4,11,12,15],[3,4],[],[],[],[],[]⟩),(6,⟨[0,3,4,5,11,12,15],[3,4,5],[],[],[],[],[]⟩),(7,⟨[0,3,4,5,6,11,12,15],[3,4,5],[],[],[],[],[]⟩),(8,⟨[0,3,4,5,6,11,12,15,29],[3,4,5],[],[],[],[],[]⟩),(9,⟨[0,3,4,11,12,15],[3,4],[],[],[],[],[]⟩),(10,⟨[0,3,4,11,12,15],[3,4],[],[],[],[],[]⟩),(11,⟨[0,3,11,12,35],[3],[],[],[],[],[]⟩),(12,⟨[2],[],[],[],[],[],[]⟩),(13,⟨[0,3,11,12],[3],[],[],[],[],[]⟩),(14,⟨[2],[],[],[],[],[],[]⟩)],
 [(3,⟨[0,3,11,12],[3],[],[],[],[],[]⟩),(6,⟨[0,3,4,11,12,15],[3,4],[],[],[],[],[]⟩)],
 [],
 [],[]⟩
def zhp (w:web) (zbc:Int) (dt0:Tab):St:=⟨[(0,.one (.c (.p (.fp (zat w) 0)))),(3,.one (.c (.ptr 3 0))),(11,.one (.c (.p (.int .i64 w.Net.Nodes)))),(12,.one (.c (.p (.int .i64 zbc))))],[(3,.box 157 (zm (zun dt0)))],[]⟩
def ziR (K:List PA→Prop) (w:web) (zbc:Int) (dt0:Tab):Prop:=vc Tryd.prog G88 zcs (cdF Tryd.f88 [1,1,0,1,0]) (zai 0 (sqK Tryd.prog G88 zcs (cdF Tryd.f88 [1,1,1]) (za8 Tryd.prog Tryd.f88 K))) (zhp w zbc dt0)
def zfv (w:web) (za1:Int) (zao:Bool) (dt1:Tab):St:=⟨[(0,.one (.c (.p (.fp (zat w) 0)))),(3,.one (.c (.ptr 3 0))),(4,.one (.c (.ptr 4 0))),(11,.one (.c (.p (.int .i64 w.Net.Nodes)))),(12,.one (.c (.p (.int .i64 za1)))),(15,.one (.c (.p (.fn 110 [] [.fp [.fp (zat w) 0] 0]))))],[(3,.box 157 (zm (zun dt1))),(4,.box 4 [.p (.bool zao)])],[]⟩
def ziS (K:List PA→Prop) (X0:St→Prop) (w:web) (za1:Int) (zao:Bool) (dt1:Tab):Prop:=vc Tryd.prog G88 zcs (cdF Tryd.f88 [1,1,0,1,0,0,1,1,0,0,1,0,1,0]) (zai 2 (sqK Tryd.prog G88 zcs (cdF Tryd.f88 [1,1,0,1,0,0,1,1,0,0,1,1]) (zai 1 (sqK Tryd.prog G88 zcs (cdF Tryd.f88 [1,1,0,1,0,0,1,1,1]) (zba Tryd.prog zcs 3 X0 (zai 0 (sqK Tryd.prog G88 zcs (cdF Tryd.f88 [1,1,1]) (za8 Tryd.prog Tryd.f88 K)))))))) (zfv w za1 zao dt1)
theorem zA0 (w : web) (K : List PA → Prop) :
  vcFun Tryd.prog G88 zcs 88 [.one (.fp (zat w) 0)] K =
  (ziR K w (0:Int) (fun _=>(0:Int))):=by kernel_rfl
def zm6 (K:List PA→Prop) (X0:St→Prop) (w:web) (zbc:Int) (dt0:Tab):Prop :=
  (zbA (decide (zbc < w.Net.Nodes))
 ((IsE enc_40 4 4 (fun i=>enc_40 (w.Net.Ties.get i))∧((false,1,false,[none]):MQ)=(false,1,false,[none])) ∧
 (ziS K X0 w zbc false dt0))
 (K [.one (.bool true)]))
theorem zov (K : List PA → Prop) (X0 : St → Prop) (w : web) (zbc : Int) (dt0 : Tab) :
  vc Tryd.prog G88 zcs (cd (cdF Tryd.f88 [1,1,0,1,0]) [0]) (zba Tryd.prog zcs 3 X0 (zai 0 (sqK Tryd.prog G88 zcs (cdF Tryd.f88 [1,1,1]) (za8 Tryd.prog Tryd.f88 K)))) (zhp w zbc dt0) =
  zm6 K X0 w zbc dt0:=by kernel_rfl
theorem zus (K : List PA → Prop) (w : web) (zbc : Int) (dt0 : Tab)
  (h:∀ X0:St→Prop,(∀ (zbc:Int) (dt0:Tab),zm6 K X0 w zbc dt0→X0 (zhp w zbc dt0))→X0 (zhp w zbc dt0)) :
  ziR K w zbc dt0:=by
  have e:ziR K w zbc dt0=(∀ X:St→Prop,(∀ s,vc Tryd.prog G88 zcs (cd (cdF Tryd.f88 [1,1,0,1,0]) [0]) (zba Tryd.prog zcs 3 X (zai 0 (sqK Tryd.prog G88 zcs (cdF Tryd.f88 [1,1,1]) (za8 Tryd.prog Tryd.f88 K)))) s→X s)→X (zhp w zbc dt0)):=by kernel_rfl
  refine za9 e ?_
  intro X hX
  refine h X ?_
  intro zbc dt0 hs
  refine hX _ ?_
  have e2:=zov K X w zbc dt0
  rw [e2]
  exact hs
def zm7 (K:List PA→Prop) (X0:St→Prop) (w:web) (za1:Int) (zao:Bool) (dt1:Tab):Prop :=
  (zbA (!zao)
 (K [.one (.bool false)])
 (X0 (zhp w (w64 (za1+(1:Int))) dt1)))
def zm8 (K:List PA→Prop) (X0:St→Prop) (X1:List (List PA)→St→Prop) (y1:step) (rest1:List (List PA)) (w:web) (za1:Int) (zao:Bool) (dt1:Tab):Prop :=
  (((0≤y1.from_∧y1.from_ < (40:Int))) ∧
 (((0≤y1.to∧y1.to < (40:Int))) ∧
 (zbA (decide ((w64 ((tg 40 dt1 (0 + y1.from_.toNat * 1 + 0)) + y1.length)) < (tg 40 dt1 (0 + y1.to.toNat * 1 + 0))))
 (((0≤y1.to∧y1.to < (40:Int))) ∧
 (X1 rest1 (zfv w za1 true (ts 40 dt1 (0+y1.to.toNat * 1+0) [(w64 ((tg 40 dt1 (0+y1.from_.toNat * 1+0))+y1.length))]))))
 (X1 rest1 (zfv w za1 zao dt1)))))
theorem zow (K:List PA→Prop) (X0:St→Prop) (w:web) (za1:Int) (zao:Bool) (dt1:Tab):(zai 2 (sqK Tryd.prog G88 zcs (cdF Tryd.f88 [1,1,0,1,0,0,1,1,0,0,1,1]) (zai 1 (sqK Tryd.prog G88 zcs (cdF Tryd.f88 [1,1,0,1,0,0,1,1,1]) (zba Tryd.prog zcs 3 X0 (zai 0 (sqK Tryd.prog G88 zcs (cdF Tryd.f88 [1,1,1]) (za8 Tryd.prog Tryd.f88 K)))))))) .normal (zfv w za1 zao dt1)=zm7 K X0 w za1 zao dt1:=by kernel_rfl
theorem zox (K : List PA → Prop) (X0 : St → Prop) (X1 : List (List PA) → St → Prop) (y1 : step) (rest1 : List (List PA)) (w : web) (za1 : Int) (zao : Bool) (dt1 : Tab) :
  zsD Tryd.prog G88 zcs 6 [16] (cd (cdF Tryd.f88 [1,1,0,1,0,0,1,1,0,0,1,0,1,0]) [0]) (cd (cdF Tryd.f88 [1,1,0,1,0,0,1,1,0,0,1,0,1,0]) [1]) X1 (zai 2 (sqK Tryd.prog G88 zcs (cdF Tryd.f88 [1,1,0,1,0,0,1,1,0,0,1,1]) (zai 1 (sqK Tryd.prog G88 zcs (cdF Tryd.f88 [1,1,0,1,0,0,1,1,1]) (zba Tryd.prog zcs 3 X0 (zai 0 (sqK Tryd.prog G88 zcs (cdF Tryd.f88 [1,1,1]) (za8 Tryd.prog Tryd.f88 K)))))))) [.agg (zae y1)] rest1 (zfv w za1 zao dt1)=zm8 K X0 X1 y1 rest1 w za1 zao dt1:=by kernel_rfl
theorem zut (K : List PA → Prop) (X0 : St → Prop) (w : web) (za1 : Int) (zao : Bool) (dt1 : Tab)
  (hsafe:IsE enc_40 4 4 (fun i=>enc_40 (w.Net.Ties.get i))∧((false,1,false,[none]):MQ)=(false,1,false,[none])∧(zj1 w=true)) (h:∀ X1:List (List PA)→St→Prop,(∀ (za1:Int) (zao:Bool) (dt1:Tab),zm7 K X0 w za1 zao dt1→X1 [] (zfv w za1 zao dt1))→(∀ (y:step) (rest:List (List PA)) (za1:Int) (zao:Bool) (dt1:Tab),zm8 K X0 X1 y rest w za1 zao dt1→X1 ([.agg (zae y)] :: rest) (zfv w za1 zao dt1))→X1 ((zgP w).map fun y=>[.agg (zae y)]) (zfv w za1 zao dt1)) :
  ziS K X0 w za1 zao dt1:=by
  have e:ziS K X0 w za1 zao dt1=((IsE enc_40 4 4 (fun i=>enc_40 (w.Net.Ties.get i))∧((false,1,false,[none]):MQ)=(false,1,false,[none])∧(zj1 w=true))∧∀ X:List (List PA)→St→Prop,(∀ s,(zai 2 (sqK Tryd.prog G88 zcs (cdF Tryd.f88 [1,1,0,1,0,0,1,1,0,0,1,1]) (zai 1 (sqK Tryd.prog G88 zcs (cdF Tryd.f88 [1,1,0,1,0,0,1,1,1]) (zba Tryd.prog zcs 3 X0 (zai 0 (sqK Tryd.prog G88 zcs (cdF Tryd.f88 [1,1,1]) (za8 Tryd.prog Tryd.f88 K)))))))) .normal s→X [] s)→(∀ y rest s,zsD Tryd.prog G88 zcs 6 [16] (cd (cdF Tryd.f88 [1,1,0,1,0,0,1,1,0,0,1,0,1,0]) [0]) (cd (cdF Tryd.f88 [1,1,0,1,0,0,1,1,0,0,1,0,1,0]) [1]) X (zai 2 (sqK Tryd.prog G88 zcs (cdF Tryd.f88 [1,1,0,1,0,0,1,1,0,0,1,1]) (zai 1 (sqK Tryd.prog G88 zcs (cdF Tryd.f88 [1,1,0,1,0,0,1,1,1]) (zba Tryd.prog zcs 3 X0 (zai 0 (sqK Tryd.prog G88 zcs (cdF Tryd.f88 [1,1,1]) (za8 Tryd.prog Tryd.f88 K)))))))) y rest s→X (y :: rest) s)→X ((zgP w).map fun y=>[.agg (zae y)]) (zfv w za1 zao dt1)):=by kernel_rfl
  refine za9 e ⟨hsafe,?_⟩
  intro X h0 h1
  refine h X (fun za1 zao dt1 hs=>h0 _ ?_) (fun y rest za1 zao dt1 hs=>h1 _ rest _ ?_)
  · rw [zow K X0 w za1 zao dt1];exact hs
  · have e2 := zox K X0 X y rest w za1 zao dt1
    rw [e2];exact hs
abbrev e88 (r:Bool):List PA:=[.one (.bool r)]
attribute [irreducible] ziR ziS
def zoy (S0:Int→Tab→Bool) (w:web) (za1:Int) (zao:Bool) (dt1:Tab):Bool :=
  (cond (!zao)
 false
 (S0 (w64 (za1+(1:Int))) dt1))
def zoz (P0:Int→Tab→Bool) (w:web) (za1:Int) (zao:Bool) (dt1:Tab):Bool :=
  (cond (!zao)
 true
 (P0 (w64 (za1+(1:Int))) dt1))
def zoA (S0:Int→Tab→Bool) (w:web) (y1:step) (S1:Int→Bool→Tab→Bool) (za1:Int) (zao:Bool) (dt1:Tab):Bool :=
  (cond (decide ((w64 ((tg 40 dt1 (0 + y1.from_.toNat * 1 + 0)) + y1.length)) < (tg 40 dt1 (0 + y1.to.toNat * 1 + 0))))
 (S1 za1 true (ts 40 dt1 (0+y1.to.toNat * 1+0) [(w64 ((tg 40 dt1 (0+y1.from_.toNat * 1+0))+y1.length))]))
 (S1 za1 zao dt1))
def zoB (P0:Int→Tab→Bool) (w:web) (y1:step) (P1:Int→Bool→Tab→Bool) (za1:Int) (zao:Bool) (dt1:Tab):Bool :=
  (decide ((0≤y1.from_∧y1.from_ < (40:Int))) &&
 (decide ((0≤y1.to∧y1.to < (40:Int))) &&
 (cond (decide ((w64 ((tg 40 dt1 (0 + y1.from_.toNat * 1 + 0)) + y1.length)) < (tg 40 dt1 (0 + y1.to.toNat * 1 + 0))))
 (decide ((0≤y1.to∧y1.to < (40:Int))) &&
 (P1 za1 true (ts 40 dt1 (0+y1.to.toNat * 1+0) [(w64 ((tg 40 dt1 (0+y1.from_.toNat * 1+0))+y1.length))])))
 (P1 za1 zao dt1))))
def ziT (S0 : Int → Tab → Bool) (w : web) : List step → Int → Bool → Tab → Bool
  | []=>zoy S0 w
  | y :: r=>zoA S0 w y (ziT S0 w r)
def ziU (P0 : Int → Tab → Bool) (w : web) : List step → Int → Bool → Tab → Bool
  | []=>zoz P0 w
  | y :: r=>zoB P0 w y (ziU P0 w r)
def zuu (S0:Int→Tab→Bool) (w:web) (za1:Int) (zao:Bool) (dt1:Tab):Bool:=ziT S0 w (zgP w) za1 zao dt1
def zoC (P0:Int→Tab→Bool) (w:web) (za1:Int) (zao:Bool) (dt1:Tab):Bool:=decide ((zj1 w=true)) && ziU P0 w (zgP w) za1 zao dt1
theorem zA1 (K : List PA → Prop) (w : web)
  (X0:St→Prop) (P0:Int→Tab→Bool) (S0:Int→Tab→Bool)
  (hX0:∀ (zbc:Int) (dt0:Tab),P0 zbc dt0=true→K (e88 (S0 zbc dt0))→X0 (zhp w zbc dt0)) (za1:Int) (zao:Bool) (dt1:Tab) (hs:zoC P0 w za1 zao dt1=true) (hk:K (e88 (zuu S0 w za1 zao dt1))):ziS K X0 w za1 zao dt1:=by
  unfold zoC at hs
  rw [Bool.and_eq_true] at hs
  obtain ⟨hsf,hs⟩:=hs
  have hc:=of_decide_eq_true hsf
  refine zut K X0 w za1 zao dt1 ⟨isE,rfl,hc⟩ ?_
  intro X1 hexit hstep
  have key:∀ (l:List step) (za1:Int) (zao:Bool) (dt1:Tab),ziU P0 w l za1 zao dt1=true→K (e88 (ziT S0 w l za1 zao dt1))→X1 (l.map fun y=>[.agg (zae y)]) (zfv w za1 zao dt1):=by
    intro l
    induction l with
    | nil =>
      intro za1 zao dt1 hs hk
      refine hexit za1 zao dt1 ?_
      have hs:zoz P0 w za1 zao dt1=true:=hs
      have hk:K (e88 (zoy S0 w za1 zao dt1)):=hk
      unfold zoz at hs
      unfold zoy at hk
      exact (zaM (K := fun r => K (e88 r))
 (fun hs hk=>hk)
 (fun hs hk=>(hX0 (w64 (za1+(1:Int))) dt1 hs hk)) hs hk)
    | cons y1 l ih =>
      intro za1 zao dt1 hs hk
      refine hstep y1 _ za1 zao dt1 ?_
      have hs:zoB P0 w y1 (ziU P0 w l) za1 zao dt1=true:=hs
      have hk:K (e88 (zoA S0 w y1 (ziT S0 w l) za1 zao dt1)):=hk
      unfold zoB at hs
      unfold zoA at hk
      generalize ziT S0 w l=S1 at hk ih
      generalize ziU P0 w l=P1 at hs ih
      have hX1:=ih
      exact (zaX hs fun hc hs => ⟨hc, (zaX hs fun hc hs => ⟨hc, (zaM (K := fun r => K (e88 r))
 (fun hs hk=>(zaX hs fun hc hs=>⟨hc,(hX1 za1 true (ts 40 dt1 (0+y1.to.toNat * 1+0) [(w64 ((tg 40 dt1 (0+y1.from_.toNat * 1+0))+y1.length))]) hs hk)⟩))
 (fun hs hk=>(hX1 za1 zao dt1 hs hk)) hs hk)⟩)⟩)
  exact key _ za1 zao dt1 hs hk
def zoD (w:web) (S0:Int→Tab→Bool) (zbc:Int) (dt0:Tab):Bool :=
  (cond (decide (zbc < w.Net.Nodes))
 (zuu S0 w zbc false dt0)
 true)
def zoE (w:web) (P0:Int→Tab→Bool) (zbc:Int) (dt0:Tab):Bool :=
  (cond (decide (zbc < w.Net.Nodes))
 (zoC P0 w zbc false dt0)
 true)
def ziV (w : web) : Nat → Int → Tab → Bool
  | 0=>fun _ _=>default
  | k+1=>zoD w (ziV w k)
def ziW (w : web) : Nat → Int → Tab → Bool
  | 0=>fun _ _=>false
  | k+1=>zoE w (ziW w k)
def zuv (w:web) (zbc:Int) (dt0:Tab):Bool:=ziV w Fuel zbc dt0
def zuw (w:web) (zbc:Int) (dt0:Tab):Bool:=ziW w Fuel zbc dt0
theorem zA2 (K:List PA→Prop) (w:web) (zbc:Int) (dt0:Tab) (hs:zuw w zbc dt0=true) (hk:K (e88 (zuv w zbc dt0))):ziR K w zbc dt0:=by
  refine zus K w zbc dt0 ?_
  intro X0 hstep
  have key:∀ (k:Nat) (zbc:Int) (dt0:Tab),ziW w k zbc dt0=true→K (e88 (ziV w k zbc dt0))→X0 (zhp w zbc dt0):=by
    intro k
    induction k with
    | zero=>intro zbc dt0 hs;exact absurd hs Bool.false_ne_true
    | succ k ih =>
      intro zbc dt0 hs hk
      refine hstep zbc dt0 ?_
      have hs:zoE w (ziW w k) zbc dt0=true:=hs
      have hk:K (e88 (zoD w (ziV w k) zbc dt0)):=hk
      unfold zoE at hs
      unfold zoD at hk
      generalize ziV w k=S0 at hk ih
      generalize ziW w k=P0 at hs ih
      have hX0:=ih
      exact (zaM (K := fun r => K (e88 r))
 (fun hs hk=>⟨⟨isE,rfl⟩,(zA1 K w X0 P0 S0 hX0 zbc false dt0 hs hk)⟩)
 (fun hs hk=>hk) hs hk)
  exact key _ zbc dt0 hs hk
def s88 (w:web):Bool :=
  (zuv w (0:Int) (fun _=>(0:Int)))
def p88 (w:web):Bool :=
  (zuw w (0:Int) (fun _=>(0:Int)))
theorem q88 (w:web) (K:List PA→Prop) (hs:p88 w=true) (hk:K (e88 (s88 w))):vcFun Tryd.prog G88 zcs 88 [.one (.fp (zat w) 0)] K:=by
  refine za9 (zA0 w K) ?_
  unfold p88 at hs
  unfold s88 at hk
  exact (zA2 K w (0:Int) (fun _=>(0:Int)) hs hk)
def zux : List PA → COut
  | [.one (.fp [.int .i64 a0_Net_Nodes,.sl a0_Net_Ties_n a0_Net_Ties_s a0_Net_Ties_g,.fm a0_out_q a0_out_n a0_out_F] 0)]=>.det (IsE enc_40 4 a0_Net_Ties_s a0_Net_Ties_g∧a0_out_q=(false,1,false,[none])∧p88 (⟨(⟨a0_Net_Nodes,(⟨a0_Net_Ties_n,zaa a0_Net_Ties_g⟩:(Sl Tie))⟩:Net),(⟨a0_out_n,a0_out_F⟩:Mp)⟩:web)=true) [.one (.bool (s88 (⟨(⟨a0_Net_Nodes,(⟨a0_Net_Ties_n,zaa a0_Net_Ties_g⟩:(Sl Tie))⟩:Net),(⟨a0_out_n,a0_out_F⟩:Mp)⟩:web)))]
  | _=>.no
theorem zEG:zan Tryd.prog 88:=⟨_,rfl,rfl,by kernel_rfl⟩
theorem zGC:Ok Tryd.prog 88 zux:=zbr zGB zEG fun args K h=>by
  unfold zux at h
  split at h
  · rename_i a0_Net_Nodes a0_Net_Ties_n a0_Net_Ties_s a0_Net_Ties_g a0_out_q a0_out_n a0_out_F
    obtain ⟨⟨⟨rfl,a0_Net_Ties_f,rfl⟩,rfl,hs⟩,hk⟩:=h
    try rw [zaj a0_Net_Ties_f] at hs
    try rw [zaj a0_Net_Ties_f] at hk
    exact ⟨(fun _ _=>[]),(fun _=>false),zcs,q88 (⟨(⟨a0_Net_Nodes,(⟨a0_Net_Ties_n,a0_Net_Ties_f⟩:(Sl Tie))⟩:Net),(⟨a0_out_n,a0_out_F⟩:Mp)⟩:web) K hs hk⟩
  · exact h.elim
abbrev zHH:Tabs:=Tabs.nil
theorem zEH:TabsOk Tryd.prog zHH:=TabsOk.nil
abbrev zH3:Ctrs:=csm zHH (fun _ _=>[]) (fun _=>false)
def zzD:Ann:=⟨24,[(0,zK [2,3] [2,3]),(1,zK [4] [])],
 [],
 [],
 [],[]⟩
abbrev zH4:=Bool
abbrev zH5 (r:zH4):List PA:=[.one (.bool r)]
section
variable {K:List PA→Prop} {a:far} {b:far}
def zGc (a:far) (b:far):Bool :=
  (cond (decide (a.length < b.length))
 true
 (cond (a.length == b.length)
 (decide (a.uses < b.uses))
 false))
end
theorem zH6 (a:far) (b:far) (K:List PA→Prop) (hk:K (zH5 (zGc a b))):vcFun Tryd.prog zH3 zzD 105 [.agg (zb8 a),.agg (zb8 b)] K :=
  za9 (by kernel_rfl) (zt hk (fun hk=>hk) (fun hk=>(zt hk (fun hk=>hk) (fun hk=>hk))))
def zuy : List PA → COut
  | [.agg [.int .i64 a0_length,.int .i64 a0_uses],.agg [.int .i64 a1_length,.int .i64 a1_uses]]=>.tot [.one (.bool (zGc (⟨a0_length,a0_uses⟩:far) (⟨a1_length,a1_uses⟩:far)))]
  | _=>.no
theorem zA3:zan Tryd.prog 105:=⟨_,rfl,rfl,by kernel_rfl⟩
theorem zGD:Ok Tryd.prog 105 zuy:=zbr zEH zA3 fun args K h=>by
  unfold zuy at h
  split at h
  · rename_i a0_length a0_uses a1_length a1_uses
    have hk:=h
    exact ⟨(fun _ _=>[]),(fun _=>false),zzD,zH6 (⟨a0_length,a0_uses⟩:far) (⟨a1_length,a1_uses⟩:far) K hk⟩
  · exact h.elim
abbrev zHI:Tabs:=(Tabs.nil.addF 105 zuy)
theorem zEI:TabsOk Tryd.prog zHI:=(TabsOk.nil.addF zGD)
abbrev zHJ:Ctrs:=csm zHI (fun _ _=>[]) (fun _=>false)
def zuz:Ann:=⟨22,[(0,zK [0,2,4,6] [4,6]),(1,zK [0,4,6,9,10,11] [4,6]),(2,zK [0,4,6,9,10,11,12] [4,6]),(3,zK [0,4,6,8,9,10,11] [4,6,8]),(4,zK [0,4,6,8,9,10,11,18] [4,6,8]),(5,zK [0,4,6,9,10,11] [4,6]),(6,zK [0,4,6,9,10,11] [4,6]),(7,zK [6] [6])],
 [(2,zK [0,4,6,9,10,11] [4,6])],
 [(5,zK [0,4,6,8,9,10,11,18] [4,6,8])],
 [],[]⟩
abbrev zH7:=far
abbrev zGd (r:zH7):List PA:=[.agg [.int .i64 r.length,.int .i64 r.uses]]
@[irreducible] def z104:=ptF Tryd.prog zHJ zuz Tryd.f104
def zuA (others:(Sl far)) (zaP:Int) (zbh:Int) (zbi:Int):St:=⟨[(0,zP (.fn 105 [] [])),(4,zp 4 0),(6,zp 6 0),(9,zS zb8 2 others),(10,zI (others.len:Int)),(11,zI zaP)],[(4,.box 114 (zm (zb8 (⟨zbh,zbi⟩:far)))),(6,.box 114 (zm (zb8 (⟨(0:Int),(0:Int)⟩:far))))],[]⟩
abbrev zuB (K:List PA→Prop) (others:(Sl far)) (X:St→Prop) (P:Int→Int→Int→Bool) (S:Int→Int→Int→far):Prop:=∀ ⦃zaP:Int⦄ ⦃zbh:Int⦄ ⦃zbi:Int⦄,P zaP zbh zbi=true→K (zGd (S zaP zbh zbi))→X (zuA others zaP zbh zbi)
section
variable {K:List PA→Prop} {first:far} {others:(Sl far)} {zaP:Int} {zbh:Int} {zbi:Int} {X0:St→Prop} {P0:Int→Int→Int→Bool} {S0:Int→Int→Int→far} {zcv:Int} {zbD:Bool} {zdu:Int} {zdv:Int} {zoF:Int} {zoG:Int}
def zra (S0:Int→Int→Int→far) (others:(Sl far)) (zcv:Int) (zbD:Bool) (zdu:Int) (zdv:Int) (zoF:Int) (zoG:Int):far :=
  (cond zbD
 (S0 (w64 (zcv+(1:Int))) zoF zoG)
 (S0 (w64 (zcv+(1:Int))) zdu zdv))
def zrb (P0:Int→Int→Int→Bool) (others:(Sl far)) (zcv:Int) (zbD:Bool) (zdu:Int) (zdv:Int) (zoF:Int) (zoG:Int):Bool :=
  (cond zbD
 (P0 (w64 (zcv+(1:Int))) zoF zoG)
 (P0 (w64 (zcv+(1:Int))) zdu zdv))
theorem zyL (hX0:zuB K others X0 P0 S0) (hs:zrb P0 others zcv zbD zdu zdv zoF zoG=true) (hk:K (zGd (zra S0 others zcv zbD zdu zdv zoF zoG))):z104 K [1,0,1,0,0,1,1,0,0,1,1] [X0] ⟨[(0,zP (.fn 105 [] [])),(4,zp 4 0),(6,zp 6 0),(8,zp 8 0),(9,zS zb8 2 others),(10,zI (others.len:Int)),(11,zI zcv),(18,zB zbD)],[(4,.box 114 (zm (zb8 (⟨zdu,zdv⟩:far)))),(6,.box 114 (zm (zb8 (⟨(0:Int),(0:Int)⟩:far)))),(8,.box 114 (zm (zb8 (⟨zoF,zoG⟩:far))))],[]⟩:=za9 (by kernel_rfl) (zc hs hk (fun hs hk=>(hX0 hs hk)) (fun hs hk=>(hX0 hs hk)))
def zrd (others:(Sl far)) (S0:Int→Int→Int→far) (zaP:Int) (zbh:Int) (zbi:Int):far :=
  (cond (decide (zaP < (others.len : Int)))
 (zra S0 others zaP (zGc (others.get zaP.toNat) (⟨zbh,zbi⟩:far)) zbh zbi ((others.get zaP.toNat).length) ((others.get zaP.toNat).uses))
 (⟨zbh,zbi⟩:far))
def zre (others:(Sl far)) (P0:Int→Int→Int→Bool) (zaP:Int) (zbh:Int) (zbi:Int):Bool :=
  (cond (decide (zaP < (others.len : Int)))
 (decide ((0≤zaP∧zaP < (others.len:Int))) &&
 (zrb P0 others zaP (zGc (others.get zaP.toNat) (⟨zbh,zbi⟩:far)) zbh zbi ((others.get zaP.toNat).length) ((others.get zaP.toNat).uses)))
 true)
def zrf (others:(Sl far)):Nat→Int→Int→Int→far:=lpO (fun _ _ _=>default) (zrd others)
def zrg (others:(Sl far)):Nat→Int→Int→Int→Bool:=lpO (fun _ _ _=>false) (zre others)
def zrh (others:(Sl far)) (zaP:Int) (zbh:Int) (zbi:Int):far:=zrf others Fuel zaP zbh zbi
def zri (others:(Sl far)) (zaP:Int) (zbh:Int) (zbi:Int):Bool:=zrg others Fuel zaP zbh zbi
theorem zyM (hs:zri others zaP zbh zbi=true) (hk:K (zGd (zrh others zaP zbh zbi))):z104 K [1,0,1,0] [] (zuA others zaP zbh zbi) :=
  zl (fun X=>z104 K [1,0,1,0,0] [X]) (by kernel_rfl) fun X0 hX =>
  (show ∀ k, zuB K others X0 (zrg others k) (zrf others k) from zjV _ _ (zre others) (zrd others) (zuB K others X0)
 (by intro _ _ _ hs;exact absurd hs Bool.false_ne_true)
 (by intro P0 S0 hX0 zaP zbh zbi hs hk;exact hX _ (za9 (by kernel_rfl) (zc hs hk (fun hs hk=>(zaX hs fun hc hs=>And.intro hc (zyL hX0 hs hk))) (fun hs hk=>hk))))) _ hs hk
def zcw (first:far) (others:(Sl far)):far :=
  (zrh others (0:Int) first.length first.uses)
def zzE (first:far) (others:(Sl far)):Bool :=
  (zri others (0:Int) first.length first.uses)
end
theorem zH8 (first:far) (others:(Sl far)) (K:List PA→Prop) (hs:zzE first others=true) (hk:K (zGd (zcw first others))):vcFun Tryd.prog zHJ zuz 104 [.one (.fn 105 [] []),.agg (zb8 first),.one (.sl others.len 2 (fun i=>zb8 (others.get i)))] K :=
  za9 (by kernel_rfl) (zyM hs hk)
def zm9 : List PA → COut
  | [.one (.fn 105 [] []),.agg [.int .i64 a1_length,.int .i64 a1_uses],.one (.sl a2_n a2_s a2_g)]=>.det (IsE zb8 2 a2_s a2_g∧zzE (⟨a1_length,a1_uses⟩:far) (⟨a2_n,zhO a2_g⟩:(Sl far))=true) [.agg [.int .i64 ((zcw (⟨a1_length,a1_uses⟩:far) (⟨a2_n,zhO a2_g⟩:(Sl far))).length),.int .i64 ((zcw (⟨a1_length,a1_uses⟩:far) (⟨a2_n,zhO a2_g⟩:(Sl far))).uses)]]
  | _=>.no
theorem zA4:zan Tryd.prog 104:=⟨_,rfl,rfl,by kernel_rfl⟩
theorem zA5:Ok Tryd.prog 104 zm9:=zbr zEI zA4 fun args K h=>by
  unfold zm9 at h
  split at h
  · rename_i a1_length a1_uses a2_n a2_s a2_g
    obtain ⟨⟨⟨rfl,a2_f,rfl⟩,hs⟩,hk⟩:=h
    try rw [zhn a2_f] at hs
    try rw [zhn a2_f] at hk
    exact ⟨(fun _ _=>[]),(fun _=>false),zuz,zH8 (⟨a1_length,a1_uses⟩:far) (⟨a2_n,a2_f⟩:(Sl far)) K hs hk⟩
  · exact h.elim
abbrev zHK:Tabs:=(((Tabs.nil.addF 93 zm3).addF 104 zm9).addI 110 zm5)
theorem zEJ:TabsOk Tryd.prog zHK:=(((TabsOk.nil.addF zDF).addF zA5).addI zsq)
abbrev zeA:Ctrs:=csm zHK (fun _ _=>[]) (fun _=>false)
def za2:Ann:=⟨91,[(0,⟨[0,2,4],[4],[],[],[],[],[]⟩),(1,⟨[0,2,4,7],[4,7,15],[],[],[],[],[]⟩),(2,⟨[0,2,4,7,17,18],[4,7,15],[],[],[],[],[]⟩),(3,⟨[0,2,4,7,17,18,19],[4,7,15],[],[],[],[],[]⟩),(4,⟨[0,2,4,7,8,17,18],[4,7,15],[],[],[],[],[]⟩),(5,⟨[0,2,4,7,8,17,18,21],[4,7,15],[],[],[],[],[]⟩),(6,⟨[0,2,4,7,8,17,18,21,22],[4,7,15],[],[],[],[],[]⟩),(7,⟨[0,2,4,7,8,9,17,18,21],[4,7,15],[],[],[],[],[]⟩),(8,⟨[0,2,4,7,8,17,18,21],[4,7,15],[],[],[],[],[]⟩),(9,⟨[0,2,4,7,8,17,18,21],[4,7,15],[],[],[],[],[]⟩),(10,⟨[0,2,4,7,17,18],[4,7,15],[],[],[],[],[]⟩),(11,⟨[0,2,4,7],[4,7,15],[],[],[],[],[]⟩),(12,⟨[0,2,4,7,10],[4,7,10,15],[],[],[],[],[]⟩),(13,⟨[0,2,4,7,10,39],[4,7,10,15],[],[],[],[],[]⟩),(14,⟨[0,2,4,7,10],[4,7,10,15],[],[],[],[],[]⟩),(15,⟨[0,2,4,7,10,43],[4,7,10,15],[],[],[],[],[]⟩),(16,⟨[0,2,4,7,10,11,43],[4,7,10,11,15],[],[],[],[],[]⟩),(17,⟨[0,2,4,7,10,11,12,43],[4,7,10,11,12,15],[],[],[],[],[]⟩),(18,⟨[0,2,4,7,10,11,12,43,67],[4,7,10,11,12,15],[],[],[],[],[]⟩),(19,⟨[0,2,4,7,10,43],[4,7,10,15],[],[],[],[],[]⟩),(20,⟨[0,2,4,7,89],[4,7,15],[],[],[],[],[]⟩),(21,⟨[0,2,4,7,10],[4,7,10,15],[],[],[],[],[]⟩),(22,⟨[6],[15],[],[],[],[],[]⟩)],
 [(3,⟨[0,2,4,7,17,18],[4,7,15],[],[],[],[],[]⟩),(6,⟨[0,2,4,7,8,17,18,21],[4,7,15],[],[],[],[],[]⟩),(13,⟨[0,2,4,7,10],[4,7,10,15],[],[],[],[],[]⟩),(16,⟨[0,2,4,7,10,43],[4,7,10,15],[],[],[],[],[]⟩)],
 [(11,⟨[0,2,4,7],[4,7,15],[],[],[],[],[]⟩)],
 [],[]⟩
def zeO (w:web) (node:Int) (uses:Int) (zbI:Int) (zeP:Nat) (zbT:Nat→List PV):St:=⟨[(0,.one (.c (.p (.fp (zat w) 0)))),(2,.one (.c (.p (.int .i64 uses)))),(4,.one (.c (.ptr 4 0))),(7,.one (.c (.ptr 7 0))),(17,.one (.c (.p (.int .i64 ((w64 (uses+(1:Int))).toNat:Int))))),(18,.one (.c (.p (.int .i64 zbI))))],[(4,.box 3 [.p (.int .i64 node)]),(7,.box 159 [.vec 15]),(15,.vec 116 80 640 zeP zbT)],[]⟩
def zgf (K:List PA→Prop) (w:web) (node:Int) (uses:Int) (zbI:Int) (zeP:Nat) (zbT:Nat→List PV):Prop:=vc Tryd.prog zeA za2 (cdF Tryd.f106 [1,1,0,1,0]) (zai 0 (sqK Tryd.prog zeA za2 (cdF Tryd.f106 [1,1,1]) (za8 Tryd.prog Tryd.f106 K))) (zeO w node uses zbI zeP zbT)
def zfI (w:web) (node:Int) (uses:Int) (iv1:Int) (zbD:Int) (zbv:Int) (zeQ:Nat) (zcf:Nat→List PV):St:=⟨[(0,.one (.c (.p (.fp (zat w) 0)))),(2,.one (.c (.p (.int .i64 uses)))),(4,.one (.c (.ptr 4 0))),(7,.one (.c (.ptr 7 0))),(8,.one (.c (.p (.int .i64 iv1)))),(17,.one (.c (.p (.int .i64 ((w64 (uses+(1:Int))).toNat:Int))))),(18,.one (.c (.p (.int .i64 zbD)))),(21,.one (.c (.p (.int .i64 zbv))))],[(4,.box 3 [.p (.int .i64 node)]),(7,.box 159 [.vec 15]),(15,.vec 116 80 640 zeQ zcf)],[]⟩
def zgg (K:List PA→Prop) (X0:St→Prop) (w:web) (node:Int) (uses:Int) (iv1:Int) (zbD:Int) (zbv:Int) (zeQ:Nat) (zcf:Nat→List PV):Prop:=vc Tryd.prog zeA za2 (cdF Tryd.f106 [1,1,0,1,0,0,1,1,0,0,1,1,0]) (zai 2 (zai 1 (sqK Tryd.prog zeA za2 (cdF Tryd.f106 [1,1,0,1,0,0,1,1,1]) (zba Tryd.prog za2 3 X0 (zai 0 (sqK Tryd.prog zeA za2 (cdF Tryd.f106 [1,1,1]) (za8 Tryd.prog Tryd.f106 K))))))) (zfI w node uses iv1 zbD zbv zeQ zcf)
def zA6 (w:web) (node:Int) (uses:Int) (zoH:Nat) (zgQ:Nat→List PV):St:=⟨[(0,.one (.c (.p (.fp (zat w) 0)))),(2,.one (.c (.p (.int .i64 uses)))),(4,.one (.c (.ptr 4 0))),(7,.one (.c (.ptr 7 0)))],[(4,.box 3 [.p (.int .i64 node)]),(7,.box 159 [.vec 15]),(15,.vec 116 80 640 zoH zgQ)],[]⟩
def zhP (K:List PA→Prop) (w:web) (node:Int) (uses:Int) (zoH:Nat) (zgQ:Nat→List PV):Prop:=vc Tryd.prog zeA za2 (cdF Tryd.f106 [1,1,1]) (za8 Tryd.prog Tryd.f106 K) (zA6 w node uses zoH zgQ)
def zeR (w:web) (node:Int) (uses:Int) (kv3:Int) (zeS:Nat) (zbU:Nat→List PV):St:=⟨[(0,.one (.c (.p (.fp (zat w) 0)))),(2,.one (.c (.p (.int .i64 uses)))),(4,.one (.c (.ptr 4 0))),(7,.one (.c (.ptr 7 0))),(10,.one (.c (.ptr 10 0)))],[(4,.box 3 [.p (.int .i64 node)]),(7,.box 159 [.vec 15]),(10,.box 3 [.p (.int .i64 kv3)]),(15,.vec 116 80 640 zeS zbU)],[]⟩
def zgh (K:List PA→Prop) (w:web) (node:Int) (uses:Int) (kv3:Int) (zeS:Nat) (zbU:Nat→List PV):Prop:=vc Tryd.prog zeA za2 (cdF Tryd.f106 [1,1,1,1,0,1,0]) (zai 4 (sqK Tryd.prog zeA za2 (cdF Tryd.f106 [1,1,1,1,1]) (za8 Tryd.prog Tryd.f106 K))) (zeR w node uses kv3 zeS zbU)
def zc2 (w:web) (node:Int) (uses:Int) (kv4:Int) (zeT:Nat) (zcg:Nat→List PV):St:=⟨[(0,.one (.c (.p (.fp (zat w) 0)))),(2,.one (.c (.p (.int .i64 uses)))),(4,.one (.c (.ptr 4 0))),(7,.one (.c (.ptr 7 0))),(10,.one (.c (.ptr 10 0))),(43,.one (.c (.p (.fn 110 [] [.fp [.fp (zat w) 0] 0]))))],[(4,.box 3 [.p (.int .i64 node)]),(7,.box 159 [.vec 15]),(10,.box 3 [.p (.int .i64 kv4)]),(15,.vec 116 80 640 zeT zcg)],[]⟩
def zgi (K:List PA→Prop) (X3:St→Prop) (w:web) (node:Int) (uses:Int) (kv4:Int) (zeT:Nat) (zcg:Nat→List PV):Prop:=vc Tryd.prog zeA za2 (cdF Tryd.f106 [1,1,1,1,0,1,0,0,1,0,0,1,0]) (zai 6 (zai 5 (sqK Tryd.prog zeA za2 (cdF Tryd.f106 [1,1,1,1,0,1,0,0,1,1]) (zba Tryd.prog za2 13 X3 (zai 4 (sqK Tryd.prog zeA za2 (cdF Tryd.f106 [1,1,1,1,1]) (za8 Tryd.prog Tryd.f106 K))))))) (zc2 w node uses kv4 zeT zcg)
theorem zyN (w : web) (node : Int) (uses : Int) (K : List PA → Prop) :
  vcFun Tryd.prog zeA za2 106 [.one (.fp (zat w) 0),.one (.int .i64 node),.one (.int .i64 uses)] K =
  (((0≤(w64 (uses+(1:Int)))∧(w64 (uses+(1:Int)))=(w64 (uses+(1:Int)))∧(w64 (uses+(1:Int)))≤1000000)) ∧
 (zgf K w node uses (0:Int) ((w64 (uses+(1:Int))).toNat) (fun _=>(zad (fun _=>(0:Int)))))):=by kernel_rfl
def zkA (K:List PA→Prop) (X0:St→Prop) (w:web) (node:Int) (uses:Int) (zbI:Int) (zbK:(Sl Tab)):Prop :=
  (zbA (decide (zbI < ((w64 (uses + (1:Int))).toNat : Int)))
 (zgg K X0 w node uses zbI zbI (0:Int) zbK.len (fun i=>zad (zbK.get i)))
 (zhP K w node uses zbK.len (fun i=>zad (zbK.get i))))
theorem zna (K : List PA → Prop) (X0 : St → Prop) (w : web) (node : Int) (uses : Int) (zbI : Int) (zbK : (Sl Tab)) :
  vc Tryd.prog zeA za2 (cd (cdF Tryd.f106 [1,1,0,1,0]) [0]) (zba Tryd.prog za2 3 X0 (zai 0 (sqK Tryd.prog zeA za2 (cdF Tryd.f106 [1,1,1]) (za8 Tryd.prog Tryd.f106 K)))) (zeO w node uses zbI zbK.len (fun i=>zad (zbK.get i))) =
  zkA K X0 w node uses zbI zbK:=by kernel_rfl
theorem zsr (K : List PA → Prop) (w : web) (node : Int) (uses : Int) (zbI : Int) (zeP : Nat) (zbT : Nat → List PV)
  (h:∀ X0:St→Prop,(∀ (zbI:Int) (zbK:(Sl Tab)),zkA K X0 w node uses zbI zbK→X0 (zeO w node uses zbI zbK.len (fun i=>zad (zbK.get i))))→X0 (zeO w node uses zbI zeP zbT)) :
  zgf K w node uses zbI zeP zbT:=by
  have e:zgf K w node uses zbI zeP zbT=(∀ X:St→Prop,(∀ s,vc Tryd.prog zeA za2 (cd (cdF Tryd.f106 [1,1,0,1,0]) [0]) (zba Tryd.prog za2 3 X (zai 0 (sqK Tryd.prog zeA za2 (cdF Tryd.f106 [1,1,1]) (za8 Tryd.prog Tryd.f106 K)))) s→X s)→X (zeO w node uses zbI zeP zbT)):=by kernel_rfl
  refine za9 e ?_
  intro X hX
  refine h X ?_
  intro zbI zbK hs
  refine hX _ ?_
  have e2:=zna K X w node uses zbI zbK
  rw [e2]
  exact hs
def zkB (K:List PA→Prop) (X0:St→Prop) (X1:St→Prop) (w:web) (node:Int) (uses:Int) (iv1:Int) (zbD:Int) (zbv:Int) (zbp:(Sl Tab)):Prop :=
  (zbA (decide (zbv < (40:Int)))
 (((0≤iv1∧iv1 < (zbp.len:Int))) ∧
 (((0≤zbv∧zbv < (40:Int))) ∧
 (((iv1.toNat < zbp.len)) ∧
 (X1 (zfI w node uses iv1 zbD (w64 (zbv+(1:Int))) zbp.len (zhE iv1.toNat 0 (fun i=>zad (zbp.get i)) (zad (ts 80 (zbp.get iv1.toNat) (0+zbv.toNat * 2+0) [(1000000000000:Int),(0:Int)]))))))))
 (X0 (zeO w node uses (w64 (zbD+(1:Int))) zbp.len (fun i=>zad (zbp.get i)))))
theorem znb (K : List PA → Prop) (X0 : St → Prop) (X1 : St → Prop) (w : web) (node : Int) (uses : Int) (iv1 : Int) (zbD : Int) (zbv : Int) (zbp : (Sl Tab)) :
  vc Tryd.prog zeA za2 (cd (cdF Tryd.f106 [1,1,0,1,0,0,1,1,0,0,1,1,0]) [0]) (zba Tryd.prog za2 6 X1 (zai 2 (zai 1 (sqK Tryd.prog zeA za2 (cdF Tryd.f106 [1,1,0,1,0,0,1,1,1]) (zba Tryd.prog za2 3 X0 (zai 0 (sqK Tryd.prog zeA za2 (cdF Tryd.f106 [1,1,1]) (za8 Tryd.prog Tryd.f106 K)))))))) (zfI w node uses iv1 zbD zbv zbp.len (fun i=>zad (zbp.get i))) =
  zkB K X0 X1 w node uses iv1 zbD zbv zbp:=by kernel_rfl
theorem zss (K : List PA → Prop) (X0 : St → Prop) (w : web) (node : Int) (uses : Int) (iv1 : Int) (zbD : Int) (zbv : Int) (zeQ : Nat) (zcf : Nat → List PV)
  (h:∀ X1:St→Prop,(∀ (iv1:Int) (zbD:Int) (zbv:Int) (zbp:(Sl Tab)),zkB K X0 X1 w node uses iv1 zbD zbv zbp→X1 (zfI w node uses iv1 zbD zbv zbp.len (fun i=>zad (zbp.get i))))→X1 (zfI w node uses iv1 zbD zbv zeQ zcf)) :
  zgg K X0 w node uses iv1 zbD zbv zeQ zcf:=by
  have e:zgg K X0 w node uses iv1 zbD zbv zeQ zcf=(∀ X:St→Prop,(∀ s,vc Tryd.prog zeA za2 (cd (cdF Tryd.f106 [1,1,0,1,0,0,1,1,0,0,1,1,0]) [0]) (zba Tryd.prog za2 6 X (zai 2 (zai 1 (sqK Tryd.prog zeA za2 (cdF Tryd.f106 [1,1,0,1,0,0,1,1,1]) (zba Tryd.prog za2 3 X0 (zai 0 (sqK Tryd.prog zeA za2 (cdF Tryd.f106 [1,1,1]) (za8 Tryd.prog Tryd.f106 K)))))))) s→X s)→X (zfI w node uses iv1 zbD zbv zeQ zcf)):=by kernel_rfl
  refine za9 e ?_
  intro X hX
  refine h X ?_
  intro iv1 zbD zbv zbp hs
  refine hX _ ?_
  have e2:=znb K X0 X w node uses iv1 zbD zbv zbp
  rw [e2]
  exact hs
theorem zyO (K : List PA → Prop) (w : web) (node : Int) (uses : Int) (zcB : (Sl Tab)) :
  zhP K w node uses zcB.len (fun i=>zad (zcB.get i)) =
  (((0≤(0:Int)∧(0:Int) < (zcB.len:Int))) ∧
 (((0≤node∧node < (40:Int))) ∧
 (((0 < zcB.len)) ∧
 (zgh K w node uses (1:Int) zcB.len (zhE 0 0 (fun i=>zad (zcB.get i)) (zad (ts 80 (zcB.get 0) (0+node.toNat * 2+0) [(0:Int),(0:Int)]))))))):=by kernel_rfl
def zkC (K:List PA→Prop) (X3:St→Prop) (w:web) (node:Int) (uses:Int) (kv3:Int) (zbN:(Sl Tab)):Prop :=
  (zbA (decide (kv3 ≤ uses))
 ((IsE enc_40 4 4 (fun i=>enc_40 (w.Net.Ties.get i))∧((false,1,false,[none]):MQ)=(false,1,false,[none])) ∧
 (zgi K X3 w node uses kv3 zbN.len (fun i=>zad (zbN.get i))))
 (K [.one (.sl zbN.len 80 (fun i=>zad (zbN.get i)))]))
theorem znc (K : List PA → Prop) (X3 : St → Prop) (w : web) (node : Int) (uses : Int) (kv3 : Int) (zbN : (Sl Tab)) :
  vc Tryd.prog zeA za2 (cd (cdF Tryd.f106 [1,1,1,1,0,1,0]) [0]) (zba Tryd.prog za2 13 X3 (zai 4 (sqK Tryd.prog zeA za2 (cdF Tryd.f106 [1,1,1,1,1]) (za8 Tryd.prog Tryd.f106 K)))) (zeR w node uses kv3 zbN.len (fun i=>zad (zbN.get i))) =
  zkC K X3 w node uses kv3 zbN:=by kernel_rfl
theorem zst (K : List PA → Prop) (w : web) (node : Int) (uses : Int) (kv3 : Int) (zeS : Nat) (zbU : Nat → List PV)
  (h:∀ X3:St→Prop,(∀ (kv3:Int) (zbN:(Sl Tab)),zkC K X3 w node uses kv3 zbN→X3 (zeR w node uses kv3 zbN.len (fun i=>zad (zbN.get i))))→X3 (zeR w node uses kv3 zeS zbU)) :
  zgh K w node uses kv3 zeS zbU:=by
  have e:zgh K w node uses kv3 zeS zbU=(∀ X:St→Prop,(∀ s,vc Tryd.prog zeA za2 (cd (cdF Tryd.f106 [1,1,1,1,0,1,0]) [0]) (zba Tryd.prog za2 13 X (zai 4 (sqK Tryd.prog zeA za2 (cdF Tryd.f106 [1,1,1,1,1]) (za8 Tryd.prog Tryd.f106 K)))) s→X s)→X (zeR w node uses kv3 zeS zbU)):=by kernel_rfl
  refine za9 e ?_
  intro X hX
  refine h X ?_
  intro kv3 zbN hs
  refine hX _ ?_
  have e2:=znc K X w node uses kv3 zbN
  rw [e2]
  exact hs
def zkD (K:List PA→Prop) (X3:St→Prop) (w:web) (node:Int) (uses:Int) (kv4:Int) (zas:(Sl Tab)):Prop :=
  (X3 (zeR w node uses (w64 (kv4+(1:Int))) zas.len (fun i=>zad (zas.get i))))
def zkE (K:List PA→Prop) (X3:St→Prop) (X4:List (List PA)→St→Prop) (y4:step) (rest4:List (List PA)) (w:web) (node:Int) (uses:Int) (kv4:Int) (zas:(Sl Tab)):Prop :=
  (((0≤(w64 (kv4 - (1:Int)))∧(w64 (kv4 - (1:Int))) < (zas.len:Int))) ∧
 (((0≤y4.to∧y4.to < (40:Int))) ∧
 ((((w64 (kv4 - (1:Int))).toNat < zas.len)) ∧
 (zbA (decide (y4.from_ ≥ node))
 (zbA (decide (y4.to ≥ node))
 (zbA (!(match ((tg 80 (zas.get ((w64 (kv4 - (1:Int))).toNat)) (0 + y4.to.toNat * 2 + 0)) == (1000000000000:Int)) with | true => (match ((tg 80 (zas.get ((w64 (kv4 - (1:Int))).toNat)) (0 + y4.to.toNat * 2 + 0 + 1)) == (0:Int)) with | true => true | false => false) | false => false))
 (((0≤kv4∧kv4 < (zas.len:Int))) ∧
 (((0≤y4.from_∧y4.from_ < (40:Int))) ∧
 (((kv4.toNat < zas.len)) ∧
 ((IsE zb8 2 2 (fun _=>(zb8 (⟨(w64 ((tg 80 (zas.get ((w64 (kv4 - (1:Int))).toNat)) (0+y4.to.toNat * 2+0))+y4.length)),(0:Int)⟩:far)))∧(zzE (⟨(tg 80 (zas.get kv4.toNat) (0+y4.from_.toNat * 2+0)),(tg 80 (zas.get kv4.toNat) (0+y4.from_.toNat * 2+0+1))⟩:far) (⟨1,fun _=>(⟨(w64 ((tg 80 (zas.get ((w64 (kv4 - (1:Int))).toNat)) (0+y4.to.toNat * 2+0))+y4.length)),(0:Int)⟩:far)⟩:(Sl far))=true)) ∧
 (((0≤kv4∧kv4 < (zas.len:Int))) ∧
 (((0≤y4.from_∧y4.from_ < (40:Int))) ∧
 (((kv4.toNat < zas.len)) ∧
 (X4 rest4 (zc2 w node uses kv4 zas.len (zhE kv4.toNat 0 (fun i=>zad (zas.get i)) (zad (ts 80 (zas.get kv4.toNat) (0+y4.from_.toNat * 2+0) [(zcw (⟨(tg 80 (zas.get kv4.toNat) (0+y4.from_.toNat * 2+0)),(tg 80 (zas.get kv4.toNat) (0+y4.from_.toNat * 2+0+1))⟩:far) (⟨1,fun _=>(⟨(w64 ((tg 80 (zas.get ((w64 (kv4 - (1:Int))).toNat)) (0+y4.to.toNat * 2+0))+y4.length)),(0:Int)⟩:far)⟩:(Sl far))).length,(zcw (⟨(tg 80 (zas.get kv4.toNat) (0+y4.from_.toNat * 2+0)),(tg 80 (zas.get kv4.toNat) (0+y4.from_.toNat * 2+0+1))⟩:far) (⟨1,fun _=>(⟨(w64 ((tg 80 (zas.get ((w64 (kv4 - (1:Int))).toNat)) (0+y4.to.toNat * 2+0))+y4.length)),(0:Int)⟩:far)⟩:(Sl far))).uses]))))))))))))
 (X4 rest4 (zc2 w node uses kv4 zas.len (fun i=>zad (zas.get i)))))
 (X4 rest4 (zc2 w node uses kv4 zas.len (fun i=>zad (zas.get i)))))
 (X4 rest4 (zc2 w node uses kv4 zas.len (fun i=>zad (zas.get i))))))))
theorem znd (K:List PA→Prop) (X3:St→Prop) (w:web) (node:Int) (uses:Int) (kv4:Int) (zas:(Sl Tab)):(zai 6 (zai 5 (sqK Tryd.prog zeA za2 (cdF Tryd.f106 [1,1,1,1,0,1,0,0,1,1]) (zba Tryd.prog za2 13 X3 (zai 4 (sqK Tryd.prog zeA za2 (cdF Tryd.f106 [1,1,1,1,1]) (za8 Tryd.prog Tryd.f106 K))))))) .normal (zc2 w node uses kv4 zas.len (fun i=>zad (zas.get i)))=zkD K X3 w node uses kv4 zas:=by kernel_rfl
theorem zne (K : List PA → Prop) (X3 : St → Prop) (X4 : List (List PA) → St → Prop) (y4 : step) (rest4 : List (List PA)) (w : web) (node : Int) (uses : Int) (kv4 : Int) (zas : (Sl Tab)) :
  zsD Tryd.prog zeA za2 16 [44] (cd (cdF Tryd.f106 [1,1,1,1,0,1,0,0,1,0,0,1,0]) [0]) (cd (cdF Tryd.f106 [1,1,1,1,0,1,0,0,1,0,0,1,0]) [1]) X4 (zai 6 (zai 5 (sqK Tryd.prog zeA za2 (cdF Tryd.f106 [1,1,1,1,0,1,0,0,1,1]) (zba Tryd.prog za2 13 X3 (zai 4 (sqK Tryd.prog zeA za2 (cdF Tryd.f106 [1,1,1,1,1]) (za8 Tryd.prog Tryd.f106 K))))))) [.agg (zae y4)] rest4 (zc2 w node uses kv4 zas.len (fun i=>zad (zas.get i)))=zkE K X3 X4 y4 rest4 w node uses kv4 zas:=by kernel_rfl
theorem zsu (K : List PA → Prop) (X3 : St → Prop) (w : web) (node : Int) (uses : Int) (kv4 : Int) (zeT : Nat) (zcg : Nat → List PV)
  (hsafe:IsE enc_40 4 4 (fun i=>enc_40 (w.Net.Ties.get i))∧((false,1,false,[none]):MQ)=(false,1,false,[none])∧(zj1 w=true)) (h:∀ X4:List (List PA)→St→Prop,(∀ (kv4:Int) (zas:(Sl Tab)),zkD K X3 w node uses kv4 zas→X4 [] (zc2 w node uses kv4 zas.len (fun i=>zad (zas.get i))))→(∀ (y:step) (rest:List (List PA)) (kv4:Int) (zas:(Sl Tab)),zkE K X3 X4 y rest w node uses kv4 zas→X4 ([.agg (zae y)] :: rest) (zc2 w node uses kv4 zas.len (fun i=>zad (zas.get i))))→X4 ((zgP w).map fun y=>[.agg (zae y)]) (zc2 w node uses kv4 zeT zcg)) :
  zgi K X3 w node uses kv4 zeT zcg:=by
  have e:zgi K X3 w node uses kv4 zeT zcg=((IsE enc_40 4 4 (fun i=>enc_40 (w.Net.Ties.get i))∧((false,1,false,[none]):MQ)=(false,1,false,[none])∧(zj1 w=true))∧∀ X:List (List PA)→St→Prop,(∀ s,(zai 6 (zai 5 (sqK Tryd.prog zeA za2 (cdF Tryd.f106 [1,1,1,1,0,1,0,0,1,1]) (zba Tryd.prog za2 13 X3 (zai 4 (sqK Tryd.prog zeA za2 (cdF Tryd.f106 [1,1,1,1,1]) (za8 Tryd.prog Tryd.f106 K))))))) .normal s→X [] s)→(∀ y rest s,zsD Tryd.prog zeA za2 16 [44] (cd (cdF Tryd.f106 [1,1,1,1,0,1,0,0,1,0,0,1,0]) [0]) (cd (cdF Tryd.f106 [1,1,1,1,0,1,0,0,1,0,0,1,0]) [1]) X (zai 6 (zai 5 (sqK Tryd.prog zeA za2 (cdF Tryd.f106 [1,1,1,1,0,1,0,0,1,1]) (zba Tryd.prog za2 13 X3 (zai 4 (sqK Tryd.prog zeA za2 (cdF Tryd.f106 [1,1,1,1,1]) (za8 Tryd.prog Tryd.f106 K))))))) y rest s→X (y :: rest) s)→X ((zgP w).map fun y=>[.agg (zae y)]) (zc2 w node uses kv4 zeT zcg)):=by kernel_rfl
  refine za9 e ⟨hsafe,?_⟩
  intro X h0 h1
  refine h X (fun kv4 zas hs=>h0 _ ?_) (fun y rest kv4 zas hs=>h1 _ rest _ ?_)
  · rw [znd K X3 w node uses kv4 zas];exact hs
  · have e2 := zne K X3 X y rest w node uses kv4 zas
    rw [e2];exact hs
abbrev ziX (r:(Sl Tab)):List PA:=[.one (.sl r.len 80 (fun i=>zad (r.get i)))]
attribute [irreducible] zgf zgg zhP zgh zgi
def zly (S3:Int→(Sl Tab)→(Sl Tab)) (w:web) (node:Int) (uses:Int) (kv4:Int) (zas:(Sl Tab)):(Sl Tab) :=
  (S3 (w64 (kv4+(1:Int))) zas)
def zlz (P3:Int→(Sl Tab)→Bool) (w:web) (node:Int) (uses:Int) (kv4:Int) (zas:(Sl Tab)):Bool :=
  (P3 (w64 (kv4+(1:Int))) zas)
def zlA (S3:Int→(Sl Tab)→(Sl Tab)) (w:web) (node:Int) (uses:Int) (y4:step) (S4:Int→(Sl Tab)→(Sl Tab)) (kv4:Int) (zas:(Sl Tab)):(Sl Tab) :=
  (cond (decide (y4.from_ ≥ node))
 (cond (decide (y4.to ≥ node))
 (cond (!(match ((tg 80 (zas.get ((w64 (kv4 - (1:Int))).toNat)) (0 + y4.to.toNat * 2 + 0)) == (1000000000000:Int)) with | true => (match ((tg 80 (zas.get ((w64 (kv4 - (1:Int))).toNat)) (0 + y4.to.toNat * 2 + 0 + 1)) == (0:Int)) with | true => true | false => false) | false => false))
 (S4 kv4 (⟨zas.len,(setT kv4.toNat (ts 80 (zas.get kv4.toNat) (0+y4.from_.toNat * 2+0) [(zcw (⟨(tg 80 (zas.get kv4.toNat) (0+y4.from_.toNat * 2+0)),(tg 80 (zas.get kv4.toNat) (0+y4.from_.toNat * 2+0+1))⟩:far) (⟨1,fun _=>(⟨(w64 ((tg 80 (zas.get ((w64 (kv4 - (1:Int))).toNat)) (0+y4.to.toNat * 2+0))+y4.length)),(0:Int)⟩:far)⟩:(Sl far))).length,(zcw (⟨(tg 80 (zas.get kv4.toNat) (0+y4.from_.toNat * 2+0)),(tg 80 (zas.get kv4.toNat) (0+y4.from_.toNat * 2+0+1))⟩:far) (⟨1,fun _=>(⟨(w64 ((tg 80 (zas.get ((w64 (kv4 - (1:Int))).toNat)) (0+y4.to.toNat * 2+0))+y4.length)),(0:Int)⟩:far)⟩:(Sl far))).uses]) zas.get)⟩:Sl Tab))
 (S4 kv4 zas))
 (S4 kv4 zas))
 (S4 kv4 zas))
def zlB (P3:Int→(Sl Tab)→Bool) (w:web) (node:Int) (uses:Int) (y4:step) (P4:Int→(Sl Tab)→Bool) (kv4:Int) (zas:(Sl Tab)):Bool :=
  (decide ((0≤(w64 (kv4 - (1:Int)))∧(w64 (kv4 - (1:Int))) < (zas.len:Int))) &&
 (decide ((0≤y4.to∧y4.to < (40:Int))) &&
 (decide (((w64 (kv4 - (1:Int))).toNat < zas.len)) &&
 (cond (decide (y4.from_ ≥ node))
 (cond (decide (y4.to ≥ node))
 (cond (!(match ((tg 80 (zas.get ((w64 (kv4 - (1:Int))).toNat)) (0 + y4.to.toNat * 2 + 0)) == (1000000000000:Int)) with | true => (match ((tg 80 (zas.get ((w64 (kv4 - (1:Int))).toNat)) (0 + y4.to.toNat * 2 + 0 + 1)) == (0:Int)) with | true => true | false => false) | false => false))
 (decide ((0≤kv4∧kv4 < (zas.len:Int))) &&
 (decide ((0≤y4.from_∧y4.from_ < (40:Int))) &&
 (decide ((kv4.toNat < zas.len)) &&
 (decide ((zzE (⟨(tg 80 (zas.get kv4.toNat) (0+y4.from_.toNat * 2+0)),(tg 80 (zas.get kv4.toNat) (0+y4.from_.toNat * 2+0+1))⟩:far) (⟨1,fun _=>(⟨(w64 ((tg 80 (zas.get ((w64 (kv4 - (1:Int))).toNat)) (0+y4.to.toNat * 2+0))+y4.length)),(0:Int)⟩:far)⟩:(Sl far))=true)) &&
 (decide ((0≤kv4∧kv4 < (zas.len:Int))) &&
 (decide ((0≤y4.from_∧y4.from_ < (40:Int))) &&
 (decide ((kv4.toNat < zas.len)) &&
 (P4 kv4 (⟨zas.len,(setT kv4.toNat (ts 80 (zas.get kv4.toNat) (0+y4.from_.toNat * 2+0) [(zcw (⟨(tg 80 (zas.get kv4.toNat) (0+y4.from_.toNat * 2+0)),(tg 80 (zas.get kv4.toNat) (0+y4.from_.toNat * 2+0+1))⟩:far) (⟨1,fun _=>(⟨(w64 ((tg 80 (zas.get ((w64 (kv4 - (1:Int))).toNat)) (0+y4.to.toNat * 2+0))+y4.length)),(0:Int)⟩:far)⟩:(Sl far))).length,(zcw (⟨(tg 80 (zas.get kv4.toNat) (0+y4.from_.toNat * 2+0)),(tg 80 (zas.get kv4.toNat) (0+y4.from_.toNat * 2+0+1))⟩:far) (⟨1,fun _=>(⟨(w64 ((tg 80 (zas.get ((w64 (kv4 - (1:Int))).toNat)) (0+y4.to.toNat * 2+0))+y4.length)),(0:Int)⟩:far)⟩:(Sl far))).uses]) zas.get)⟩:Sl Tab)))))))))
 (P4 kv4 zas))
 (P4 kv4 zas))
 (P4 kv4 zas)))))
def zgj (S3 : Int → (Sl Tab) → (Sl Tab)) (w : web) (node : Int) (uses : Int) : List step → Int → (Sl Tab) → (Sl Tab)
  | []=>zly S3 w node uses
  | y :: r=>zlA S3 w node uses y (zgj S3 w node uses r)
def zgk (P3 : Int → (Sl Tab) → Bool) (w : web) (node : Int) (uses : Int) : List step → Int → (Sl Tab) → Bool
  | []=>zlz P3 w node uses
  | y :: r=>zlB P3 w node uses y (zgk P3 w node uses r)
def zrj (S3:Int→(Sl Tab)→(Sl Tab)) (w:web) (node:Int) (uses:Int) (kv4:Int) (zas:(Sl Tab)):(Sl Tab):=zgj S3 w node uses (zgP w) kv4 zas
def zlC (P3:Int→(Sl Tab)→Bool) (w:web) (node:Int) (uses:Int) (kv4:Int) (zas:(Sl Tab)):Bool:=decide ((zj1 w=true)) && zgk P3 w node uses (zgP w) kv4 zas
theorem zyP (K : List PA → Prop) (w : web) (node : Int) (uses : Int)
  (X3:St→Prop) (P3:Int→(Sl Tab)→Bool) (S3:Int→(Sl Tab)→(Sl Tab))
  (hX3:∀ (kv3:Int) (zbN:(Sl Tab)) (zbU:Nat→List PV) (zgR:zbU=fun i=>zad (zbN.get i)),P3 kv3 zbN=true→K (ziX (S3 kv3 zbN))→X3 (zeR w node uses kv3 zbN.len zbU)) (kv4:Int) (zas:(Sl Tab)) (zcg:Nat→List PV) (zgS:zcg=fun i=>zad (zas.get i)) (hs:zlC P3 w node uses kv4 zas=true) (hk:K (ziX (zrj S3 w node uses kv4 zas))):zgi K X3 w node uses kv4 zas.len zcg:=by
  unfold zlC at hs
  rw [Bool.and_eq_true] at hs
  obtain ⟨hsf,hs⟩:=hs
  have hc:=of_decide_eq_true hsf
  refine zsu K X3 w node uses kv4 zas.len zcg ⟨isE,rfl,hc⟩ ?_
  intro X4 hexit hstep
  have key:∀ (l:List step) (kv4:Int) (zas:(Sl Tab)) (zcg:Nat→List PV) (zgS:zcg=fun i=>zad (zas.get i)),zgk P3 w node uses l kv4 zas=true→K (ziX (zgj S3 w node uses l kv4 zas))→X4 (l.map fun y=>[.agg (zae y)]) (zc2 w node uses kv4 zas.len zcg):=by
    intro l
    induction l with
    | nil =>
      intro kv4 zas zcg zgS hs hk
      subst zgS
      refine hexit kv4 zas ?_
      have hs:zlz P3 w node uses kv4 zas=true:=hs
      have hk:K (ziX (zly S3 w node uses kv4 zas)):=hk
      unfold zlz at hs
      unfold zly at hk
      exact (hX3 (w64 (kv4+(1:Int))) zas (fun i=>zad (zas.get i)) rfl hs hk)
    | cons y4 l ih =>
      intro kv4 zas zcg zgS hs hk
      subst zgS
      refine hstep y4 _ kv4 zas ?_
      have hs:zlB P3 w node uses y4 (zgk P3 w node uses l) kv4 zas=true:=hs
      have hk:K (ziX (zlA S3 w node uses y4 (zgj S3 w node uses l) kv4 zas)):=hk
      unfold zlB at hs
      unfold zlA at hk
      generalize zgj S3 w node uses l=S4 at hk ih
      generalize zgk P3 w node uses l=P4 at hs ih
      have hX4:=ih
      exact (zaX hs fun hc hs => ⟨hc, (zaX hs fun hc hs => ⟨hc, (zaX hs fun hc hs => ⟨hc, (zaM (K := fun r => K (ziX r))
 (fun hs hk => (zaM (K := fun r => K (ziX r))
 (fun hs hk => (zaM (K := fun r => K (ziX r))
 (fun hs hk=>(zaX hs fun hc hs=>⟨hc,(zaX hs fun hc hs=>⟨hc,(zaX hs fun hc hs=>⟨hc,(zaX hs fun hc hs=>⟨⟨zug,hc⟩,(zaX hs fun hc hs=>⟨hc,(zaX hs fun hc hs=>⟨hc,(zaX hs fun hc hs=>⟨hc,(hX4 kv4 (⟨zas.len,(setT kv4.toNat (ts 80 (zas.get kv4.toNat) (0+y4.from_.toNat * 2+0) [(zcw (⟨(tg 80 (zas.get kv4.toNat) (0+y4.from_.toNat * 2+0)),(tg 80 (zas.get kv4.toNat) (0+y4.from_.toNat * 2+0+1))⟩:far) (⟨1,fun _=>(⟨(w64 ((tg 80 (zas.get ((w64 (kv4 - (1:Int))).toNat)) (0+y4.to.toNat * 2+0))+y4.length)),(0:Int)⟩:far)⟩:(Sl far))).length,(zcw (⟨(tg 80 (zas.get kv4.toNat) (0+y4.from_.toNat * 2+0)),(tg 80 (zas.get kv4.toNat) (0+y4.from_.toNat * 2+0+1))⟩:far) (⟨1,fun _=>(⟨(w64 ((tg 80 (zas.get ((w64 (kv4 - (1:Int))).toNat)) (0+y4.to.toNat * 2+0))+y4.length)),(0:Int)⟩:far)⟩:(Sl far))).uses]) zas.get)⟩:Sl Tab) (zhE kv4.toNat 0 (fun i=>zad (zas.get i)) (zad (ts 80 (zas.get kv4.toNat) (0+y4.from_.toNat * 2+0) [(zcw (⟨(tg 80 (zas.get kv4.toNat) (0+y4.from_.toNat * 2+0)),(tg 80 (zas.get kv4.toNat) (0+y4.from_.toNat * 2+0+1))⟩:far) (⟨1,fun _=>(⟨(w64 ((tg 80 (zas.get ((w64 (kv4 - (1:Int))).toNat)) (0+y4.to.toNat * 2+0))+y4.length)),(0:Int)⟩:far)⟩:(Sl far))).length,(zcw (⟨(tg 80 (zas.get kv4.toNat) (0+y4.from_.toNat * 2+0)),(tg 80 (zas.get kv4.toNat) (0+y4.from_.toNat * 2+0+1))⟩:far) (⟨1,fun _=>(⟨(w64 ((tg 80 (zas.get ((w64 (kv4 - (1:Int))).toNat)) (0+y4.to.toNat * 2+0))+y4.length)),(0:Int)⟩:far)⟩:(Sl far))).uses]))) (zky (enc:=zad) (i:=kv4.toNat) (k:=0) (f:=zas.get) (new:=(zad (ts 80 (zas.get kv4.toNat) (0+y4.from_.toNat * 2+0) [(zcw (⟨(tg 80 (zas.get kv4.toNat) (0+y4.from_.toNat * 2+0)),(tg 80 (zas.get kv4.toNat) (0+y4.from_.toNat * 2+0+1))⟩:far) (⟨1,fun _=>(⟨(w64 ((tg 80 (zas.get ((w64 (kv4 - (1:Int))).toNat)) (0+y4.to.toNat * 2+0))+y4.length)),(0:Int)⟩:far)⟩:(Sl far))).length,(zcw (⟨(tg 80 (zas.get kv4.toNat) (0+y4.from_.toNat * 2+0)),(tg 80 (zas.get kv4.toNat) (0+y4.from_.toNat * 2+0+1))⟩:far) (⟨1,fun _=>(⟨(w64 ((tg 80 (zas.get ((w64 (kv4 - (1:Int))).toNat)) (0+y4.to.toNat * 2+0))+y4.length)),(0:Int)⟩:far)⟩:(Sl far))).uses]))) (v:=(ts 80 (zas.get kv4.toNat) (0+y4.from_.toNat * 2+0) [(zcw (⟨(tg 80 (zas.get kv4.toNat) (0+y4.from_.toNat * 2+0)),(tg 80 (zas.get kv4.toNat) (0+y4.from_.toNat * 2+0+1))⟩:far) (⟨1,fun _=>(⟨(w64 ((tg 80 (zas.get ((w64 (kv4 - (1:Int))).toNat)) (0+y4.to.toNat * 2+0))+y4.length)),(0:Int)⟩:far)⟩:(Sl far))).length,(zcw (⟨(tg 80 (zas.get kv4.toNat) (0+y4.from_.toNat * 2+0)),(tg 80 (zas.get kv4.toNat) (0+y4.from_.toNat * 2+0+1))⟩:far) (⟨1,fun _=>(⟨(w64 ((tg 80 (zas.get ((w64 (kv4 - (1:Int))).toNat)) (0+y4.to.toNat * 2+0))+y4.length)),(0:Int)⟩:far)⟩:(Sl far))).uses])) rfl zls) hs hk)⟩)⟩)⟩)⟩)⟩)⟩)⟩))
 (fun hs hk=>(hX4 kv4 zas (fun i=>zad (zas.get i)) rfl hs hk)) hs hk))
 (fun hs hk=>(hX4 kv4 zas (fun i=>zad (zas.get i)) rfl hs hk)) hs hk))
 (fun hs hk=>(hX4 kv4 zas (fun i=>zad (zas.get i)) rfl hs hk)) hs hk)⟩)⟩)⟩)
  exact key _ kv4 zas zcg zgS hs hk
def zlD (w:web) (node:Int) (uses:Int) (S3:Int→(Sl Tab)→(Sl Tab)) (kv3:Int) (zbN:(Sl Tab)):(Sl Tab) :=
  (cond (decide (kv3 ≤ uses))
 (zrj S3 w node uses kv3 zbN)
 zbN)
def zlE (w:web) (node:Int) (uses:Int) (P3:Int→(Sl Tab)→Bool) (kv3:Int) (zbN:(Sl Tab)):Bool :=
  (cond (decide (kv3 ≤ uses))
 (zlC P3 w node uses kv3 zbN)
 true)
def zgl (w : web) (node : Int) (uses : Int) : Nat → Int → (Sl Tab) → (Sl Tab)
  | 0=>fun _ _=>default
  | k+1=>zlD w node uses (zgl w node uses k)
def zgm (w : web) (node : Int) (uses : Int) : Nat → Int → (Sl Tab) → Bool
  | 0=>fun _ _=>false
  | k+1=>zlE w node uses (zgm w node uses k)
def zrk (w:web) (node:Int) (uses:Int) (kv3:Int) (zbN:(Sl Tab)):(Sl Tab):=zgl w node uses Fuel kv3 zbN
def zrl (w:web) (node:Int) (uses:Int) (kv3:Int) (zbN:(Sl Tab)):Bool:=zgm w node uses Fuel kv3 zbN
theorem zyQ (K:List PA→Prop) (w:web) (node:Int) (uses:Int) (kv3:Int) (zbN:(Sl Tab)) (zbU:Nat→List PV) (zgR:zbU=fun i=>zad (zbN.get i)) (hs:zrl w node uses kv3 zbN=true) (hk:K (ziX (zrk w node uses kv3 zbN))):zgh K w node uses kv3 zbN.len zbU:=by
  refine zst K w node uses kv3 zbN.len zbU ?_
  intro X3 hstep
  have key:∀ (k:Nat) (kv3:Int) (zbN:(Sl Tab)) (zbU:Nat→List PV) (zgR:zbU=fun i=>zad (zbN.get i)),zgm w node uses k kv3 zbN=true→K (ziX (zgl w node uses k kv3 zbN))→X3 (zeR w node uses kv3 zbN.len zbU):=by
    intro k
    induction k with
    | zero=>intro kv3 zbN zbU zgR hs;exact absurd hs Bool.false_ne_true
    | succ k ih =>
      intro kv3 zbN zbU zgR hs hk
      subst zgR
      refine hstep kv3 zbN ?_
      have hs:zlE w node uses (zgm w node uses k) kv3 zbN=true:=hs
      have hk:K (ziX (zlD w node uses (zgl w node uses k) kv3 zbN)):=hk
      unfold zlE at hs
      unfold zlD at hk
      generalize zgl w node uses k=S3 at hk ih
      generalize zgm w node uses k=P3 at hs ih
      have hX3:=ih
      exact (zaM (K := fun r => K (ziX r))
 (fun hs hk=>⟨⟨isE,rfl⟩,(zyP K w node uses X3 P3 S3 hX3 kv3 zbN (fun i=>zad (zbN.get i)) rfl hs hk)⟩)
 (fun hs hk=>hk) hs hk)
  exact key _ kv3 zbN zbU zgR hs hk
def zlF (w:web) (node:Int) (uses:Int) (zcB:(Sl Tab)):(Sl Tab) :=
  (zrk w node uses (1:Int) (⟨zcB.len,(setT 0 (ts 80 (zcB.get 0) (0+node.toNat * 2+0) [(0:Int),(0:Int)]) zcB.get)⟩:Sl Tab))
def zlG (w:web) (node:Int) (uses:Int) (zcB:(Sl Tab)):Bool :=
  (decide ((0≤(0:Int)∧(0:Int) < (zcB.len:Int))) &&
 (decide ((0≤node∧node < (40:Int))) &&
 (decide ((0 < zcB.len)) &&
 (zrl w node uses (1:Int) (⟨zcB.len,(setT 0 (ts 80 (zcB.get 0) (0+node.toNat * 2+0) [(0:Int),(0:Int)]) zcB.get)⟩:Sl Tab)))))
theorem zyR (K:List PA→Prop) (w:web) (node:Int) (uses:Int) (zcB:(Sl Tab)) (zgQ:Nat→List PV) (zA7:zgQ=fun i=>zad (zcB.get i)) (hs:zlG w node uses zcB=true) (hk:K (ziX (zlF w node uses zcB))):zhP K w node uses zcB.len zgQ:=by
  subst zA7
  refine za9 (zyO K w node uses zcB) ?_
  unfold zlG at hs
  unfold zlF at hk
  exact (zaX hs fun hc hs=>⟨hc,(zaX hs fun hc hs=>⟨hc,(zaX hs fun hc hs=>⟨hc,(zyQ K w node uses (1:Int) (⟨zcB.len,(setT 0 (ts 80 (zcB.get 0) (0+node.toNat * 2+0) [(0:Int),(0:Int)]) zcB.get)⟩:Sl Tab) (zhE 0 0 (fun i=>zad (zcB.get i)) (zad (ts 80 (zcB.get 0) (0+node.toNat * 2+0) [(0:Int),(0:Int)]))) (zky (enc:=zad) (i:=0) (k:=0) (f:=zcB.get) (new:=(zad (ts 80 (zcB.get 0) (0+node.toNat * 2+0) [(0:Int),(0:Int)]))) (v:=(ts 80 (zcB.get 0) (0+node.toNat * 2+0) [(0:Int),(0:Int)])) rfl zls) hs hk)⟩)⟩)⟩)
def zlH (S0:Int→(Sl Tab)→(Sl Tab)) (w:web) (node:Int) (uses:Int) (S1:Int→Int→Int→(Sl Tab)→(Sl Tab)) (iv1:Int) (zbD:Int) (zbv:Int) (zbp:(Sl Tab)):(Sl Tab) :=
  (cond (decide (zbv < (40:Int)))
 (S1 iv1 zbD (w64 (zbv+(1:Int))) (⟨zbp.len,(setT iv1.toNat (ts 80 (zbp.get iv1.toNat) (0+zbv.toNat * 2+0) [(1000000000000:Int),(0:Int)]) zbp.get)⟩:Sl Tab))
 (S0 (w64 (zbD+(1:Int))) zbp))
def zlI (P0:Int→(Sl Tab)→Bool) (w:web) (node:Int) (uses:Int) (P1:Int→Int→Int→(Sl Tab)→Bool) (iv1:Int) (zbD:Int) (zbv:Int) (zbp:(Sl Tab)):Bool :=
  (cond (decide (zbv < (40:Int)))
 (decide ((0≤iv1∧iv1 < (zbp.len:Int))) &&
 (decide ((0≤zbv∧zbv < (40:Int))) &&
 (decide ((iv1.toNat < zbp.len)) &&
 (P1 iv1 zbD (w64 (zbv+(1:Int))) (⟨zbp.len,(setT iv1.toNat (ts 80 (zbp.get iv1.toNat) (0+zbv.toNat * 2+0) [(1000000000000:Int),(0:Int)]) zbp.get)⟩:Sl Tab)))))
 (P0 (w64 (zbD+(1:Int))) zbp))
def zgn (S0 : Int → (Sl Tab) → (Sl Tab)) (w : web) (node : Int) (uses : Int) : Nat → Int → Int → Int → (Sl Tab) → (Sl Tab)
  | 0=>fun _ _ _ _=>default
  | k+1=>zlH S0 w node uses (zgn S0 w node uses k)
def zgo (P0 : Int → (Sl Tab) → Bool) (w : web) (node : Int) (uses : Int) : Nat → Int → Int → Int → (Sl Tab) → Bool
  | 0=>fun _ _ _ _=>false
  | k+1=>zlI P0 w node uses (zgo P0 w node uses k)
def zrm (S0:Int→(Sl Tab)→(Sl Tab)) (w:web) (node:Int) (uses:Int) (iv1:Int) (zbD:Int) (zbv:Int) (zbp:(Sl Tab)):(Sl Tab):=zgn S0 w node uses Fuel iv1 zbD zbv zbp
def zrn (P0:Int→(Sl Tab)→Bool) (w:web) (node:Int) (uses:Int) (iv1:Int) (zbD:Int) (zbv:Int) (zbp:(Sl Tab)):Bool:=zgo P0 w node uses Fuel iv1 zbD zbv zbp
theorem zyS (K : List PA → Prop) (w : web) (node : Int) (uses : Int)
  (X0:St→Prop) (P0:Int→(Sl Tab)→Bool) (S0:Int→(Sl Tab)→(Sl Tab))
  (hX0:∀ (zbI:Int) (zbK:(Sl Tab)) (zbT:Nat→List PV) (zgT:zbT=fun i=>zad (zbK.get i)),P0 zbI zbK=true→K (ziX (S0 zbI zbK))→X0 (zeO w node uses zbI zbK.len zbT)) (iv1:Int) (zbD:Int) (zbv:Int) (zbp:(Sl Tab)) (zcf:Nat→List PV) (ziY:zcf=fun i=>zad (zbp.get i)) (hs:zrn P0 w node uses iv1 zbD zbv zbp=true) (hk:K (ziX (zrm S0 w node uses iv1 zbD zbv zbp))):zgg K X0 w node uses iv1 zbD zbv zbp.len zcf:=by
  refine zss K X0 w node uses iv1 zbD zbv zbp.len zcf ?_
  intro X1 hstep
  have key:∀ (k:Nat) (iv1:Int) (zbD:Int) (zbv:Int) (zbp:(Sl Tab)) (zcf:Nat→List PV) (ziY:zcf=fun i=>zad (zbp.get i)),zgo P0 w node uses k iv1 zbD zbv zbp=true→K (ziX (zgn S0 w node uses k iv1 zbD zbv zbp))→X1 (zfI w node uses iv1 zbD zbv zbp.len zcf):=by
    intro k
    induction k with
    | zero=>intro iv1 zbD zbv zbp zcf ziY hs;exact absurd hs Bool.false_ne_true
    | succ k ih =>
      intro iv1 zbD zbv zbp zcf ziY hs hk
      subst ziY
      refine hstep iv1 zbD zbv zbp ?_
      have hs:zlI P0 w node uses (zgo P0 w node uses k) iv1 zbD zbv zbp=true:=hs
      have hk:K (ziX (zlH S0 w node uses (zgn S0 w node uses k) iv1 zbD zbv zbp)):=hk
      unfold zlI at hs
      unfold zlH at hk
      generalize zgn S0 w node uses k=S1 at hk ih
      generalize zgo P0 w node uses k=P1 at hs ih
      have hX1:=ih
      exact (zaM (K := fun r => K (ziX r))
 (fun hs hk=>(zaX hs fun hc hs=>⟨hc,(zaX hs fun hc hs=>⟨hc,(zaX hs fun hc hs=>⟨hc,(hX1 iv1 zbD (w64 (zbv+(1:Int))) (⟨zbp.len,(setT iv1.toNat (ts 80 (zbp.get iv1.toNat) (0+zbv.toNat * 2+0) [(1000000000000:Int),(0:Int)]) zbp.get)⟩:Sl Tab) (zhE iv1.toNat 0 (fun i=>zad (zbp.get i)) (zad (ts 80 (zbp.get iv1.toNat) (0+zbv.toNat * 2+0) [(1000000000000:Int),(0:Int)]))) (zky (enc:=zad) (i:=iv1.toNat) (k:=0) (f:=zbp.get) (new:=(zad (ts 80 (zbp.get iv1.toNat) (0+zbv.toNat * 2+0) [(1000000000000:Int),(0:Int)]))) (v:=(ts 80 (zbp.get iv1.toNat) (0+zbv.toNat * 2+0) [(1000000000000:Int),(0:Int)])) rfl zls) hs hk)⟩)⟩)⟩))
 (fun hs hk=>(hX0 (w64 (zbD+(1:Int))) zbp (fun i=>zad (zbp.get i)) rfl hs hk)) hs hk)
  exact key _ iv1 zbD zbv zbp zcf ziY hs hk
def zlJ (w:web) (node:Int) (uses:Int) (S0:Int→(Sl Tab)→(Sl Tab)) (zbI:Int) (zbK:(Sl Tab)):(Sl Tab) :=
  (cond (decide (zbI < ((w64 (uses + (1:Int))).toNat : Int)))
 (zrm S0 w node uses zbI zbI (0:Int) zbK)
 (zlF w node uses zbK))
def zlK (w:web) (node:Int) (uses:Int) (P0:Int→(Sl Tab)→Bool) (zbI:Int) (zbK:(Sl Tab)):Bool :=
  (cond (decide (zbI < ((w64 (uses + (1:Int))).toNat : Int)))
 (zrn P0 w node uses zbI zbI (0:Int) zbK)
 (zlG w node uses zbK))
def zgp (w : web) (node : Int) (uses : Int) : Nat → Int → (Sl Tab) → (Sl Tab)
  | 0=>fun _ _=>default
  | k+1=>zlJ w node uses (zgp w node uses k)
def zgq (w : web) (node : Int) (uses : Int) : Nat → Int → (Sl Tab) → Bool
  | 0=>fun _ _=>false
  | k+1=>zlK w node uses (zgq w node uses k)
def zro (w:web) (node:Int) (uses:Int) (zbI:Int) (zbK:(Sl Tab)):(Sl Tab):=zgp w node uses Fuel zbI zbK
def zrp (w:web) (node:Int) (uses:Int) (zbI:Int) (zbK:(Sl Tab)):Bool:=zgq w node uses Fuel zbI zbK
theorem zyT (K:List PA→Prop) (w:web) (node:Int) (uses:Int) (zbI:Int) (zbK:(Sl Tab)) (zbT:Nat→List PV) (zgT:zbT=fun i=>zad (zbK.get i)) (hs:zrp w node uses zbI zbK=true) (hk:K (ziX (zro w node uses zbI zbK))):zgf K w node uses zbI zbK.len zbT:=by
  refine zsr K w node uses zbI zbK.len zbT ?_
  intro X0 hstep
  have key:∀ (k:Nat) (zbI:Int) (zbK:(Sl Tab)) (zbT:Nat→List PV) (zgT:zbT=fun i=>zad (zbK.get i)),zgq w node uses k zbI zbK=true→K (ziX (zgp w node uses k zbI zbK))→X0 (zeO w node uses zbI zbK.len zbT):=by
    intro k
    induction k with
    | zero=>intro zbI zbK zbT zgT hs;exact absurd hs Bool.false_ne_true
    | succ k ih =>
      intro zbI zbK zbT zgT hs hk
      subst zgT
      refine hstep zbI zbK ?_
      have hs:zlK w node uses (zgq w node uses k) zbI zbK=true:=hs
      have hk:K (ziX (zlJ w node uses (zgp w node uses k) zbI zbK)):=hk
      unfold zlK at hs
      unfold zlJ at hk
      generalize zgp w node uses k=S0 at hk ih
      generalize zgq w node uses k=P0 at hs ih
      have hX0:=ih
      exact (zaM (K := fun r => K (ziX r))
 (fun hs hk=>(zyS K w node uses X0 P0 S0 hX0 zbI zbI (0:Int) zbK (fun i=>zad (zbK.get i)) rfl hs hk))
 (fun hs hk=>(zyR K w node uses zbK (fun i=>zad (zbK.get i)) rfl hs hk)) hs hk)
  exact key _ zbI zbK zbT zgT hs hk
def zuC (w:web) (node:Int) (uses:Int):(Sl Tab) :=
  (zro w node uses (0:Int) (⟨(w64 (uses+(1:Int))).toNat,(fun _=>(fun _=>(0:Int)))⟩:Sl Tab))
def zEK (w:web) (node:Int) (uses:Int):Bool :=
  (decide ((0≤(w64 (uses+(1:Int)))∧(w64 (uses+(1:Int)))=(w64 (uses+(1:Int)))∧(w64 (uses+(1:Int)))≤1000000)) &&
 (zrp w node uses (0:Int) (⟨(w64 (uses+(1:Int))).toNat,(fun _=>(fun _=>(0:Int)))⟩:Sl Tab)))
theorem zH9 (w:web) (node:Int) (uses:Int) (K:List PA→Prop) (hs:zEK w node uses=true) (hk:K (ziX (zuC w node uses))):vcFun Tryd.prog zeA za2 106 [.one (.fp (zat w) 0),.one (.int .i64 node),.one (.int .i64 uses)] K:=by
  refine za9 (zyN w node uses K) ?_
  unfold zEK at hs
  unfold zuC at hk
  exact (zaX hs fun hc hs=>⟨hc,(zyT K w node uses (0:Int) (⟨(w64 (uses+(1:Int))).toNat,(fun _=>(fun _=>(0:Int)))⟩:Sl Tab) (fun _=>(zad (fun _=>(0:Int)))) rfl hs hk)⟩)
def zuD : List PA → COut
  | [.one (.fp [.int .i64 a0_Net_Nodes,.sl a0_Net_Ties_n a0_Net_Ties_s a0_Net_Ties_g,.fm a0_out_q a0_out_n a0_out_F] 0),.one (.int .i64 a1),.one (.int .i64 a2)]=>.det (IsE enc_40 4 a0_Net_Ties_s a0_Net_Ties_g∧a0_out_q=(false,1,false,[none])∧zEK (⟨(⟨a0_Net_Nodes,(⟨a0_Net_Ties_n,zaa a0_Net_Ties_g⟩:(Sl Tie))⟩:Net),(⟨a0_out_n,a0_out_F⟩:Mp)⟩:web) a1 a2=true) [.one (.sl ((zuC (⟨(⟨a0_Net_Nodes,(⟨a0_Net_Ties_n,zaa a0_Net_Ties_g⟩:(Sl Tie))⟩:Net),(⟨a0_out_n,a0_out_F⟩:Mp)⟩:web) a1 a2).len) 80 (fun i=>zad ((zuC (⟨(⟨a0_Net_Nodes,(⟨a0_Net_Ties_n,zaa a0_Net_Ties_g⟩:(Sl Tie))⟩:Net),(⟨a0_out_n,a0_out_F⟩:Mp)⟩:web) a1 a2).get i)))]
  | _=>.no
theorem zA8:zan Tryd.prog 106:=⟨_,rfl,rfl,by kernel_rfl⟩
theorem zGE:Ok Tryd.prog 106 zuD:=zbr zEJ zA8 fun args K h=>by
  unfold zuD at h
  split at h
  · rename_i a0_Net_Nodes a0_Net_Ties_n a0_Net_Ties_s a0_Net_Ties_g a0_out_q a0_out_n a0_out_F a1 a2
    obtain ⟨⟨⟨rfl,a0_Net_Ties_f,rfl⟩,rfl,hs⟩,hk⟩:=h
    try rw [zaj a0_Net_Ties_f] at hs
    try rw [zaj a0_Net_Ties_f] at hk
    exact ⟨(fun _ _=>[]),(fun _=>false),za2,zH9 (⟨(⟨a0_Net_Nodes,(⟨a0_Net_Ties_n,a0_Net_Ties_f⟩:(Sl Tie))⟩:Net),(⟨a0_out_n,a0_out_F⟩:Mp)⟩:web) a1 a2 K hs hk⟩
  · exact h.elim
abbrev zHL:Tabs:=Tabs.nil
theorem zEL:TabsOk Tryd.prog zHL:=TabsOk.nil
abbrev zHM:Ctrs:=csm zHL (fun _ _=>[]) (fun _=>false)
def zuE:Ann:=⟨18,[(0,zK [0] []),(1,zK [0,3] []),(2,zK [3,6,7,8] []),(3,zK [3,6,7,8,9] []),(4,zK [3,5,6,7,8] []),(5,zK [3,5,6,7,8,14] []),(6,zK [2] []),(7,zK [3,6,7,8] []),(8,zK [2] [])],
 [(3,zK [3,6,7,8] [])],
 [],
 [],[]⟩
abbrev zIa:=Int
abbrev zGF (r:zIa):List PA:=[.one (.int .i64 r)]
@[irreducible] def z100:=ptF Tryd.prog zHM zuE Tryd.f100
def zuF (vals:(Sl Int)) (zc6:Int):St:=⟨[(3,zI (0:Int)),(6,zS enc_3 1 vals),(7,zI (vals.len:Int)),(8,zI zc6)],[],[]⟩
abbrev zzF (K:List PA→Prop) (vals:(Sl Int)) (X:St→Prop) (P:Int→Bool) (S:Int→Int):Prop:=∀ ⦃zc6:Int⦄,P zc6=true→K (zGF (S zc6))→X (zuF vals zc6)
section
variable {K:List PA→Prop} {vals:(Sl Int)} {zc6:Int} {X0:St→Prop} {P0:Int→Bool} {S0:Int→Int}
def zrq (vals:(Sl Int)) (S0:Int→Int) (zc6:Int):Int :=
  (cond (decide (zc6 < (vals.len : Int)))
 (cond ((vals.get zc6.toNat) != (0:Int))
 (vals.get zc6.toNat)
 (S0 (w64 (zc6+(1:Int)))))
 (0:Int))
def zrr (vals:(Sl Int)) (P0:Int→Bool) (zc6:Int):Bool :=
  (cond (decide (zc6 < (vals.len : Int)))
 (decide ((0≤zc6∧zc6 < (vals.len:Int))) &&
 (cond ((vals.get zc6.toNat) != (0:Int))
 true
 (P0 (w64 (zc6+(1:Int))))))
 true)
def zrt (vals:(Sl Int)):Nat→Int→Int:=lpO (fun _=>default) (zrq vals)
def zru (vals:(Sl Int)):Nat→Int→Bool:=lpO (fun _=>false) (zrr vals)
def zrv (vals:(Sl Int)) (zc6:Int):Int:=zrt vals Fuel zc6
def zrx (vals:(Sl Int)) (zc6:Int):Bool:=zru vals Fuel zc6
theorem zyU (hs:zrx vals zc6=true) (hk:K (zGF (zrv vals zc6))):z100 K [1,1,0,1,0] [] (zuF vals zc6) :=
  zl (fun X=>z100 K [1,1,0,1,0,0] [X]) (by kernel_rfl) fun X0 hX =>
  (show ∀ k, zzF K vals X0 (zru vals k) (zrt vals k) from zjV _ _ (zrr vals) (zrq vals) (zzF K vals X0)
 (by intro _ hs;exact absurd hs Bool.false_ne_true)
 (by intro P0 S0 hX0 zc6 hs hk;exact hX _ (za9 (by kernel_rfl) (zc hs hk (fun hs hk=>(zaX hs fun hc hs=>And.intro hc (zc hs hk (fun hs hk=>hk) (fun hs hk=>(hX0 hs hk))))) (fun hs hk=>hk))))) _ hs hk
def zGG (vals:(Sl Int)):Int :=
  (zrv vals (0:Int))
def zGH (vals:(Sl Int)):Bool :=
  (zrx vals (0:Int))
end
theorem zIb (vals:(Sl Int)) (K:List PA→Prop) (hs:zGH vals=true) (hk:K (zGF (zGG vals))):vcFun Tryd.prog zHM zuE 100 [.one (.sl vals.len 1 (fun i=>enc_3 (vals.get i)))] K :=
  za9 (by kernel_rfl) (zyU hs hk)
def zuG : List PA → COut
  | [.one (.sl a0_n a0_s a0_g)]=>.det (IsE enc_3 1 a0_s a0_g∧zGH (⟨a0_n,zaq a0_g⟩:(Sl Int))=true) [.one (.int .i64 (zGG (⟨a0_n,zaq a0_g⟩:(Sl Int))))]
  | _=>.no
theorem zA9:zan Tryd.prog 100:=⟨_,rfl,rfl,by kernel_rfl⟩
theorem zGI:Ok Tryd.prog 100 zuG:=zbr zEL zA9 fun args K h=>by
  unfold zuG at h
  split at h
  · rename_i a0_n a0_s a0_g
    obtain ⟨⟨⟨rfl,a0_f,rfl⟩,hs⟩,hk⟩:=h
    try rw [za0 a0_f] at hs
    try rw [za0 a0_f] at hk
    exact ⟨(fun _ _=>[]),(fun _=>false),zuE,zIb (⟨a0_n,a0_f⟩:(Sl Int)) K hs hk⟩
  · exact h.elim
abbrev zHN:Tabs:=Tabs.nil
theorem zEM:TabsOk Tryd.prog zHN:=TabsOk.nil
abbrev zIc:Ctrs:=csm zHN (fun _ _=>[]) (fun _=>false)
def zzG:Ann:=⟨6,[(0,zK [0] []),(1,zK [2] [])],
 [],
 [],
 [],[]⟩
abbrev zId:=Bool
abbrev zIe (r:zId):List PA:=[.one (.bool r)]
section
variable {K:List PA→Prop} {x:Int}
def zEN (x:Int):Bool :=
  (x != x)
end
theorem zIf (x:Int) (K:List PA→Prop) (hk:K (zIe (zEN x))):vcFun Tryd.prog zIc zzG 114 [.one (.int .i64 x)] K :=
  za9 (by kernel_rfl) hk
def zuH : List PA → COut
  | [.one (.int .i64 a0)]=>.tot [.one (.bool (zEN a0))]
  | _=>.no
theorem zBa:zan Tryd.prog 114:=⟨_,rfl,rfl,by kernel_rfl⟩
theorem zGJ:Ok Tryd.prog 114 zuH:=zbr zEM zBa fun args K h=>by
  unfold zuH at h
  split at h
  · rename_i a0
    have hk:=h
    exact ⟨(fun _ _=>[]),(fun _=>false),zzG,zIf a0 K hk⟩
  · exact h.elim
abbrev zHO:Tabs:=(Tabs.nil.addF 114 zuH)
theorem zEO:TabsOk Tryd.prog zHO:=(TabsOk.nil.addF zGJ)
abbrev zIg:Ctrs:=csm zHO (fun _ _=>[]) (fun _=>false)
def zzH:Ann:=⟨20,[(0,zK [0,1] []),(1,zK [0,1,5] []),(2,zK [0,1,5,6] []),(3,zK [0,1,6,11] []),(4,zK [12] []),(5,zK [4] []),(6,zK [4] []),(7,zK [0,1,13] []),(8,zK [4] []),(9,zK [0,1,16] []),(10,zK [4] []),(11,zK [19] []),(12,zK [4] []),(13,zK [4] [])],
 [],
 [],
 [],[]⟩
abbrev zIh:=Int
abbrev zIi (r:zIh):List PA:=[.one (.int .i64 r)]
section
variable {K:List PA→Prop} {x:Int} {y_a1:Int}
def zxK (x:Int) (y_a1:Int):Int :=
  (cond (zEN x)
 (cond (zEN y_a1)
 (0:Int)
 (-1:Int))
 (cond (zEN y_a1)
 (1:Int)
 (cond (decide (x < y_a1))
 (-1:Int)
 (cond (decide (x > y_a1))
 (1:Int)
 (0:Int)))))
end
theorem zIj (x:Int) (y_a1:Int) (K:List PA→Prop) (hk:K (zIi (zxK x y_a1))):vcFun Tryd.prog zIg zzH 101 [.one (.int .i64 x),.one (.int .i64 y_a1)] K :=
  za9 (by kernel_rfl) (zt hk (fun hk=>(zt hk (fun hk=>hk) (fun hk=>hk))) (fun hk=>(zt hk (fun hk=>hk) (fun hk=>(zt hk (fun hk=>hk) (fun hk=>(zt hk (fun hk=>hk) (fun hk=>hk))))))))
def zry : List PA → COut
  | [.one (.int .i64 a0),.one (.int .i64 a1)]=>.tot [.one (.int .i64 (zxK a0 a1))]
  | _=>.no
theorem zBb:zan Tryd.prog 101:=⟨_,rfl,rfl,by kernel_rfl⟩
theorem zEP:Ok Tryd.prog 101 zry:=zbr zEO zBb fun args K h=>by
  unfold zry at h
  split at h
  · rename_i a0 a1
    have hk:=h
    exact ⟨(fun _ _=>[]),(fun _=>false),zzH,zIj a0 a1 K hk⟩
  · exact h.elim
abbrev zHP:Tabs:=Tabs.nil
theorem zEQ:TabsOk Tryd.prog zHP:=TabsOk.nil
abbrev zIk:Ctrs:=csm zHP (fun _ _=>[]) (fun _=>false)
def zzI:Ann:=⟨6,[(0,zK [1] [1]),(1,zK [5] []),(2,zK [2] []),(3,zK [2] [])],
 [],
 [],
 [],[]⟩
abbrev zIl:=Int
abbrev e118 (r:zIl):List PA:=[.one (.int .i64 r)]
section
variable {K:List PA→Prop} {s:step}
def zzJ (s:step):Int :=
  (cond s.Use.Back
 (1:Int)
 (0:Int))
end
theorem zIm (s:step) (K:List PA→Prop) (hk:K (e118 (zzJ s))):vcFun Tryd.prog zIk zzI 118 [.agg (zae s)] K :=
  za9 (by kernel_rfl) (zt hk (fun hk=>hk) (fun hk=>hk))
def zuI : List PA → COut
  | [.agg [.int .i64 a0_Use_Tie,.bool a0_Use_Back,.int .i64 a0_from_,.int .i64 a0_to,.int .i64 a0_length]]=>.tot [.one (.int .i64 (zzJ (⟨(⟨a0_Use_Tie,a0_Use_Back⟩:Use),a0_from_,a0_to,a0_length⟩:step)))]
  | _=>.no
theorem zBc:zan Tryd.prog 118:=⟨_,rfl,rfl,by kernel_rfl⟩
theorem zGK:Ok Tryd.prog 118 zuI:=zbr zEQ zBc fun args K h=>by
  unfold zuI at h
  split at h
  · rename_i a0_Use_Tie a0_Use_Back a0_from_ a0_to a0_length
    have hk:=h
    exact ⟨(fun _ _=>[]),(fun _=>false),zzI,zIm (⟨(⟨a0_Use_Tie,a0_Use_Back⟩:Use),a0_from_,a0_to,a0_length⟩:step) K hk⟩
  · exact h.elim
abbrev zHQ:Tabs:=(((Tabs.nil.addF 100 zuG).addF 101 zry).addF 118 zuI)
theorem zER:TabsOk Tryd.prog zHQ:=(((TabsOk.nil.addF zGI).addF zEP).addF zGK)
abbrev zIn:Ctrs:=csm zHQ (fun _ _=>[]) (fun _=>false)
def zzK:Ann:=⟨22,[(0,zK [2,3] [2,3]),(1,zK [2,3,5] [2,3]),(2,zK [4] [])],
 [],
 [],
 [],[]⟩
abbrev zIo:=Int
abbrev e108 (r:zIo):List PA:=[.one (.int .i64 r)]
section
variable {K:List PA→Prop} {a:step} {b:step}
def zGe (a:step) (b:step):Int :=
  (zGG (⟨2,zaq (zbz [(enc_3 (zxK a.Use.Tie b.Use.Tie)),(enc_3 (zxK (zzJ a) (zzJ b)))])⟩:(Sl Int)))
def zGL (a:step) (b:step):Bool :=
  (decide ((zGH (⟨2,zaq (zbz [(enc_3 (zxK a.Use.Tie b.Use.Tie)),(enc_3 (zxK (zzJ a) (zzJ b)))])⟩:(Sl Int))=true)) &&
 true)
end
theorem zIp (a:step) (b:step) (K:List PA→Prop) (hs:zGL a b=true) (hk:K (e108 (zGe a b))):vcFun Tryd.prog zIn zzK 108 [.agg (zae a),.agg (zae b)] K :=
  za9 (by kernel_rfl) (zaX hs fun hc hs=>And.intro (And.intro ((zdL []):IsE enc_3 1 1 (zbz [(enc_3 (zxK a.Use.Tie b.Use.Tie)),(enc_3 (zxK (zzJ a) (zzJ b)))])) hc) hk)
def zuJ : List PA → COut
  | [.agg [.int .i64 a0_Use_Tie,.bool a0_Use_Back,.int .i64 a0_from_,.int .i64 a0_to,.int .i64 a0_length],.agg [.int .i64 a1_Use_Tie,.bool a1_Use_Back,.int .i64 a1_from_,.int .i64 a1_to,.int .i64 a1_length]]=>.det (zGL (⟨(⟨a0_Use_Tie,a0_Use_Back⟩:Use),a0_from_,a0_to,a0_length⟩:step) (⟨(⟨a1_Use_Tie,a1_Use_Back⟩:Use),a1_from_,a1_to,a1_length⟩:step)=true) [.one (.int .i64 (zGe (⟨(⟨a0_Use_Tie,a0_Use_Back⟩:Use),a0_from_,a0_to,a0_length⟩:step) (⟨(⟨a1_Use_Tie,a1_Use_Back⟩:Use),a1_from_,a1_to,a1_length⟩:step)))]
  | _=>.no
theorem zBd:zan Tryd.prog 108:=⟨_,rfl,rfl,by kernel_rfl⟩
theorem zGM:Ok Tryd.prog 108 zuJ:=zbr zER zBd fun args K h=>by
  unfold zuJ at h
  split at h
  · rename_i a0_Use_Tie a0_Use_Back a0_from_ a0_to a0_length a1_Use_Tie a1_Use_Back a1_from_ a1_to a1_length
    obtain ⟨hs,hk⟩:=h
    exact ⟨(fun _ _=>[]),(fun _=>false),zzK,zIp (⟨(⟨a0_Use_Tie,a0_Use_Back⟩:Use),a0_from_,a0_to,a0_length⟩:step) (⟨(⟨a1_Use_Tie,a1_Use_Back⟩:Use),a1_from_,a1_to,a1_length⟩:step) K hs hk⟩
  · exact h.elim
abbrev zHR:Tabs:=(Tabs.nil.addF 108 zuJ)
theorem zES:TabsOk Tryd.prog zHR:=(TabsOk.nil.addF zGM)
abbrev zHS:Ctrs:=csm zHR (fun _ _=>[]) (fun _=>false)
def zuK:Ann:=⟨39,[(0,zK [0,1,2] []),(1,zK [0,1,2,11,12,13] []),(2,zK [0,1,2,11,12,13,14] []),(3,zK [0,1,2,7,8,11,12,13] [8]),(4,zK [0,1,2,7,8,11,12,13,21] [8]),(5,zK [6] []),(6,zK [0,1,2,8,9,11,12,13] [8,9]),(7,zK [0,1,2,10,11,12,13] []),(8,zK [0,1,2,10,11,12,13,31] []),(9,zK [6] []),(10,zK [0,1,2,11,12,13] []),(11,zK [38] []),(12,zK [6] []),(13,zK [6] [])],
 [(2,zK [0,1,2,11,12,13] [])],
 [(6,zK [0,1,2,7,8,11,12,13] [8]),(8,zK [0,1,2,10,11,12,13] [])],
 [],[]⟩
abbrev zIq:=Int
abbrev zET (r:zIq):List PA:=[.one (.int .i64 r)]
@[irreducible] def z107:=ptF Tryd.prog zHS zuK Tryd.f107
def zuL (zdU:(Sl step)) (zdw:(Sl step)) (zaP:(Sl step)) (zbc:Int) (zbS:Int) (zcV:Nat→List PV) (zcW:Nat→List PV) (zeU:Nat→List PV):St:=⟨[(0,zP (.sl zdU.len 5 zcV)),(1,zP (.sl zdw.len 5 zcW)),(2,zP (.fn 108 [] [])),(11,zP (.sl zaP.len 5 zeU)),(12,zI zbc),(13,zI zbS)],[],[]⟩
abbrev zrz (K:List PA→Prop) (X:St→Prop) (P:(Sl step)→(Sl step)→(Sl step)→Int→Int→Bool) (S:(Sl step)→(Sl step)→(Sl step)→Int→Int→Int):Prop:=∀ ⦃zdU:(Sl step)⦄ ⦃zdw:(Sl step)⦄ ⦃zaP:(Sl step)⦄ ⦃zbc:Int⦄ ⦃zbS:Int⦄ ⦃zcV:Nat→List PV⦄ ⦃zcW:Nat→List PV⦄ ⦃zeU:Nat→List PV⦄,P zdU zdw zaP zbc zbS=true→K (zET (S zdU zdw zaP zbc zbS))→zcV=zg zae zdU→zcW=zg zae zdw→zeU=zg zae zaP→X (zuL zdU zdw zaP zbc zbS zcV zcW zeU)
section
variable {K:List PA→Prop} {s1_a0:(Sl step)} {s2_a1:(Sl step)} {zdU:(Sl step)} {zdw:(Sl step)} {zaP:(Sl step)} {zbc:Int} {zbS:Int} {zcV:Nat→List PV} {zcW:Nat→List PV} {zeU:Nat→List PV} {X0:St→Prop} {P0:(Sl step)→(Sl step)→(Sl step)→Int→Int→Bool} {S0:(Sl step)→(Sl step)→(Sl step)→Int→Int→Int} {znf:(Sl step)} {zhQ:(Sl step)} {iv1:Int} {zcv:(Sl step)} {za1:Int} {zoI:Int} {zhq:Int} {zhr:Bool} {zhs:Int} {zht:Int} {zhu:Int} {zng:Nat→List PV} {znh:Nat→List PV} {zuM:Nat→List PV} {zni:(Sl step)} {znj:(Sl step)} {cv2:Int} {zoJ:Int} {znk:Nat→List PV} {znl:Nat→List PV}
def zrA (S0:(Sl step)→(Sl step)→(Sl step)→Int→Int→Int) (zcv:(Sl step)) (za1:Int) (zni:(Sl step)) (znj:(Sl step)) (cv2:Int) (zoJ:Int):Int :=
  (cond (cv2 != (0:Int))
 cv2
 (S0 zni znj zcv za1 (w64 (zoJ+(1:Int)))))
def zrB (P0:(Sl step)→(Sl step)→(Sl step)→Int→Int→Bool) (zcv:(Sl step)) (za1:Int) (zni:(Sl step)) (znj:(Sl step)) (cv2:Int) (zoJ:Int):Bool :=
  (cond (cv2 != (0:Int))
 true
 (P0 zni znj zcv za1 (w64 (zoJ+(1:Int)))))
theorem zyV (hX0:zrz K X0 P0 S0) (hs:zrB P0 zcv za1 zni znj cv2 zoJ=true) (hk:K (zET (zrA S0 zcv za1 zni znj cv2 zoJ))) (zuN:znk=zg zae zni) (zuO:znl=zg zae znj):z107 K [1,0,1,0,0,1,1,0,0,1,1,1,1] [X0] ⟨[(0,zP (.sl zni.len 5 znk)),(1,zP (.sl znj.len 5 znl)),(2,zP (.fn 108 [] [])),(10,zI cv2),(11,zS zae 5 zcv),(12,zI za1),(13,zI zoJ)],[],[]⟩:=by subst zuN;subst zuO;exact za9 (by kernel_rfl) (zc hs hk (fun hs hk=>hk) (fun hs hk=>(hX0 hs hk rfl rfl rfl)))
def zrC (S0:(Sl step)→(Sl step)→(Sl step)→Int→Int→Int) (znf:(Sl step)) (zhQ:(Sl step)) (iv1:Int) (zcv:(Sl step)) (za1:Int) (zoI:Int) (zhq:Int) (zhr:Bool) (zhs:Int) (zht:Int) (zhu:Int):Int :=
  (zrA S0 zcv za1 znf zhQ (zGe (⟨(⟨zhq,zhr⟩:Use),zhs,zht,zhu⟩:step) (zhQ.get iv1.toNat)) zoI)
def zrD (P0:(Sl step)→(Sl step)→(Sl step)→Int→Int→Bool) (znf:(Sl step)) (zhQ:(Sl step)) (iv1:Int) (zcv:(Sl step)) (za1:Int) (zoI:Int) (zhq:Int) (zhr:Bool) (zhs:Int) (zht:Int) (zhu:Int):Bool :=
  (decide ((0≤iv1∧iv1 < (zhQ.len:Int))) &&
 (decide ((zGL (⟨(⟨zhq,zhr⟩:Use),zhs,zht,zhu⟩:step) (zhQ.get iv1.toNat)=true)) &&
 (zrB P0 zcv za1 znf zhQ (zGe (⟨(⟨zhq,zhr⟩:Use),zhs,zht,zhu⟩:step) (zhQ.get iv1.toNat)) zoI)))
theorem zyW (hX0:zrz K X0 P0 S0) (hs:zrD P0 znf zhQ iv1 zcv za1 zoI zhq zhr zhs zht zhu=true) (hk:K (zET (zrC S0 znf zhQ iv1 zcv za1 zoI zhq zhr zhs zht zhu))) (zuP:zng=zg zae znf) (zuQ:znh=zg zae zhQ) (zBe:zuM=zg zae zcv):z107 K [1,0,1,0,0,1,1,0,0,1,1] [X0] ⟨[(0,zP (.sl znf.len 5 zng)),(1,zP (.sl zhQ.len 5 znh)),(2,zP (.fn 108 [] [])),(7,zI iv1),(8,zp 8 0),(11,zP (.sl zcv.len 5 zuM)),(12,zI za1),(13,zI zoI)],[(8,.box 130 (zm (zae (⟨(⟨zhq,zhr⟩:Use),zhs,zht,zhu⟩:step))))],[]⟩:=by subst zuP;subst zuQ;subst zBe;exact za9 (by kernel_rfl) (zaX hs fun hc hs=>And.intro hc (zaX hs fun hc hs=>And.intro hc (zyV hX0 hs hk rfl rfl)))
def zrE (S0:(Sl step)→(Sl step)→(Sl step)→Int→Int→Int) (zdU:(Sl step)) (zdw:(Sl step)) (zaP:(Sl step)) (zbc:Int) (zbS:Int):Int :=
  (cond (decide (zbS < zbc))
 (cond (decide (zbS ≥ (zdw.len : Int)))
 (1:Int)
 (zrC S0 zdU zdw zbS zaP zbc zbS ((zaP.get zbS.toNat).Use.Tie) ((zaP.get zbS.toNat).Use.Back) ((zaP.get zbS.toNat).from_) ((zaP.get zbS.toNat).to) ((zaP.get zbS.toNat).length)))
 (cond (decide ((zdU.len : Int) < (zdw.len : Int)))
 (-1:Int)
 (0:Int)))
def zrF (P0:(Sl step)→(Sl step)→(Sl step)→Int→Int→Bool) (zdU:(Sl step)) (zdw:(Sl step)) (zaP:(Sl step)) (zbc:Int) (zbS:Int):Bool :=
  (cond (decide (zbS < zbc))
 (decide ((0≤zbS∧zbS < (zaP.len:Int))) &&
 (cond (decide (zbS ≥ (zdw.len : Int)))
 true
 (zrD P0 zdU zdw zbS zaP zbc zbS ((zaP.get zbS.toNat).Use.Tie) ((zaP.get zbS.toNat).Use.Back) ((zaP.get zbS.toNat).from_) ((zaP.get zbS.toNat).to) ((zaP.get zbS.toNat).length))))
 true)
def zrG:Nat→(Sl step)→(Sl step)→(Sl step)→Int→Int→Int:=lpO (fun _ _ _ _ _=>default) (zrE)
def zrH:Nat→(Sl step)→(Sl step)→(Sl step)→Int→Int→Bool:=lpO (fun _ _ _ _ _=>false) (zrF)
def zrI (zdU:(Sl step)) (zdw:(Sl step)) (zaP:(Sl step)) (zbc:Int) (zbS:Int):Int:=zrG Fuel zdU zdw zaP zbc zbS
def zrJ (zdU:(Sl step)) (zdw:(Sl step)) (zaP:(Sl step)) (zbc:Int) (zbS:Int):Bool:=zrH Fuel zdU zdw zaP zbc zbS
theorem zyX (hs:zrJ zdU zdw zaP zbc zbS=true) (hk:K (zET (zrI zdU zdw zaP zbc zbS))) (ziZ:zcV=zg zae zdU) (zi0:zcW=zg zae zdw) (zoK:zeU=zg zae zaP):z107 K [1,0,1,0] [] (zuL zdU zdw zaP zbc zbS zcV zcW zeU) :=
  zl (fun X=>z107 K [1,0,1,0,0] [X]) (by kernel_rfl) fun X0 hX =>
  (show ∀ k, zrz K X0 (zrH k) (zrG k) from zjV _ _ (zrF) (zrE) (zrz K X0)
 (by intro _ _ _ _ _ _ _ _ hs;exact absurd hs Bool.false_ne_true)
 (by intro P0 S0 hX0 zdU zdw zaP zbc zbS zcV zcW zeU hs hk ziZ zi0 zoK;subst ziZ;subst zi0;subst zoK;exact hX _ (za9 (by kernel_rfl) (zc hs hk (fun hs hk=>(zaX hs fun hc hs=>And.intro hc (zc hs hk (fun hs hk=>hk) (fun hs hk=>(zyW hX0 hs hk rfl rfl rfl))))) (fun hs hk=>(zt hk (fun hk=>hk) (fun hk=>hk))))))) _ hs hk ziZ zi0 zoK
def zDG (s1_a0:(Sl step)) (s2_a1:(Sl step)):Int :=
  (zrI s1_a0 s2_a1 s1_a0 (s1_a0.len:Int) (0:Int))
def zGf (s1_a0:(Sl step)) (s2_a1:(Sl step)):Bool :=
  (zrJ s1_a0 s2_a1 s1_a0 (s1_a0.len:Int) (0:Int))
end
theorem zIr (s1_a0:(Sl step)) (s2_a1:(Sl step)) (K:List PA→Prop) (hs:zGf s1_a0 s2_a1=true) (hk:K (zET (zDG s1_a0 s2_a1))):vcFun Tryd.prog zHS zuK 107 [.one (.sl s1_a0.len 5 (fun i=>zae (s1_a0.get i))),.one (.sl s2_a1.len 5 (fun i=>zae (s2_a1.get i))),.one (.fn 108 [] [])] K :=
  za9 (by kernel_rfl) (zyX hs hk rfl rfl rfl)
def zuR : List PA → COut
  | [.one (.sl a0_n a0_s a0_g),.one (.sl a1_n a1_s a1_g),.one (.fn 108 [] [])]=>.det (IsE zae 5 a0_s a0_g∧IsE zae 5 a1_s a1_g∧zGf (⟨a0_n,zgb a0_g⟩:(Sl step)) (⟨a1_n,zgb a1_g⟩:(Sl step))=true) [.one (.int .i64 (zDG (⟨a0_n,zgb a0_g⟩:(Sl step)) (⟨a1_n,zgb a1_g⟩:(Sl step))))]
  | _=>.no
theorem zBf:zan Tryd.prog 107:=⟨_,rfl,rfl,by kernel_rfl⟩
theorem zGN:Ok Tryd.prog 107 zuR:=zbr zES zBf fun args K h=>by
  unfold zuR at h
  split at h
  · rename_i a0_n a0_s a0_g a1_n a1_s a1_g
    obtain ⟨⟨⟨rfl,a0_f,rfl⟩,⟨rfl,a1_f,rfl⟩,hs⟩,hk⟩:=h
    try rw [zdM a0_f] at hs
    try rw [zdM a0_f] at hk
    try rw [zdM a1_f] at hs
    try rw [zdM a1_f] at hk
    exact ⟨(fun _ _=>[]),(fun _=>false),zuK,zIr (⟨a0_n,a0_f⟩:(Sl step)) (⟨a1_n,a1_f⟩:(Sl step)) K hs hk⟩
  · exact h.elim
abbrev T89:Tabs:=((((Tabs.nil.addF 93 zm3).addF 106 zuD).addF 107 zuR).addI 110 zm5)
theorem zGO:TabsOk Tryd.prog T89:=((((TabsOk.nil.addF zDF).addF zGE).addF zGN).addI zsq)
abbrev G89:Ctrs:=csm T89 (fun _ _=>[]) (fun _=>false)
def zaJ:Ann:=⟨148,[(0,⟨[0],[],[],[],[],[],[]⟩),(1,⟨[0,3],[21],[],[],[],[],[]⟩),(2,⟨[0,3,23,24],[21],[],[],[],[],[]⟩),(3,⟨[0,3,23,24,25],[21],[],[],[],[],[]⟩),(4,⟨[0,3,4,23,24],[21],[],[],[],[],[]⟩),(5,⟨[0,3,23,24],[21],[],[],[],[],[]⟩),(6,⟨[0,3,23,24],[21],[],[],[],[],[]⟩),(7,⟨[0,3],[21],[],[],[],[],[]⟩),(8,⟨[0,3,5],[21],[],[],[],[],[]⟩),(9,⟨[0,3,5,45],[21],[],[],[],[],[]⟩),(10,⟨[0,3,5],[21],[],[],[],[],[]⟩),(11,⟨[0,3,5,48,49,50],[21],[],[],[],[],[]⟩),(12,⟨[0,3,5,48,49,50,51],[21],[],[],[],[],[]⟩),(13,⟨[0,3,5,6,7,48,49,50],[21],[],[],[],[],[]⟩),(14,⟨[0,3,5,48,49,50,62],[21],[],[],[],[],[]⟩),(15,⟨[0,3,5,48,49,50],[21],[],[],[],[],[]⟩),(16,⟨[0,3,5,8],[21],[],[],[],[],[]⟩),(17,⟨[0,5,8,64,65,66],[21],[],[],[],[],[]⟩),(18,⟨[0,5,8,64,65,66,67],[21],[],[],[],[],[]⟩),(19,⟨[0,5,8,9,10,64,65,66],[9,10,21],[],[],[],[],[]⟩),(20,⟨[0,5,8,9,10,64,65,66,78],[9,10,21],[],[],[],[],[]⟩),(21,⟨[0,5,8,9,10,11,64,65,66],[9,10,11,21],[],[],[],[],[]⟩),(22,⟨[0,5,8,9,10,11,12,13,64,65,66],[9,10,11,12,13,21],[],[],[],[],[]⟩),(23,⟨[0,5,8,9,10,11,12,13,14,64,65,66],[9,10,11,12,13,14,21],[],[],[],[],[]⟩),(24,⟨[0,5,8,9,10,11,12,13,14,64,65,66,83],[9,10,11,12,13,14,21,129],[],[],[],[],[]⟩),(25,⟨[0,5,8,9,10,11,12,13,14,64,65,66],[9,10,11,12,13,14,21,129],[],[],[],[],[]⟩),(26,⟨[0,5,8,9,10,11,12,13,14,64,65,66,87],[9,10,11,12,13,14,21,129],[],[],[],[],[]⟩),(27,⟨[0,5,8,9,10,11,12,13,14,15,64,65,66,87],[9,10,11,12,13,14,15,21,129],[],[],[],[],[]⟩),(28,⟨[0,5,8,9,10,11,12,13,14,15,64,65,66,87,125],[9,10,11,12,13,14,15,21,129],[],[],[],[],[]⟩),(29,⟨[0,5,8,9,10,11,12,13,14,15,64,65,66],[9,10,11,12,13,14,15,21,129],[],[],[],[],[]⟩),(30,⟨[0,5,8,9,10,11,12,13,14,64,65,66],[9,10,11,12,13,14,21,129],[],[],[],[],[]⟩),(31,⟨[0,5,8,9,10,11,12,13,64,65,66,136],[9,10,11,12,13,21,129],[],[],[],[],[]⟩),(32,⟨[0,5,8,9,10,11,12,13,14,64,65,66],[9,10,11,12,13,14,21,129],[],[],[],[],[]⟩),(33,⟨[0,5,8,11,64,65,66,144],[11,21,129],[],[],[],[],[]⟩),(34,⟨[0,5,8,64,65,66],[21,129],[],[],[],[],[]⟩),(35,⟨[0,5,8,64,65,66],[21,129],[],[],[],[],[]⟩),(36,⟨[2],[],[],[],[],[],[]⟩)],
 [(3,⟨[0,3,23,24],[21],[],[],[],[],[]⟩),(9,⟨[0,3,5],[21],[],[],[],[],[]⟩),(12,⟨[0,3,5,48,49,50],[21],[],[],[],[],[]⟩),(18,⟨[0,5,8,64,65,66],[21],[],[],[],[],[(8,1005,fun _=>zae default)]⟩),(24,⟨[0,5,8,9,10,11,12,13,14,64,65,66],[9,10,11,12,13,14,21,129],[],[(11,0,129,130,fun _=>zae default)],[],[],[]⟩),(27,⟨[0,5,8,9,10,11,12,13,14,64,65,66,87],[9,10,11,12,13,14,21,129],[],[],[],[],[]⟩)],
 [(7,⟨[0,3],[21],[],[],[],[],[]⟩),(16,⟨[0,3,5],[21],[],[],[],[],[]⟩),(34,⟨[0,5,8,11,64,65,66,144],[11,21,129],[],[],[],[],[]⟩)],
 [],[]⟩
def zi1 (w:web) (zbg:Int) (zeV:Nat) (zch:Nat→List PV):St:=⟨[(0,.one (.c (.p (.fp (zat w) 0)))),(3,.one (.c (.vec 21))),(23,.one (.c (.p (.int .i64 (w.Net.Nodes.toNat:Int))))),(24,.one (.c (.p (.int .i64 zbg))))],[(21,.vec 159 1 24 zeV zch)],[]⟩
def zi2 (K:List PA→Prop) (w:web) (zbg:Int) (zeV:Nat) (zch:Nat→List PV):Prop:=vc Tryd.prog G89 zaJ (cdF Tryd.f89 [1,0,1,0,1,0]) (zai 0 (sqK Tryd.prog G89 zaJ (cdF Tryd.f89 [1,0,1,1]) (zb9 (za8 Tryd.prog Tryd.f89 K)))) (zi1 w zbg zeV zch)
def zEU (w:web) (zoL:Nat) (zgU:Nat→List PV):St:=⟨[(0,.one (.c (.p (.fp (zat w) 0)))),(3,.one (.c (.vec 21)))],[(21,.vec 159 1 24 zoL zgU)],[]⟩
def zlL (K:List PA→Prop) (w:web) (zoL:Nat) (zgU:Nat→List PV):Prop:=vc Tryd.prog G89 zaJ (cdF Tryd.f89 [1,0,1,1]) (zb9 (za8 Tryd.prog Tryd.f89 K)) (zEU w zoL zgU)
def zhv (w:web) (zaB:(Sl (Sl Tab))) (zaZ:Int):St:=⟨[(0,.one (.c (.p (.fp (zat w) 0)))),(3,.one (.c (.vec 21))),(5,.one (.c (.p (.int .i64 zaZ))))],[(21,.vec 159 1 24 zaB.len (fun i=>zax (zaB.get i)))],[]⟩
def zi3 (K:List PA→Prop) (w:web) (zaB:(Sl (Sl Tab))) (zaZ:Int):Prop:=vc Tryd.prog G89 zaJ (cdF Tryd.f89 [1,0,1,1,1,1,0,1,0]) (zai 2 (sqK Tryd.prog G89 zaJ (cdF Tryd.f89 [1,0,1,1,1,1,1]) (zb9 (za8 Tryd.prog Tryd.f89 K)))) (zhv w zaB zaZ)
def zi4 (w:web) (zaB:(Sl (Sl Tab))) (zaS:Int) (zbn:Int):St:=⟨[(0,.one (.c (.p (.fp (zat w) 0)))),(3,.one (.c (.vec 21))),(5,.one (.c (.p (.int .i64 zaS)))),(48,.one (.c (.vec 21))),(49,.one (.c (.p (.int .i64 (zaB.len:Int))))),(50,.one (.c (.p (.int .i64 zbn))))],[(21,.vec 159 1 24 zaB.len (fun i=>zax (zaB.get i)))],[]⟩
def zi5 (K:List PA→Prop) (X2:St→Prop) (w:web) (zaB:(Sl (Sl Tab))) (zaS:Int) (zbn:Int):Prop:=vc Tryd.prog G89 zaJ (cdF Tryd.f89 [1,0,1,1,1,1,0,1,0,0,1,0,0,1,0]) (zai 4 (zai 3 (sqK Tryd.prog G89 zaJ (cdF Tryd.f89 [1,0,1,1,1,1,0,1,0,0,1,1]) (zba Tryd.prog zaJ 9 X2 (zai 2 (sqK Tryd.prog G89 zaJ (cdF Tryd.f89 [1,0,1,1,1,1,1]) (zb9 (za8 Tryd.prog Tryd.f89 K)))))))) (zi4 w zaB zaS zbn)
def zEV (w:web) (zc7:Int) (zoM:Nat) (zgV:Nat→List PV):St:=⟨[(0,.one (.c (.p (.fp (zat w) 0)))),(3,.one (.c (.vec 21))),(5,.one (.c (.p (.int .i64 zc7))))],[(21,.vec 159 1 24 zoM zgV)],[]⟩
def zi6 (K:List PA→Prop) (w:web) (zc7:Int) (zoM:Nat) (zgV:Nat→List PV):Prop:=vc Tryd.prog G89 zaJ (cdF Tryd.f89 [1,0,1,1,1,1,1]) (zb9 (za8 Tryd.prog Tryd.f89 K)) (zEV w zc7 zoM zgV)
def zes (w:web) (zak:(Sl (Sl Tab))) (zaH:Int) (zaw:Bool) (zdN:Nat) (zbd:Nat→List PV) (zaN:Int) (zeW:Nat) (zbB:Nat→List PV):St:=⟨[(0,.one (.c (.p (.fp (zat w) 0)))),(5,.one (.c (.p (.int .i64 zaH)))),(8,.one (.c (.p (.ns zaw zdN 5 zbd)))),(64,.one (.c (.vec 21))),(65,.one (.c (.p (.int .i64 (zak.len:Int))))),(66,.one (.c (.p (.int .i64 zaN))))],[(21,.vec 159 1 24 zeW zbB)],[]⟩
def zi7 (K:List PA→Prop) (w:web) (zak:(Sl (Sl Tab))) (zaH:Int) (zaw:Bool) (zdN:Nat) (zbd:Nat→List PV) (zaN:Int) (zeW:Nat) (zbB:Nat→List PV):Prop:=vc Tryd.prog G89 zaJ (cdF Tryd.f89 [1,0,1,1,1,1,1,1,0,1,0]) (zai 6 (sqK Tryd.prog G89 zaJ (cdF Tryd.f89 [1,0,1,1,1,1,1,1,1]) (zb9 (za8 Tryd.prog Tryd.f89 K)))) (zes w zak zaH zaw zdN zbd zaN zeW zbB)
def zgr (w:web) (zak:(Sl (Sl Tab))) (zaW:Int) (zau:Bool) (zdO:Nat) (zbE:Nat→List PV) (zbF:Int) (iv6:Int) (znm:Nat) (zdV:Nat→List PV) (zdy:Int) (zaE:Int) (kv6:Int) (zeX:Nat) (zbV:Nat→List PV) (zdP:Nat) (zbG:Nat→List PV):St:=⟨[(0,.one (.c (.p (.fp (zat w) 0)))),(5,.one (.c (.p (.int .i64 zaW)))),(8,.one (.c (.p (.ns zau zdO 5 zbE)))),(9,.one (.c (.ptr 9 0))),(10,.one (.c (.ptr 10 0))),(11,.one (.c (.ptr 11 0))),(12,.one (.c (.ptr 12 0))),(13,.one (.c (.ptr 13 0))),(14,.one (.c (.ptr 14 0))),(64,.one (.c (.vec 21))),(65,.one (.c (.p (.int .i64 (zak.len:Int))))),(66,.one (.c (.p (.int .i64 zbF))))],[(9,.box 3 [.p (.int .i64 iv6)]),(10,.box 159 [.p (.sl znm 80 zdV)]),(11,.box 127 [.vec 129]),(12,.box 3 [.p (.int .i64 zdy)]),(13,.box 3 [.p (.int .i64 zaE)]),(14,.box 3 [.p (.int .i64 kv6)]),(21,.vec 159 1 24 zeX zbV),(129,.vec 130 5 40 zdP zbG)],[]⟩
def zi8 (K:List PA→Prop) (X5:St→Prop) (w:web) (zak:(Sl (Sl Tab))) (zaW:Int) (zau:Bool) (zdO:Nat) (zbE:Nat→List PV) (zbF:Int) (iv6:Int) (znm:Nat) (zdV:Nat→List PV) (zdy:Int) (zaE:Int) (kv6:Int) (zeX:Nat) (zbV:Nat→List PV) (zdP:Nat) (zbG:Nat→List PV):Prop:=vc Tryd.prog G89 zaJ (cdF Tryd.f89 [1,0,1,1,1,1,1,1,0,1,0,0,1,1,0,0,1,1,1,1,0,1,0]) (zai 8 (sqK Tryd.prog G89 zaJ (cdF Tryd.f89 [1,0,1,1,1,1,1,1,0,1,0,0,1,1,0,0,1,1,1,1,1]) (zai 7 (sqK Tryd.prog G89 zaJ (cdF Tryd.f89 [1,0,1,1,1,1,1,1,0,1,0,0,1,1,1]) (zba Tryd.prog zaJ 18 X5 (zai 6 (sqK Tryd.prog G89 zaJ (cdF Tryd.f89 [1,0,1,1,1,1,1,1,1]) (zb9 (za8 Tryd.prog Tryd.f89 K))))))))) (zgr w zak zaW zau zdO zbE zbF iv6 znm zdV zdy zaE kv6 zeX zbV zdP zbG)
def zet (w:web) (zak:(Sl (Sl Tab))) (zaF:Int) (zam:Bool) (zdQ:Nat) (zbO:Nat→List PV) (za6:Int) (iv7:Int) (znn:Nat) (zeB:Nat→List PV) (zci:Int) (zal:Int) (kv7:Int) (zeY:Nat) (zcj:Nat→List PV) (zdR:Nat) (zbP:Nat→List PV):St:=⟨[(0,.one (.c (.p (.fp (zat w) 0)))),(5,.one (.c (.p (.int .i64 zaF)))),(8,.one (.c (.p (.ns zam zdQ 5 zbO)))),(9,.one (.c (.ptr 9 0))),(10,.one (.c (.ptr 10 0))),(11,.one (.c (.ptr 11 0))),(12,.one (.c (.ptr 12 0))),(13,.one (.c (.ptr 13 0))),(14,.one (.c (.ptr 14 0))),(64,.one (.c (.vec 21))),(65,.one (.c (.p (.int .i64 (zak.len:Int))))),(66,.one (.c (.p (.int .i64 za6)))),(87,.one (.c (.p (.fn 110 [] [.fp [.fp (zat w) 0] 0]))))],[(9,.box 3 [.p (.int .i64 iv7)]),(10,.box 159 [.p (.sl znn 80 zeB)]),(11,.box 127 [.vec 129]),(12,.box 3 [.p (.int .i64 zci)]),(13,.box 3 [.p (.int .i64 zal)]),(14,.box 3 [.p (.int .i64 kv7)]),(21,.vec 159 1 24 zeY zcj),(129,.vec 130 5 40 zdR zbP)],[]⟩
def zi9 (K:List PA→Prop) (X5:St→Prop) (X6:St→Prop) (w:web) (zak:(Sl (Sl Tab))) (zaF:Int) (zam:Bool) (zdQ:Nat) (zbO:Nat→List PV) (za6:Int) (iv7:Int) (znn:Nat) (zeB:Nat→List PV) (zci:Int) (zal:Int) (kv7:Int) (zeY:Nat) (zcj:Nat→List PV) (zdR:Nat) (zbP:Nat→List PV):Prop:=vc Tryd.prog G89 zaJ (cdF Tryd.f89 [1,0,1,1,1,1,1,1,0,1,0,0,1,1,0,0,1,1,1,1,0,1,0,0,1,0,0,1,0]) (zai 10 (zai 9 (sqK Tryd.prog G89 zaJ (cdF Tryd.f89 [1,0,1,1,1,1,1,1,0,1,0,0,1,1,0,0,1,1,1,1,0,1,0,0,1,1]) (zba Tryd.prog zaJ 24 X6 (zai 8 (sqK Tryd.prog G89 zaJ (cdF Tryd.f89 [1,0,1,1,1,1,1,1,0,1,0,0,1,1,0,0,1,1,1,1,1]) (zai 7 (sqK Tryd.prog G89 zaJ (cdF Tryd.f89 [1,0,1,1,1,1,1,1,0,1,0,0,1,1,1]) (zba Tryd.prog zaJ 18 X5 (zai 6 (sqK Tryd.prog G89 zaJ (cdF Tryd.f89 [1,0,1,1,1,1,1,1,1]) (zb9 (za8 Tryd.prog Tryd.f89 K))))))))))))) (zet w zak zaF zam zdQ zbO za6 iv7 znn zeB zci zal kv7 zeY zcj zdR zbP)
def zEW (w:web) (zak:(Sl (Sl Tab))) (zcE:Int) (zbY:Bool) (zlM:Nat) (zfe:Nat→List PV) (zd9:Int) (zdx:Bool) (zoN:Nat) (zgW:Nat→List PV) (zlN:Nat) (zff:Nat→List PV):St:=⟨[(0,.one (.c (.p (.fp (zat w) 0)))),(5,.one (.c (.p (.int .i64 zcE)))),(8,.one (.c (.p (.ns zbY zlM 5 zfe)))),(11,.one (.c (.ptr 11 0))),(64,.one (.c (.vec 21))),(65,.one (.c (.p (.int .i64 (zak.len:Int))))),(66,.one (.c (.p (.int .i64 zd9)))),(144,.one (.c (.p (.bool zdx))))],[(11,.box 127 [.vec 129]),(21,.vec 159 1 24 zoN zgW),(129,.vec 130 5 40 zlN zff)],[]⟩
def zja (K:List PA→Prop) (X5:St→Prop) (w:web) (zak:(Sl (Sl Tab))) (zcE:Int) (zbY:Bool) (zlM:Nat) (zfe:Nat→List PV) (zd9:Int) (zdx:Bool) (zoN:Nat) (zgW:Nat→List PV) (zlN:Nat) (zff:Nat→List PV):Prop:=vc Tryd.prog G89 zaJ (cdF Tryd.f89 [1,0,1,1,1,1,1,1,0,1,0,0,1,1,0,0,1,1,1,1,1,1]) (zai 7 (sqK Tryd.prog G89 zaJ (cdF Tryd.f89 [1,0,1,1,1,1,1,1,0,1,0,0,1,1,1]) (zba Tryd.prog zaJ 18 X5 (zai 6 (sqK Tryd.prog G89 zaJ (cdF Tryd.f89 [1,0,1,1,1,1,1,1,1]) (zb9 (za8 Tryd.prog Tryd.f89 K))))))) (zEW w zak zcE zbY zlM zfe zd9 zdx zoN zgW zlN zff)
theorem zBg (w : web) (K : List PA → Prop) :
  vcFun Tryd.prog G89 zaJ 89 [.one (.fp (zat w) 0)] K =
  (((0≤w.Net.Nodes∧w.Net.Nodes=w.Net.Nodes∧w.Net.Nodes≤1000000)) ∧
 (zi2 K w (0:Int) w.Net.Nodes.toNat (fun _=>(zax (⟨0,fun _=>(fun _=>(0:Int))⟩:(Sl Tab)))))):=by kernel_rfl
def zno (K:List PA→Prop) (X0:St→Prop) (w:web) (zbg:Int) (zbJ:(Sl (Sl Tab))):Prop :=
  (zbA (decide (zbg < (w.Net.Nodes.toNat : Int)))
 ((IsE enc_40 4 4 (fun i=>enc_40 (w.Net.Ties.get i))∧((false,1,false,[none]):MQ)=(false,1,false,[none])∧(zEK w zbg w.Net.Nodes=true)) ∧
 (((0≤zbg∧zbg < (zbJ.len:Int))) ∧
 (((zbg.toNat < zbJ.len)) ∧
 (X0 (zi1 w (w64 (zbg+(1:Int))) zbJ.len (zhE zbg.toNat 0 (fun i=>zax (zbJ.get i)) (zax (zuC w zbg w.Net.Nodes))))))))
 (zlL K w zbJ.len (fun i=>zax (zbJ.get i))))
theorem zoO (K : List PA → Prop) (X0 : St → Prop) (w : web) (zbg : Int) (zbJ : (Sl (Sl Tab))) :
  vc Tryd.prog G89 zaJ (cd (cdF Tryd.f89 [1,0,1,0,1,0]) [0]) (zba Tryd.prog zaJ 3 X0 (zai 0 (sqK Tryd.prog G89 zaJ (cdF Tryd.f89 [1,0,1,1]) (zb9 (za8 Tryd.prog Tryd.f89 K))))) (zi1 w zbg zbJ.len (fun i=>zax (zbJ.get i))) =
  zno K X0 w zbg zbJ:=by kernel_rfl
theorem zuS (K : List PA → Prop) (w : web) (zbg : Int) (zeV : Nat) (zch : Nat → List PV)
  (h:∀ X0:St→Prop,(∀ (zbg:Int) (zbJ:(Sl (Sl Tab))),zno K X0 w zbg zbJ→X0 (zi1 w zbg zbJ.len (fun i=>zax (zbJ.get i))))→X0 (zi1 w zbg zeV zch)) :
  zi2 K w zbg zeV zch:=by
  have e:zi2 K w zbg zeV zch=(∀ X:St→Prop,(∀ s,vc Tryd.prog G89 zaJ (cd (cdF Tryd.f89 [1,0,1,0,1,0]) [0]) (zba Tryd.prog zaJ 3 X (zai 0 (sqK Tryd.prog G89 zaJ (cdF Tryd.f89 [1,0,1,1]) (zb9 (za8 Tryd.prog Tryd.f89 K))))) s→X s)→X (zi1 w zbg zeV zch)):=by kernel_rfl
  refine za9 e ?_
  intro X hX
  refine h X ?_
  intro zbg zbJ hs
  refine hX _ ?_
  have e2:=zoO K X w zbg zbJ
  rw [e2]
  exact hs
theorem zBh (K : List PA → Prop) (w : web) (zaB : (Sl (Sl Tab))) :
  zlL K w zaB.len (fun i=>zax (zaB.get i)) =
  (zi3 K w zaB (1:Int)):=by kernel_rfl
def znp (K:List PA→Prop) (X2:St→Prop) (w:web) (zaB:(Sl (Sl Tab))) (zaZ:Int):Prop :=
  (zbA (decide (zaZ < w.Net.Nodes))
 (zi5 K X2 w zaB zaZ (0:Int))
 (zi6 K w zaZ zaB.len (fun i=>zax (zaB.get i))))
theorem zoP (K : List PA → Prop) (X2 : St → Prop) (w : web) (zaB : (Sl (Sl Tab))) (zaZ : Int) :
  vc Tryd.prog G89 zaJ (cd (cdF Tryd.f89 [1,0,1,1,1,1,0,1,0]) [0]) (zba Tryd.prog zaJ 9 X2 (zai 2 (sqK Tryd.prog G89 zaJ (cdF Tryd.f89 [1,0,1,1,1,1,1]) (zb9 (za8 Tryd.prog Tryd.f89 K))))) (zhv w zaB zaZ) =
  znp K X2 w zaB zaZ:=by kernel_rfl
theorem zuT (K : List PA → Prop) (w : web) (zaB : (Sl (Sl Tab))) (zaZ : Int)
  (h:∀ X2:St→Prop,(∀ (zaZ:Int),znp K X2 w zaB zaZ→X2 (zhv w zaB zaZ))→X2 (zhv w zaB zaZ)) :
  zi3 K w zaB zaZ:=by
  have e:zi3 K w zaB zaZ=(∀ X:St→Prop,(∀ s,vc Tryd.prog G89 zaJ (cd (cdF Tryd.f89 [1,0,1,1,1,1,0,1,0]) [0]) (zba Tryd.prog zaJ 9 X (zai 2 (sqK Tryd.prog G89 zaJ (cdF Tryd.f89 [1,0,1,1,1,1,1]) (zb9 (za8 Tryd.prog Tryd.f89 K))))) s→X s)→X (zhv w zaB zaZ)):=by kernel_rfl
  refine za9 e ?_
  intro X hX
  refine h X ?_
  intro zaZ hs
  refine hX _ ?_
  have e2:=zoP K X w zaB zaZ
  rw [e2]
  exact hs
def znq (K:List PA→Prop) (X2:St→Prop) (X3:St→Prop) (w:web) (zaB:(Sl (Sl Tab))) (zaS:Int) (zbn:Int):Prop :=
  (zbA (decide (zbn < (zaB.len : Int)))
 (((0≤zbn∧zbn < (zaB.len:Int))) ∧
 (((zbn.toNat < zaB.len)) ∧
 (((0≤zaS∧zaS < ((zaB.get zbn.toNat).len:Int))) ∧
 (((0≤zbn∧zbn < (40:Int))) ∧
 (zbA (decide ((tg 80 ((zaB.get zbn.toNat).get zaS.toNat) (0 + zbn.toNat * 2 + 0)) < (0:Int)))
 (zi6 K w zaS zaB.len (fun i=>zax (zaB.get i)))
 (X3 (zi4 w zaB zaS (w64 (zbn+(1:Int))))))))))
 (X2 (zhv w zaB (w64 (zaS+(1:Int))))))
theorem zoQ (K : List PA → Prop) (X2 : St → Prop) (X3 : St → Prop) (w : web) (zaB : (Sl (Sl Tab))) (zaS : Int) (zbn : Int) :
  vc Tryd.prog G89 zaJ (cd (cdF Tryd.f89 [1,0,1,1,1,1,0,1,0,0,1,0,0,1,0]) [0]) (zba Tryd.prog zaJ 12 X3 (zai 4 (zai 3 (sqK Tryd.prog G89 zaJ (cdF Tryd.f89 [1,0,1,1,1,1,0,1,0,0,1,1]) (zba Tryd.prog zaJ 9 X2 (zai 2 (sqK Tryd.prog G89 zaJ (cdF Tryd.f89 [1,0,1,1,1,1,1]) (zb9 (za8 Tryd.prog Tryd.f89 K))))))))) (zi4 w zaB zaS zbn) =
  znq K X2 X3 w zaB zaS zbn:=by kernel_rfl
theorem zuU (K : List PA → Prop) (X2 : St → Prop) (w : web) (zaB : (Sl (Sl Tab))) (zaS : Int) (zbn : Int)
  (h:∀ X3:St→Prop,(∀ (zaS:Int) (zbn:Int),znq K X2 X3 w zaB zaS zbn→X3 (zi4 w zaB zaS zbn))→X3 (zi4 w zaB zaS zbn)) :
  zi5 K X2 w zaB zaS zbn:=by
  have e:zi5 K X2 w zaB zaS zbn=(∀ X:St→Prop,(∀ s,vc Tryd.prog G89 zaJ (cd (cdF Tryd.f89 [1,0,1,1,1,1,0,1,0,0,1,0,0,1,0]) [0]) (zba Tryd.prog zaJ 12 X (zai 4 (zai 3 (sqK Tryd.prog G89 zaJ (cdF Tryd.f89 [1,0,1,1,1,1,0,1,0,0,1,1]) (zba Tryd.prog zaJ 9 X2 (zai 2 (sqK Tryd.prog G89 zaJ (cdF Tryd.f89 [1,0,1,1,1,1,1]) (zb9 (za8 Tryd.prog Tryd.f89 K))))))))) s→X s)→X (zi4 w zaB zaS zbn)):=by kernel_rfl
  refine za9 e ?_
  intro X hX
  refine h X ?_
  intro zaS zbn hs
  refine hX _ ?_
  have e2:=zoQ K X2 X w zaB zaS zbn
  rw [e2]
  exact hs
theorem zBi (K : List PA → Prop) (w : web) (zc7 : Int) (zak : (Sl (Sl Tab))) :
  zi6 K w zc7 zak.len (fun i=>zax (zak.get i)) =
  (zi7 K w zak zc7 true 0 (fun i=>zae ((fun _=>default) i)) (0:Int) zak.len (fun i=>zax (zak.get i))):=by kernel_rfl
def znr (K:List PA→Prop) (X5:St→Prop) (w:web) (zak:(Sl (Sl Tab))) (zaH:Int) (zaw:Bool) (zaK:(Sl step)) (zaN:Int) (za7:(Sl (Sl Tab))):Prop :=
  (zbA (decide (zaN < (zak.len : Int)))
 (((0≤zaN∧zaN < (za7.len:Int))) ∧
 (((zaN.toNat < za7.len)) ∧
 (((0≤zaH∧zaH < ((za7.get zaN.toNat).len:Int))) ∧
 (((0≤zaN∧zaN < (40:Int))) ∧
 (zbA (decide ((tg 80 ((za7.get zaN.toNat).get zaH.toNat) (0 + zaN.toNat * 2 + 0)) ≥ (0:Int)))
 (X5 (zes w zak zaH zaw zaK.len (fun i=>zae (zaK.get i)) (w64 (zaN+(1:Int))) za7.len (fun i=>zax (za7.get i))))
 (zi8 K X5 w zak zaH zaw zaK.len (fun i=>zae (zaK.get i)) zaN zaN ((za7.get zaN.toNat).len) (fun i=>zad ((za7.get zaN.toNat).get i)) zaN (0:Int) (w64 (zaH - (1:Int))) za7.len (fun i=>zax (za7.get i)) 0 (fun i=>zae ((fun _=>default) i))))))))
 (K [.one (.sl zaK.len 5 (fun i=>zae (zaK.get i)))]))
theorem zoR (K : List PA → Prop) (X5 : St → Prop) (w : web) (zak : (Sl (Sl Tab))) (zaH : Int) (zaw : Bool) (zaK : (Sl step)) (zaN : Int) (za7 : (Sl (Sl Tab))) :
  vc Tryd.prog G89 zaJ (cd (cdF Tryd.f89 [1,0,1,1,1,1,1,1,0,1,0]) [0]) (zba Tryd.prog zaJ 18 X5 (zai 6 (sqK Tryd.prog G89 zaJ (cdF Tryd.f89 [1,0,1,1,1,1,1,1,1]) (zb9 (za8 Tryd.prog Tryd.f89 K))))) (zes w zak zaH zaw zaK.len (fun i=>zae (zaK.get i)) zaN za7.len (fun i=>zax (za7.get i))) =
  znr K X5 w zak zaH zaw zaK zaN za7:=by kernel_rfl
theorem zuV (K : List PA → Prop) (w : web) (zak : (Sl (Sl Tab))) (zaH : Int) (zaw : Bool) (zdN : Nat) (zbd : Nat → List PV) (zaN : Int) (zeW : Nat) (zbB : Nat → List PV)
  (h:∀ X5:St→Prop,(∀ (zaH:Int) (zaw:Bool) (zaK:(Sl step)) (zaN:Int) (za7:(Sl (Sl Tab))),znr K X5 w zak zaH zaw zaK zaN za7→X5 (zes w zak zaH zaw zaK.len (fun i=>zae (zaK.get i)) zaN za7.len (fun i=>zax (za7.get i))))→X5 (zes w zak zaH zaw zdN zbd zaN zeW zbB)) :
  zi7 K w zak zaH zaw zdN zbd zaN zeW zbB:=by
  have e:zi7 K w zak zaH zaw zdN zbd zaN zeW zbB=(∀ X:St→Prop,(∀ s,vc Tryd.prog G89 zaJ (cd (cdF Tryd.f89 [1,0,1,1,1,1,1,1,0,1,0]) [0]) (zba Tryd.prog zaJ 18 X (zai 6 (sqK Tryd.prog G89 zaJ (cdF Tryd.f89 [1,0,1,1,1,1,1,1,1]) (zb9 (za8 Tryd.prog Tryd.f89 K))))) s→X s)→X (zes w zak zaH zaw zdN zbd zaN zeW zbB)):=by kernel_rfl
  refine za9 e ?_
  intro X hX
  refine h X ?_
  intro zaH zaw zaK zaN za7 hs
  refine hX _ ?_
  have e2:=zoR K X w zak zaH zaw zaK zaN za7
  rw [e2]
  exact hs
def zns (K:List PA→Prop) (X5:St→Prop) (X6:St→Prop) (w:web) (zak:(Sl (Sl Tab))) (zaW:Int) (zau:Bool) (zaI:(Sl step)) (zbF:Int) (iv6:Int) (hv6:(Sl Tab)) (zdy:Int) (zaE:Int) (kv6:Int) (zbw:(Sl (Sl Tab))) (zaL:(Sl step)):Prop :=
  (zbA (decide (kv6 ≥ (0:Int)))
 ((IsE enc_40 4 4 (fun i=>enc_40 (w.Net.Ties.get i))∧((false,1,false,[none]):MQ)=(false,1,false,[none])) ∧
 (zi9 K X5 X6 w zak zaW zau zaI.len (fun i=>zae (zaI.get i)) zbF iv6 hv6.len (fun i=>zad (hv6.get i)) zdy zaE kv6 zbw.len (fun i=>zax (zbw.get i)) zaL.len (fun i=>zae (zaL.get i))))
 (((zau=true∨zaI.len ≠ 0)) ∧
 (zbA zau
 (zja K X5 w zak zaW zau zaI.len (fun i=>zae (zaI.get i)) zbF true zbw.len (fun i=>zax (zbw.get i)) zaL.len (fun i=>zae (zaL.get i)))
 ((IsE zae 5 5 (fun i=>zae (zaL.get i))∧IsE zae 5 5 (fun i=>zae (zaI.get i))∧(zGf zaL zaI=true)) ∧
 (zja K X5 w zak zaW zau zaI.len (fun i=>zae (zaI.get i)) zbF (decide ((zDG zaL zaI) < (0:Int))) zbw.len (fun i=>zax (zbw.get i)) zaL.len (fun i=>zae (zaL.get i)))))))
theorem zoS (K : List PA → Prop) (X5 : St → Prop) (X6 : St → Prop) (w : web) (zak : (Sl (Sl Tab))) (zaW : Int) (zau : Bool) (zaI : (Sl step)) (zbF : Int) (iv6 : Int) (hv6 : (Sl Tab)) (zdy : Int) (zaE : Int) (kv6 : Int) (zbw : (Sl (Sl Tab))) (zaL : (Sl step)) :
  vc Tryd.prog G89 zaJ (cd (cdF Tryd.f89 [1,0,1,1,1,1,1,1,0,1,0,0,1,1,0,0,1,1,1,1,0,1,0]) [0]) (zba Tryd.prog zaJ 24 X6 (zai 8 (sqK Tryd.prog G89 zaJ (cdF Tryd.f89 [1,0,1,1,1,1,1,1,0,1,0,0,1,1,0,0,1,1,1,1,1]) (zai 7 (sqK Tryd.prog G89 zaJ (cdF Tryd.f89 [1,0,1,1,1,1,1,1,0,1,0,0,1,1,1]) (zba Tryd.prog zaJ 18 X5 (zai 6 (sqK Tryd.prog G89 zaJ (cdF Tryd.f89 [1,0,1,1,1,1,1,1,1]) (zb9 (za8 Tryd.prog Tryd.f89 K)))))))))) (zgr w zak zaW zau zaI.len (fun i=>zae (zaI.get i)) zbF iv6 hv6.len (fun i=>zad (hv6.get i)) zdy zaE kv6 zbw.len (fun i=>zax (zbw.get i)) zaL.len (fun i=>zae (zaL.get i))) =
  zns K X5 X6 w zak zaW zau zaI zbF iv6 hv6 zdy zaE kv6 zbw zaL:=by kernel_rfl
theorem zuW (K : List PA → Prop) (X5 : St → Prop) (w : web) (zak : (Sl (Sl Tab))) (zaW : Int) (zau : Bool) (zdO : Nat) (zbE : Nat → List PV) (zbF : Int) (iv6 : Int) (znm : Nat) (zdV : Nat → List PV) (zdy : Int) (zaE : Int) (kv6 : Int) (zeX : Nat) (zbV : Nat → List PV) (zdP : Nat) (zbG : Nat → List PV)
  (h:∀ X6:St→Prop,(∀ (zaW:Int) (zau:Bool) (zaI:(Sl step)) (zbF:Int) (iv6:Int) (hv6:(Sl Tab)) (zdy:Int) (zaE:Int) (kv6:Int) (zbw:(Sl (Sl Tab))) (zaL:(Sl step)),zns K X5 X6 w zak zaW zau zaI zbF iv6 hv6 zdy zaE kv6 zbw zaL→X6 (zgr w zak zaW zau zaI.len (fun i=>zae (zaI.get i)) zbF iv6 hv6.len (fun i=>zad (hv6.get i)) zdy zaE kv6 zbw.len (fun i=>zax (zbw.get i)) zaL.len (fun i=>zae (zaL.get i))))→X6 (zgr w zak zaW zau zdO zbE zbF iv6 znm zdV zdy zaE kv6 zeX zbV zdP zbG)) :
  zi8 K X5 w zak zaW zau zdO zbE zbF iv6 znm zdV zdy zaE kv6 zeX zbV zdP zbG:=by
  have e:zi8 K X5 w zak zaW zau zdO zbE zbF iv6 znm zdV zdy zaE kv6 zeX zbV zdP zbG=(∀ X:St→Prop,(∀ s,vc Tryd.prog G89 zaJ (cd (cdF Tryd.f89 [1,0,1,1,1,1,1,1,0,1,0,0,1,1,0,0,1,1,1,1,0,1,0]) [0]) (zba Tryd.prog zaJ 24 X (zai 8 (sqK Tryd.prog G89 zaJ (cdF Tryd.f89 [1,0,1,1,1,1,1,1,0,1,0,0,1,1,0,0,1,1,1,1,1]) (zai 7 (sqK Tryd.prog G89 zaJ (cdF Tryd.f89 [1,0,1,1,1,1,1,1,0,1,0,0,1,1,1]) (zba Tryd.prog zaJ 18 X5 (zai 6 (sqK Tryd.prog G89 zaJ (cdF Tryd.f89 [1,0,1,1,1,1,1,1,1]) (zb9 (za8 Tryd.prog Tryd.f89 K)))))))))) s→X s)→X (zgr w zak zaW zau zdO zbE zbF iv6 znm zdV zdy zaE kv6 zeX zbV zdP zbG)):=by kernel_rfl
  refine za9 e ?_
  intro X hX
  refine h X ?_
  intro zaW zau zaI zbF iv6 hv6 zdy zaE kv6 zbw zaL hs
  refine hX _ ?_
  have e2:=zoS K X5 X w zak zaW zau zaI zbF iv6 hv6 zdy zaE kv6 zbw zaL
  rw [e2]
  exact hs
def znt (K:List PA→Prop) (X5:St→Prop) (X6:St→Prop) (w:web) (zak:(Sl (Sl Tab))) (zaF:Int) (zam:Bool) (zaC:(Sl step)) (za6:Int) (iv7:Int) (hv7:(Sl Tab)) (zci:Int) (zal:Int) (kv7:Int) (zaT:(Sl (Sl Tab))) (zav:(Sl step)):Prop :=
  (X6 (zgr w zak zaF zam zaC.len (fun i=>zae (zaC.get i)) za6 iv7 hv7.len (fun i=>zad (hv7.get i)) zci zal (w64 (kv7 - (1:Int))) zaT.len (fun i=>zax (zaT.get i)) zav.len (fun i=>zae (zav.get i))))
def znu (K:List PA→Prop) (X5:St→Prop) (X6:St→Prop) (X7:List (List PA)→St→Prop) (y7:step) (rest7:List (List PA)) (w:web) (zak:(Sl (Sl Tab))) (zaF:Int) (zam:Bool) (zaC:(Sl step)) (za6:Int) (iv7:Int) (hv7:(Sl Tab)) (zci:Int) (zal:Int) (kv7:Int) (zaT:(Sl (Sl Tab))) (zav:(Sl step)):Prop :=
  (zbA (y7.from_ == zci)
 (zbA (decide (y7.to ≥ iv7))
 (((0≤kv7∧kv7 < (hv7.len:Int))) ∧
 (((0≤y7.to∧y7.to < (40:Int))) ∧
 (zbA (!(match ((tg 80 (hv7.get kv7.toNat) (0 + y7.to.toNat * 2 + 0)) == (1000000000000:Int)) with | true => (match ((tg 80 (hv7.get kv7.toNat) (0 + y7.to.toNat * 2 + 0 + 1)) == (0:Int)) with | true => true | false => false) | false => false))
 (((0≤kv7∧kv7 < (hv7.len:Int))) ∧
 (((0≤y7.to∧y7.to < (40:Int))) ∧
 (zbA (decide ((w64 ((w64 (zal + y7.length)) + (tg 80 (hv7.get kv7.toNat) (0 + y7.to.toNat * 2 + 0)))) < (0:Int)))
 ((((zav.len+1) * 40≤140737488355328∧zav.len+1≤9223372036854775807)) ∧
 (X6 (zgr w zak zaF zam zaC.len (fun i=>zae (zaC.get i)) za6 iv7 hv7.len (fun i=>zad (hv7.get i)) y7.to (w64 (zal+y7.length)) (w64 (kv7 - (1:Int))) zaT.len (fun i=>zax (zaT.get i)) (zav.len+1) (appG zav.len (fun i=>zae (zav.get i)) (fun _=>(zae y7))))))
 (X7 rest7 (zet w zak zaF zam zaC.len (fun i=>zae (zaC.get i)) za6 iv7 hv7.len (fun i=>zad (hv7.get i)) zci zal kv7 zaT.len (fun i=>zax (zaT.get i)) zav.len (fun i=>zae (zav.get i)))))))
 (X7 rest7 (zet w zak zaF zam zaC.len (fun i=>zae (zaC.get i)) za6 iv7 hv7.len (fun i=>zad (hv7.get i)) zci zal kv7 zaT.len (fun i=>zax (zaT.get i)) zav.len (fun i=>zae (zav.get i)))))))
 (X7 rest7 (zet w zak zaF zam zaC.len (fun i=>zae (zaC.get i)) za6 iv7 hv7.len (fun i=>zad (hv7.get i)) zci zal kv7 zaT.len (fun i=>zax (zaT.get i)) zav.len (fun i=>zae (zav.get i)))))
 (X7 rest7 (zet w zak zaF zam zaC.len (fun i=>zae (zaC.get i)) za6 iv7 hv7.len (fun i=>zad (hv7.get i)) zci zal kv7 zaT.len (fun i=>zax (zaT.get i)) zav.len (fun i=>zae (zav.get i)))))
theorem zoT (K:List PA→Prop) (X5:St→Prop) (X6:St→Prop) (w:web) (zak:(Sl (Sl Tab))) (zaF:Int) (zam:Bool) (zaC:(Sl step)) (za6:Int) (iv7:Int) (hv7:(Sl Tab)) (zci:Int) (zal:Int) (kv7:Int) (zaT:(Sl (Sl Tab))) (zav:(Sl step)):(zai 10 (zai 9 (sqK Tryd.prog G89 zaJ (cdF Tryd.f89 [1,0,1,1,1,1,1,1,0,1,0,0,1,1,0,0,1,1,1,1,0,1,0,0,1,1]) (zba Tryd.prog zaJ 24 X6 (zai 8 (sqK Tryd.prog G89 zaJ (cdF Tryd.f89 [1,0,1,1,1,1,1,1,0,1,0,0,1,1,0,0,1,1,1,1,1]) (zai 7 (sqK Tryd.prog G89 zaJ (cdF Tryd.f89 [1,0,1,1,1,1,1,1,0,1,0,0,1,1,1]) (zba Tryd.prog zaJ 18 X5 (zai 6 (sqK Tryd.prog G89 zaJ (cdF Tryd.f89 [1,0,1,1,1,1,1,1,1]) (zb9 (za8 Tryd.prog Tryd.f89 K))))))))))))) .normal (zet w zak zaF zam zaC.len (fun i=>zae (zaC.get i)) za6 iv7 hv7.len (fun i=>zad (hv7.get i)) zci zal kv7 zaT.len (fun i=>zax (zaT.get i)) zav.len (fun i=>zae (zav.get i)))=znt K X5 X6 w zak zaF zam zaC za6 iv7 hv7 zci zal kv7 zaT zav:=by kernel_rfl
theorem zoU (K : List PA → Prop) (X5 : St → Prop) (X6 : St → Prop) (X7 : List (List PA) → St → Prop) (y7 : step) (rest7 : List (List PA)) (w : web) (zak : (Sl (Sl Tab))) (zaF : Int) (zam : Bool) (zaC : (Sl step)) (za6 : Int) (iv7 : Int) (hv7 : (Sl Tab)) (zci : Int) (zal : Int) (kv7 : Int) (zaT : (Sl (Sl Tab))) (zav : (Sl step)) :
  zsD Tryd.prog G89 zaJ 27 [88] (cd (cdF Tryd.f89 [1,0,1,1,1,1,1,1,0,1,0,0,1,1,0,0,1,1,1,1,0,1,0,0,1,0,0,1,0]) [0]) (cd (cdF Tryd.f89 [1,0,1,1,1,1,1,1,0,1,0,0,1,1,0,0,1,1,1,1,0,1,0,0,1,0,0,1,0]) [1]) X7 (zai 10 (zai 9 (sqK Tryd.prog G89 zaJ (cdF Tryd.f89 [1,0,1,1,1,1,1,1,0,1,0,0,1,1,0,0,1,1,1,1,0,1,0,0,1,1]) (zba Tryd.prog zaJ 24 X6 (zai 8 (sqK Tryd.prog G89 zaJ (cdF Tryd.f89 [1,0,1,1,1,1,1,1,0,1,0,0,1,1,0,0,1,1,1,1,1]) (zai 7 (sqK Tryd.prog G89 zaJ (cdF Tryd.f89 [1,0,1,1,1,1,1,1,0,1,0,0,1,1,1]) (zba Tryd.prog zaJ 18 X5 (zai 6 (sqK Tryd.prog G89 zaJ (cdF Tryd.f89 [1,0,1,1,1,1,1,1,1]) (zb9 (za8 Tryd.prog Tryd.f89 K))))))))))))) [.agg (zae y7)] rest7 (zet w zak zaF zam zaC.len (fun i=>zae (zaC.get i)) za6 iv7 hv7.len (fun i=>zad (hv7.get i)) zci zal kv7 zaT.len (fun i=>zax (zaT.get i)) zav.len (fun i=>zae (zav.get i)))=znu K X5 X6 X7 y7 rest7 w zak zaF zam zaC za6 iv7 hv7 zci zal kv7 zaT zav:=by kernel_rfl
theorem zuX (K : List PA → Prop) (X5 : St → Prop) (X6 : St → Prop) (w : web) (zak : (Sl (Sl Tab))) (zaF : Int) (zam : Bool) (zdQ : Nat) (zbO : Nat → List PV) (za6 : Int) (iv7 : Int) (znn : Nat) (zeB : Nat → List PV) (zci : Int) (zal : Int) (kv7 : Int) (zeY : Nat) (zcj : Nat → List PV) (zdR : Nat) (zbP : Nat → List PV)
  (hsafe:IsE enc_40 4 4 (fun i=>enc_40 (w.Net.Ties.get i))∧((false,1,false,[none]):MQ)=(false,1,false,[none])∧(zj1 w=true)) (h:∀ X7:List (List PA)→St→Prop,(∀ (zaF:Int) (zam:Bool) (zaC:(Sl step)) (za6:Int) (iv7:Int) (hv7:(Sl Tab)) (zci:Int) (zal:Int) (kv7:Int) (zaT:(Sl (Sl Tab))) (zav:(Sl step)),znt K X5 X6 w zak zaF zam zaC za6 iv7 hv7 zci zal kv7 zaT zav→X7 [] (zet w zak zaF zam zaC.len (fun i=>zae (zaC.get i)) za6 iv7 hv7.len (fun i=>zad (hv7.get i)) zci zal kv7 zaT.len (fun i=>zax (zaT.get i)) zav.len (fun i=>zae (zav.get i))))→(∀ (y:step) (rest:List (List PA)) (zaF:Int) (zam:Bool) (zaC:(Sl step)) (za6:Int) (iv7:Int) (hv7:(Sl Tab)) (zci:Int) (zal:Int) (kv7:Int) (zaT:(Sl (Sl Tab))) (zav:(Sl step)),znu K X5 X6 X7 y rest w zak zaF zam zaC za6 iv7 hv7 zci zal kv7 zaT zav→X7 ([.agg (zae y)] :: rest) (zet w zak zaF zam zaC.len (fun i=>zae (zaC.get i)) za6 iv7 hv7.len (fun i=>zad (hv7.get i)) zci zal kv7 zaT.len (fun i=>zax (zaT.get i)) zav.len (fun i=>zae (zav.get i))))→X7 ((zgP w).map fun y=>[.agg (zae y)]) (zet w zak zaF zam zdQ zbO za6 iv7 znn zeB zci zal kv7 zeY zcj zdR zbP)) :
  zi9 K X5 X6 w zak zaF zam zdQ zbO za6 iv7 znn zeB zci zal kv7 zeY zcj zdR zbP:=by
  have e:zi9 K X5 X6 w zak zaF zam zdQ zbO za6 iv7 znn zeB zci zal kv7 zeY zcj zdR zbP=((IsE enc_40 4 4 (fun i=>enc_40 (w.Net.Ties.get i))∧((false,1,false,[none]):MQ)=(false,1,false,[none])∧(zj1 w=true))∧∀ X:List (List PA)→St→Prop,(∀ s,(zai 10 (zai 9 (sqK Tryd.prog G89 zaJ (cdF Tryd.f89 [1,0,1,1,1,1,1,1,0,1,0,0,1,1,0,0,1,1,1,1,0,1,0,0,1,1]) (zba Tryd.prog zaJ 24 X6 (zai 8 (sqK Tryd.prog G89 zaJ (cdF Tryd.f89 [1,0,1,1,1,1,1,1,0,1,0,0,1,1,0,0,1,1,1,1,1]) (zai 7 (sqK Tryd.prog G89 zaJ (cdF Tryd.f89 [1,0,1,1,1,1,1,1,0,1,0,0,1,1,1]) (zba Tryd.prog zaJ 18 X5 (zai 6 (sqK Tryd.prog G89 zaJ (cdF Tryd.f89 [1,0,1,1,1,1,1,1,1]) (zb9 (za8 Tryd.prog Tryd.f89 K))))))))))))) .normal s→X [] s)→(∀ y rest s,zsD Tryd.prog G89 zaJ 27 [88] (cd (cdF Tryd.f89 [1,0,1,1,1,1,1,1,0,1,0,0,1,1,0,0,1,1,1,1,0,1,0,0,1,0,0,1,0]) [0]) (cd (cdF Tryd.f89 [1,0,1,1,1,1,1,1,0,1,0,0,1,1,0,0,1,1,1,1,0,1,0,0,1,0,0,1,0]) [1]) X (zai 10 (zai 9 (sqK Tryd.prog G89 zaJ (cdF Tryd.f89 [1,0,1,1,1,1,1,1,0,1,0,0,1,1,0,0,1,1,1,1,0,1,0,0,1,1]) (zba Tryd.prog zaJ 24 X6 (zai 8 (sqK Tryd.prog G89 zaJ (cdF Tryd.f89 [1,0,1,1,1,1,1,1,0,1,0,0,1,1,0,0,1,1,1,1,1]) (zai 7 (sqK Tryd.prog G89 zaJ (cdF Tryd.f89 [1,0,1,1,1,1,1,1,0,1,0,0,1,1,1]) (zba Tryd.prog zaJ 18 X5 (zai 6 (sqK Tryd.prog G89 zaJ (cdF Tryd.f89 [1,0,1,1,1,1,1,1,1]) (zb9 (za8 Tryd.prog Tryd.f89 K))))))))))))) y rest s→X (y :: rest) s)→X ((zgP w).map fun y=>[.agg (zae y)]) (zet w zak zaF zam zdQ zbO za6 iv7 znn zeB zci zal kv7 zeY zcj zdR zbP)):=by kernel_rfl
  refine za9 e ⟨hsafe,?_⟩
  intro X h0 h1
  refine h X (fun zaF zam zaC za6 iv7 hv7 zci zal kv7 zaT zav hs=>h0 _ ?_) (fun y rest zaF zam zaC za6 iv7 hv7 zci zal kv7 zaT zav hs=>h1 _ rest _ ?_)
  · rw [zoT K X5 X6 w zak zaF zam zaC za6 iv7 hv7 zci zal kv7 zaT zav];exact hs
  · have e2 := zoU K X5 X6 X y rest w zak zaF zam zaC za6 iv7 hv7 zci zal kv7 zaT zav
    rw [e2];exact hs
theorem zBj (K : List PA → Prop) (X5 : St → Prop) (w : web) (zak : (Sl (Sl Tab))) (zcE : Int) (zbY : Bool) (zc8 : (Sl step)) (zd9 : Int) (zdx : Bool) (zdB : (Sl (Sl Tab))) (zc9 : (Sl step)) :
  zja K X5 w zak zcE zbY zc8.len (fun i=>zae (zc8.get i)) zd9 zdx zdB.len (fun i=>zax (zdB.get i)) zc9.len (fun i=>zae (zc9.get i)) =
  (zbA zdx
 (X5 (zes w zak zcE false zc9.len (fun i=>zae (zc9.get i)) (w64 (zd9+(1:Int))) zdB.len (fun i=>zax (zdB.get i))))
 (X5 (zes w zak zcE zbY zc8.len (fun i=>zae (zc8.get i)) (w64 (zd9+(1:Int))) zdB.len (fun i=>zax (zdB.get i))))):=by kernel_rfl
abbrev e89 (r:(Sl step)):List PA:=[.one (.sl r.len 5 (fun i=>zae (r.get i)))]
attribute [irreducible] zi2 zlL zi3 zi5 zi6 zi7 zi8 zi9 zja
def zlO (S5:Int→Bool→(Sl step)→Int→(Sl (Sl Tab))→(Sl step)) (w:web) (zak:(Sl (Sl Tab))) (zcE:Int) (zbY:Bool) (zc8:(Sl step)) (zd9:Int) (zdx:Bool) (zdB:(Sl (Sl Tab))) (zc9:(Sl step)):(Sl step) :=
  (cond zdx
 (S5 zcE false zc9 (w64 (zd9+(1:Int))) zdB)
 (S5 zcE zbY zc8 (w64 (zd9+(1:Int))) zdB))
def zlP (P5:Int→Bool→(Sl step)→Int→(Sl (Sl Tab))→Bool) (w:web) (zak:(Sl (Sl Tab))) (zcE:Int) (zbY:Bool) (zc8:(Sl step)) (zd9:Int) (zdx:Bool) (zdB:(Sl (Sl Tab))) (zc9:(Sl step)):Bool :=
  (cond zdx
 (P5 zcE false zc9 (w64 (zd9+(1:Int))) zdB)
 (P5 zcE zbY zc8 (w64 (zd9+(1:Int))) zdB))
theorem zuY (K : List PA → Prop) (w : web) (zak : (Sl (Sl Tab)))
  (X5:St→Prop) (P5:Int→Bool→(Sl step)→Int→(Sl (Sl Tab))→Bool) (S5:Int→Bool→(Sl step)→Int→(Sl (Sl Tab))→(Sl step))
  (hX5:∀ (zaH:Int) (zaw:Bool) (zaK:(Sl step)) (zaN:Int) (za7:(Sl (Sl Tab))) (zbd:Nat→List PV) (zdS:zbd=fun i=>zae (zaK.get i)) (zbB:Nat→List PV) (zeZ:zbB=fun i=>zax (za7.get i)),P5 zaH zaw zaK zaN za7=true→K (e89 (S5 zaH zaw zaK zaN za7))→X5 (zes w zak zaH zaw zaK.len zbd zaN za7.len zbB)) (zcE:Int) (zbY:Bool) (zc8:(Sl step)) (zd9:Int) (zdx:Bool) (zdB:(Sl (Sl Tab))) (zc9:(Sl step)) (zfe:Nat→List PV) (zyY:zfe=fun i=>zae (zc8.get i)) (zgW:Nat→List PV) (zBk:zgW=fun i=>zax (zdB.get i)) (zff:Nat→List PV) (zyZ:zff=fun i=>zae (zc9.get i)) (hs:zlP P5 w zak zcE zbY zc8 zd9 zdx zdB zc9=true) (hk:K (e89 (zlO S5 w zak zcE zbY zc8 zd9 zdx zdB zc9))):zja K X5 w zak zcE zbY zc8.len zfe zd9 zdx zdB.len zgW zc9.len zff:=by
  subst zyY
  subst zBk
  subst zyZ
  refine za9 (zBj K X5 w zak zcE zbY zc8 zd9 zdx zdB zc9) ?_
  unfold zlP at hs
  unfold zlO at hk
  exact (zaM (K := fun r => K (e89 r))
 (fun hs hk=>(hX5 zcE false zc9 (w64 (zd9+(1:Int))) zdB (fun i=>zae (zc9.get i)) rfl (fun i=>zax (zdB.get i)) rfl hs hk))
 (fun hs hk=>(hX5 zcE zbY zc8 (w64 (zd9+(1:Int))) zdB (fun i=>zae (zc8.get i)) rfl (fun i=>zax (zdB.get i)) rfl hs hk)) hs hk)
def zoV (S5:Int→Bool→(Sl step)→Int→(Sl (Sl Tab))→(Sl step)) (S6:Int→Bool→(Sl step)→Int→Int→(Sl Tab)→Int→Int→Int→(Sl (Sl Tab))→(Sl step)→(Sl step)) (w:web) (zak:(Sl (Sl Tab))) (zaF:Int) (zam:Bool) (zaC:(Sl step)) (za6:Int) (iv7:Int) (hv7:(Sl Tab)) (zci:Int) (zal:Int) (kv7:Int) (zaT:(Sl (Sl Tab))) (zav:(Sl step)):(Sl step) :=
  (S6 zaF zam zaC za6 iv7 hv7 zci zal (w64 (kv7 - (1:Int))) zaT zav)
def zoW (P5:Int→Bool→(Sl step)→Int→(Sl (Sl Tab))→Bool) (P6:Int→Bool→(Sl step)→Int→Int→(Sl Tab)→Int→Int→Int→(Sl (Sl Tab))→(Sl step)→Bool) (w:web) (zak:(Sl (Sl Tab))) (zaF:Int) (zam:Bool) (zaC:(Sl step)) (za6:Int) (iv7:Int) (hv7:(Sl Tab)) (zci:Int) (zal:Int) (kv7:Int) (zaT:(Sl (Sl Tab))) (zav:(Sl step)):Bool :=
  (P6 zaF zam zaC za6 iv7 hv7 zci zal (w64 (kv7 - (1:Int))) zaT zav)
def zoX (S5:Int→Bool→(Sl step)→Int→(Sl (Sl Tab))→(Sl step)) (S6:Int→Bool→(Sl step)→Int→Int→(Sl Tab)→Int→Int→Int→(Sl (Sl Tab))→(Sl step)→(Sl step)) (w:web) (zak:(Sl (Sl Tab))) (y7:step) (S7:Int→Bool→(Sl step)→Int→Int→(Sl Tab)→Int→Int→Int→(Sl (Sl Tab))→(Sl step)→(Sl step)) (zaF:Int) (zam:Bool) (zaC:(Sl step)) (za6:Int) (iv7:Int) (hv7:(Sl Tab)) (zci:Int) (zal:Int) (kv7:Int) (zaT:(Sl (Sl Tab))) (zav:(Sl step)):(Sl step) :=
  (cond (y7.from_ == zci)
 (cond (decide (y7.to ≥ iv7))
 (cond (!(match ((tg 80 (hv7.get kv7.toNat) (0 + y7.to.toNat * 2 + 0)) == (1000000000000:Int)) with | true => (match ((tg 80 (hv7.get kv7.toNat) (0 + y7.to.toNat * 2 + 0 + 1)) == (0:Int)) with | true => true | false => false) | false => false))
 (cond (decide ((w64 ((w64 (zal + y7.length)) + (tg 80 (hv7.get kv7.toNat) (0 + y7.to.toNat * 2 + 0)))) < (0:Int)))
 (S6 zaF zam zaC za6 iv7 hv7 y7.to (w64 (zal+y7.length)) (w64 (kv7 - (1:Int))) zaT (⟨(zav.len+1),(zsn zav.len zav.get (fun _=>y7))⟩:Sl step))
 (S7 zaF zam zaC za6 iv7 hv7 zci zal kv7 zaT zav))
 (S7 zaF zam zaC za6 iv7 hv7 zci zal kv7 zaT zav))
 (S7 zaF zam zaC za6 iv7 hv7 zci zal kv7 zaT zav))
 (S7 zaF zam zaC za6 iv7 hv7 zci zal kv7 zaT zav))
def zoY (P5:Int→Bool→(Sl step)→Int→(Sl (Sl Tab))→Bool) (P6:Int→Bool→(Sl step)→Int→Int→(Sl Tab)→Int→Int→Int→(Sl (Sl Tab))→(Sl step)→Bool) (w:web) (zak:(Sl (Sl Tab))) (y7:step) (P7:Int→Bool→(Sl step)→Int→Int→(Sl Tab)→Int→Int→Int→(Sl (Sl Tab))→(Sl step)→Bool) (zaF:Int) (zam:Bool) (zaC:(Sl step)) (za6:Int) (iv7:Int) (hv7:(Sl Tab)) (zci:Int) (zal:Int) (kv7:Int) (zaT:(Sl (Sl Tab))) (zav:(Sl step)):Bool :=
  (cond (y7.from_ == zci)
 (cond (decide (y7.to ≥ iv7))
 (decide ((0≤kv7∧kv7 < (hv7.len:Int))) &&
 (decide ((0≤y7.to∧y7.to < (40:Int))) &&
 (cond (!(match ((tg 80 (hv7.get kv7.toNat) (0 + y7.to.toNat * 2 + 0)) == (1000000000000:Int)) with | true => (match ((tg 80 (hv7.get kv7.toNat) (0 + y7.to.toNat * 2 + 0 + 1)) == (0:Int)) with | true => true | false => false) | false => false))
 (decide ((0≤kv7∧kv7 < (hv7.len:Int))) &&
 (decide ((0≤y7.to∧y7.to < (40:Int))) &&
 (cond (decide ((w64 ((w64 (zal + y7.length)) + (tg 80 (hv7.get kv7.toNat) (0 + y7.to.toNat * 2 + 0)))) < (0:Int)))
 (decide (((zav.len+1) * 40≤140737488355328∧zav.len+1≤9223372036854775807)) &&
 (P6 zaF zam zaC za6 iv7 hv7 y7.to (w64 (zal+y7.length)) (w64 (kv7 - (1:Int))) zaT (⟨(zav.len+1),(zsn zav.len zav.get (fun _=>y7))⟩:Sl step)))
 (P7 zaF zam zaC za6 iv7 hv7 zci zal kv7 zaT zav))))
 (P7 zaF zam zaC za6 iv7 hv7 zci zal kv7 zaT zav))))
 (P7 zaF zam zaC za6 iv7 hv7 zci zal kv7 zaT zav))
 (P7 zaF zam zaC za6 iv7 hv7 zci zal kv7 zaT zav))
def zjb (S5 : Int → Bool → (Sl step) → Int → (Sl (Sl Tab)) → (Sl step)) (S6 : Int → Bool → (Sl step) → Int → Int → (Sl Tab) → Int → Int → Int → (Sl (Sl Tab)) → (Sl step) → (Sl step)) (w : web) (zak : (Sl (Sl Tab))) : List step → Int → Bool → (Sl step) → Int → Int → (Sl Tab) → Int → Int → Int → (Sl (Sl Tab)) → (Sl step) → (Sl step)
  | []=>zoV S5 S6 w zak
  | y :: r=>zoX S5 S6 w zak y (zjb S5 S6 w zak r)
def zjc (P5 : Int → Bool → (Sl step) → Int → (Sl (Sl Tab)) → Bool) (P6 : Int → Bool → (Sl step) → Int → Int → (Sl Tab) → Int → Int → Int → (Sl (Sl Tab)) → (Sl step) → Bool) (w : web) (zak : (Sl (Sl Tab))) : List step → Int → Bool → (Sl step) → Int → Int → (Sl Tab) → Int → Int → Int → (Sl (Sl Tab)) → (Sl step) → Bool
  | []=>zoW P5 P6 w zak
  | y :: r=>zoY P5 P6 w zak y (zjc P5 P6 w zak r)
def zuZ (S5:Int→Bool→(Sl step)→Int→(Sl (Sl Tab))→(Sl step)) (S6:Int→Bool→(Sl step)→Int→Int→(Sl Tab)→Int→Int→Int→(Sl (Sl Tab))→(Sl step)→(Sl step)) (w:web) (zak:(Sl (Sl Tab))) (zaF:Int) (zam:Bool) (zaC:(Sl step)) (za6:Int) (iv7:Int) (hv7:(Sl Tab)) (zci:Int) (zal:Int) (kv7:Int) (zaT:(Sl (Sl Tab))) (zav:(Sl step)):(Sl step):=zjb S5 S6 w zak (zgP w) zaF zam zaC za6 iv7 hv7 zci zal kv7 zaT zav
def zoZ (P5:Int→Bool→(Sl step)→Int→(Sl (Sl Tab))→Bool) (P6:Int→Bool→(Sl step)→Int→Int→(Sl Tab)→Int→Int→Int→(Sl (Sl Tab))→(Sl step)→Bool) (w:web) (zak:(Sl (Sl Tab))) (zaF:Int) (zam:Bool) (zaC:(Sl step)) (za6:Int) (iv7:Int) (hv7:(Sl Tab)) (zci:Int) (zal:Int) (kv7:Int) (zaT:(Sl (Sl Tab))) (zav:(Sl step)):Bool:=decide ((zj1 w=true)) && zjc P5 P6 w zak (zgP w) zaF zam zaC za6 iv7 hv7 zci zal kv7 zaT zav
theorem zBl (K : List PA → Prop) (w : web) (zak : (Sl (Sl Tab)))
  (X5:St→Prop) (P5:Int→Bool→(Sl step)→Int→(Sl (Sl Tab))→Bool) (S5:Int→Bool→(Sl step)→Int→(Sl (Sl Tab))→(Sl step))
  (hX5:∀ (zaH:Int) (zaw:Bool) (zaK:(Sl step)) (zaN:Int) (za7:(Sl (Sl Tab))) (zbd:Nat→List PV) (zdS:zbd=fun i=>zae (zaK.get i)) (zbB:Nat→List PV) (zeZ:zbB=fun i=>zax (za7.get i)),P5 zaH zaw zaK zaN za7=true→K (e89 (S5 zaH zaw zaK zaN za7))→X5 (zes w zak zaH zaw zaK.len zbd zaN za7.len zbB))
  (X6:St→Prop) (P6:Int→Bool→(Sl step)→Int→Int→(Sl Tab)→Int→Int→Int→(Sl (Sl Tab))→(Sl step)→Bool) (S6:Int→Bool→(Sl step)→Int→Int→(Sl Tab)→Int→Int→Int→(Sl (Sl Tab))→(Sl step)→(Sl step))
  (hX6:∀ (zaW:Int) (zau:Bool) (zaI:(Sl step)) (zbF:Int) (iv6:Int) (hv6:(Sl Tab)) (zdy:Int) (zaE:Int) (kv6:Int) (zbw:(Sl (Sl Tab))) (zaL:(Sl step)) (zbE:Nat→List PV) (zfg:zbE=fun i=>zae (zaI.get i)) (zdV:Nat→List PV) (zsv:zdV=fun i=>zad (hv6.get i)) (zbV:Nat→List PV) (zgX:zbV=fun i=>zax (zbw.get i)) (zbG:Nat→List PV) (zfh:zbG=fun i=>zae (zaL.get i)),P6 zaW zau zaI zbF iv6 hv6 zdy zaE kv6 zbw zaL=true→K (e89 (S6 zaW zau zaI zbF iv6 hv6 zdy zaE kv6 zbw zaL))→X6 (zgr w zak zaW zau zaI.len zbE zbF iv6 hv6.len zdV zdy zaE kv6 zbw.len zbV zaL.len zbG)) (zaF:Int) (zam:Bool) (zaC:(Sl step)) (za6:Int) (iv7:Int) (hv7:(Sl Tab)) (zci:Int) (zal:Int) (kv7:Int) (zaT:(Sl (Sl Tab))) (zav:(Sl step)) (zbO:Nat→List PV) (zfi:zbO=fun i=>zae (zaC.get i)) (zeB:Nat→List PV) (zsw:zeB=fun i=>zad (hv7.get i)) (zcj:Nat→List PV) (zgY:zcj=fun i=>zax (zaT.get i)) (zbP:Nat→List PV) (zfj:zbP=fun i=>zae (zav.get i)) (hs:zoZ P5 P6 w zak zaF zam zaC za6 iv7 hv7 zci zal kv7 zaT zav=true) (hk:K (e89 (zuZ S5 S6 w zak zaF zam zaC za6 iv7 hv7 zci zal kv7 zaT zav))):zi9 K X5 X6 w zak zaF zam zaC.len zbO za6 iv7 hv7.len zeB zci zal kv7 zaT.len zcj zav.len zbP:=by
  unfold zoZ at hs
  rw [Bool.and_eq_true] at hs
  obtain ⟨hsf,hs⟩:=hs
  have hc:=of_decide_eq_true hsf
  refine zuX K X5 X6 w zak zaF zam zaC.len zbO za6 iv7 hv7.len zeB zci zal kv7 zaT.len zcj zav.len zbP ⟨isE,rfl,hc⟩ ?_
  intro X7 hexit hstep
  have key:∀ (l:List step) (zaF:Int) (zam:Bool) (zaC:(Sl step)) (za6:Int) (iv7:Int) (hv7:(Sl Tab)) (zci:Int) (zal:Int) (kv7:Int) (zaT:(Sl (Sl Tab))) (zav:(Sl step)) (zbO:Nat→List PV) (zfi:zbO=fun i=>zae (zaC.get i)) (zeB:Nat→List PV) (zsw:zeB=fun i=>zad (hv7.get i)) (zcj:Nat→List PV) (zgY:zcj=fun i=>zax (zaT.get i)) (zbP:Nat→List PV) (zfj:zbP=fun i=>zae (zav.get i)),zjc P5 P6 w zak l zaF zam zaC za6 iv7 hv7 zci zal kv7 zaT zav=true→K (e89 (zjb S5 S6 w zak l zaF zam zaC za6 iv7 hv7 zci zal kv7 zaT zav))→X7 (l.map fun y=>[.agg (zae y)]) (zet w zak zaF zam zaC.len zbO za6 iv7 hv7.len zeB zci zal kv7 zaT.len zcj zav.len zbP):=by
    intro l
    induction l with
    | nil =>
      intro zaF zam zaC za6 iv7 hv7 zci zal kv7 zaT zav zbO zfi zeB zsw zcj zgY zbP zfj hs hk
      subst zfi
      subst zsw
      subst zgY
      subst zfj
      refine hexit zaF zam zaC za6 iv7 hv7 zci zal kv7 zaT zav ?_
      have hs:zoW P5 P6 w zak zaF zam zaC za6 iv7 hv7 zci zal kv7 zaT zav=true:=hs
      have hk:K (e89 (zoV S5 S6 w zak zaF zam zaC za6 iv7 hv7 zci zal kv7 zaT zav)):=hk
      unfold zoW at hs
      unfold zoV at hk
      exact (hX6 zaF zam zaC za6 iv7 hv7 zci zal (w64 (kv7 - (1:Int))) zaT zav (fun i=>zae (zaC.get i)) rfl (fun i=>zad (hv7.get i)) rfl (fun i=>zax (zaT.get i)) rfl (fun i=>zae (zav.get i)) rfl hs hk)
    | cons y7 l ih =>
      intro zaF zam zaC za6 iv7 hv7 zci zal kv7 zaT zav zbO zfi zeB zsw zcj zgY zbP zfj hs hk
      subst zfi
      subst zsw
      subst zgY
      subst zfj
      refine hstep y7 _ zaF zam zaC za6 iv7 hv7 zci zal kv7 zaT zav ?_
      have hs:zoY P5 P6 w zak y7 (zjc P5 P6 w zak l) zaF zam zaC za6 iv7 hv7 zci zal kv7 zaT zav=true:=hs
      have hk:K (e89 (zoX S5 S6 w zak y7 (zjb S5 S6 w zak l) zaF zam zaC za6 iv7 hv7 zci zal kv7 zaT zav)):=hk
      unfold zoY at hs
      unfold zoX at hk
      generalize zjb S5 S6 w zak l=S7 at hk ih
      generalize zjc P5 P6 w zak l=P7 at hs ih
      have hX7:=ih
      exact (zaM (K := fun r => K (e89 r))
 (fun hs hk => (zaM (K := fun r => K (e89 r))
 (fun hs hk => (zaX hs fun hc hs => ⟨hc, (zaX hs fun hc hs => ⟨hc, (zaM (K := fun r => K (e89 r))
 (fun hs hk => (zaX hs fun hc hs => ⟨hc, (zaX hs fun hc hs => ⟨hc, (zaM (K := fun r => K (e89 r))
 (fun hs hk=>(zaX hs fun hc hs=>⟨hc,(hX6 zaF zam zaC za6 iv7 hv7 y7.to (w64 (zal+y7.length)) (w64 (kv7 - (1:Int))) zaT (⟨(zav.len+1),(zsn zav.len zav.get (fun _=>y7))⟩:Sl step) (fun i=>zae (zaC.get i)) rfl (fun i=>zad (hv7.get i)) rfl (fun i=>zax (zaT.get i)) rfl (appG zav.len (fun i=>zae (zav.get i)) (fun _=>(zae y7))) (zm0 (enc:=zae) (f:=zav.get) (h:=(fun _=>y7)) rfl rfl) hs hk)⟩))
 (fun hs hk=>(hX7 zaF zam zaC za6 iv7 hv7 zci zal kv7 zaT zav (fun i=>zae (zaC.get i)) rfl (fun i=>zad (hv7.get i)) rfl (fun i=>zax (zaT.get i)) rfl (fun i=>zae (zav.get i)) rfl hs hk)) hs hk)⟩)⟩))
 (fun hs hk=>(hX7 zaF zam zaC za6 iv7 hv7 zci zal kv7 zaT zav (fun i=>zae (zaC.get i)) rfl (fun i=>zad (hv7.get i)) rfl (fun i=>zax (zaT.get i)) rfl (fun i=>zae (zav.get i)) rfl hs hk)) hs hk)⟩)⟩))
 (fun hs hk=>(hX7 zaF zam zaC za6 iv7 hv7 zci zal kv7 zaT zav (fun i=>zae (zaC.get i)) rfl (fun i=>zad (hv7.get i)) rfl (fun i=>zax (zaT.get i)) rfl (fun i=>zae (zav.get i)) rfl hs hk)) hs hk))
 (fun hs hk=>(hX7 zaF zam zaC za6 iv7 hv7 zci zal kv7 zaT zav (fun i=>zae (zaC.get i)) rfl (fun i=>zad (hv7.get i)) rfl (fun i=>zax (zaT.get i)) rfl (fun i=>zae (zav.get i)) rfl hs hk)) hs hk)
  exact key _ zaF zam zaC za6 iv7 hv7 zci zal kv7 zaT zav zbO zfi zeB zsw zcj zgY zbP zfj hs hk
def zo0 (S5:Int→Bool→(Sl step)→Int→(Sl (Sl Tab))→(Sl step)) (w:web) (zak:(Sl (Sl Tab))) (S6:Int→Bool→(Sl step)→Int→Int→(Sl Tab)→Int→Int→Int→(Sl (Sl Tab))→(Sl step)→(Sl step)) (zaW:Int) (zau:Bool) (zaI:(Sl step)) (zbF:Int) (iv6:Int) (hv6:(Sl Tab)) (zdy:Int) (zaE:Int) (kv6:Int) (zbw:(Sl (Sl Tab))) (zaL:(Sl step)):(Sl step) :=
  (cond (decide (kv6 ≥ (0:Int)))
 (zuZ S5 S6 w zak zaW zau zaI zbF iv6 hv6 zdy zaE kv6 zbw zaL)
 (cond zau
 (zlO S5 w zak zaW zau zaI zbF true zbw zaL)
 (zlO S5 w zak zaW zau zaI zbF (decide ((zDG zaL zaI) < (0:Int))) zbw zaL)))
def zo1 (P5:Int→Bool→(Sl step)→Int→(Sl (Sl Tab))→Bool) (w:web) (zak:(Sl (Sl Tab))) (P6:Int→Bool→(Sl step)→Int→Int→(Sl Tab)→Int→Int→Int→(Sl (Sl Tab))→(Sl step)→Bool) (zaW:Int) (zau:Bool) (zaI:(Sl step)) (zbF:Int) (iv6:Int) (hv6:(Sl Tab)) (zdy:Int) (zaE:Int) (kv6:Int) (zbw:(Sl (Sl Tab))) (zaL:(Sl step)):Bool :=
  (cond (decide (kv6 ≥ (0:Int)))
 (zoZ P5 P6 w zak zaW zau zaI zbF iv6 hv6 zdy zaE kv6 zbw zaL)
 (decide ((zau=true∨zaI.len ≠ 0)) &&
 (cond zau
 (zlP P5 w zak zaW zau zaI zbF true zbw zaL)
 (decide ((zGf zaL zaI=true)) &&
 (zlP P5 w zak zaW zau zaI zbF (decide ((zDG zaL zaI) < (0:Int))) zbw zaL)))))
def zjd (S5 : Int → Bool → (Sl step) → Int → (Sl (Sl Tab)) → (Sl step)) (w : web) (zak : (Sl (Sl Tab))) : Nat → Int → Bool → (Sl step) → Int → Int → (Sl Tab) → Int → Int → Int → (Sl (Sl Tab)) → (Sl step) → (Sl step)
  | 0=>fun _ _ _ _ _ _ _ _ _ _ _=>default
  | k+1=>zo0 S5 w zak (zjd S5 w zak k)
def zje (P5 : Int → Bool → (Sl step) → Int → (Sl (Sl Tab)) → Bool) (w : web) (zak : (Sl (Sl Tab))) : Nat → Int → Bool → (Sl step) → Int → Int → (Sl Tab) → Int → Int → Int → (Sl (Sl Tab)) → (Sl step) → Bool
  | 0=>fun _ _ _ _ _ _ _ _ _ _ _=>false
  | k+1=>zo1 P5 w zak (zje P5 w zak k)
def zu0 (S5:Int→Bool→(Sl step)→Int→(Sl (Sl Tab))→(Sl step)) (w:web) (zak:(Sl (Sl Tab))) (zaW:Int) (zau:Bool) (zaI:(Sl step)) (zbF:Int) (iv6:Int) (hv6:(Sl Tab)) (zdy:Int) (zaE:Int) (kv6:Int) (zbw:(Sl (Sl Tab))) (zaL:(Sl step)):(Sl step):=zjd S5 w zak Fuel zaW zau zaI zbF iv6 hv6 zdy zaE kv6 zbw zaL
def zu1 (P5:Int→Bool→(Sl step)→Int→(Sl (Sl Tab))→Bool) (w:web) (zak:(Sl (Sl Tab))) (zaW:Int) (zau:Bool) (zaI:(Sl step)) (zbF:Int) (iv6:Int) (hv6:(Sl Tab)) (zdy:Int) (zaE:Int) (kv6:Int) (zbw:(Sl (Sl Tab))) (zaL:(Sl step)):Bool:=zje P5 w zak Fuel zaW zau zaI zbF iv6 hv6 zdy zaE kv6 zbw zaL
theorem zBm (K : List PA → Prop) (w : web) (zak : (Sl (Sl Tab)))
  (X5:St→Prop) (P5:Int→Bool→(Sl step)→Int→(Sl (Sl Tab))→Bool) (S5:Int→Bool→(Sl step)→Int→(Sl (Sl Tab))→(Sl step))
  (hX5:∀ (zaH:Int) (zaw:Bool) (zaK:(Sl step)) (zaN:Int) (za7:(Sl (Sl Tab))) (zbd:Nat→List PV) (zdS:zbd=fun i=>zae (zaK.get i)) (zbB:Nat→List PV) (zeZ:zbB=fun i=>zax (za7.get i)),P5 zaH zaw zaK zaN za7=true→K (e89 (S5 zaH zaw zaK zaN za7))→X5 (zes w zak zaH zaw zaK.len zbd zaN za7.len zbB)) (zaW:Int) (zau:Bool) (zaI:(Sl step)) (zbF:Int) (iv6:Int) (hv6:(Sl Tab)) (zdy:Int) (zaE:Int) (kv6:Int) (zbw:(Sl (Sl Tab))) (zaL:(Sl step)) (zbE:Nat→List PV) (zfg:zbE=fun i=>zae (zaI.get i)) (zdV:Nat→List PV) (zsv:zdV=fun i=>zad (hv6.get i)) (zbV:Nat→List PV) (zgX:zbV=fun i=>zax (zbw.get i)) (zbG:Nat→List PV) (zfh:zbG=fun i=>zae (zaL.get i)) (hs:zu1 P5 w zak zaW zau zaI zbF iv6 hv6 zdy zaE kv6 zbw zaL=true) (hk:K (e89 (zu0 S5 w zak zaW zau zaI zbF iv6 hv6 zdy zaE kv6 zbw zaL))):zi8 K X5 w zak zaW zau zaI.len zbE zbF iv6 hv6.len zdV zdy zaE kv6 zbw.len zbV zaL.len zbG:=by
  refine zuW K X5 w zak zaW zau zaI.len zbE zbF iv6 hv6.len zdV zdy zaE kv6 zbw.len zbV zaL.len zbG ?_
  intro X6 hstep
  have key:∀ (k:Nat) (zaW:Int) (zau:Bool) (zaI:(Sl step)) (zbF:Int) (iv6:Int) (hv6:(Sl Tab)) (zdy:Int) (zaE:Int) (kv6:Int) (zbw:(Sl (Sl Tab))) (zaL:(Sl step)) (zbE:Nat→List PV) (zfg:zbE=fun i=>zae (zaI.get i)) (zdV:Nat→List PV) (zsv:zdV=fun i=>zad (hv6.get i)) (zbV:Nat→List PV) (zgX:zbV=fun i=>zax (zbw.get i)) (zbG:Nat→List PV) (zfh:zbG=fun i=>zae (zaL.get i)),zje P5 w zak k zaW zau zaI zbF iv6 hv6 zdy zaE kv6 zbw zaL=true→K (e89 (zjd S5 w zak k zaW zau zaI zbF iv6 hv6 zdy zaE kv6 zbw zaL))→X6 (zgr w zak zaW zau zaI.len zbE zbF iv6 hv6.len zdV zdy zaE kv6 zbw.len zbV zaL.len zbG):=by
    intro k
    induction k with
    | zero=>intro zaW zau zaI zbF iv6 hv6 zdy zaE kv6 zbw zaL zbE zfg zdV zsv zbV zgX zbG zfh hs;exact absurd hs Bool.false_ne_true
    | succ k ih =>
      intro zaW zau zaI zbF iv6 hv6 zdy zaE kv6 zbw zaL zbE zfg zdV zsv zbV zgX zbG zfh hs hk
      subst zfg
      subst zsv
      subst zgX
      subst zfh
      refine hstep zaW zau zaI zbF iv6 hv6 zdy zaE kv6 zbw zaL ?_
      have hs:zo1 P5 w zak (zje P5 w zak k) zaW zau zaI zbF iv6 hv6 zdy zaE kv6 zbw zaL=true:=hs
      have hk:K (e89 (zo0 S5 w zak (zjd S5 w zak k) zaW zau zaI zbF iv6 hv6 zdy zaE kv6 zbw zaL)):=hk
      unfold zo1 at hs
      unfold zo0 at hk
      generalize zjd S5 w zak k=S6 at hk ih
      generalize zje P5 w zak k=P6 at hs ih
      have hX6:=ih
      exact (zaM (K := fun r => K (e89 r))
 (fun hs hk=>⟨⟨isE,rfl⟩,(zBl K w zak X5 P5 S5 hX5 X6 P6 S6 hX6 zaW zau zaI zbF iv6 hv6 zdy zaE kv6 zbw zaL (fun i=>zae (zaI.get i)) rfl (fun i=>zad (hv6.get i)) rfl (fun i=>zax (zbw.get i)) rfl (fun i=>zae (zaL.get i)) rfl hs hk)⟩)
 (fun hs hk => (zaX hs fun hc hs => ⟨hc, (zaM (K := fun r => K (e89 r))
 (fun hs hk=>(zuY K w zak X5 P5 S5 hX5 zaW zau zaI zbF true zbw zaL (fun i=>zae (zaI.get i)) rfl (fun i=>zax (zbw.get i)) rfl (fun i=>zae (zaL.get i)) rfl hs hk))
 (fun hs hk=>(zaX hs fun hc hs=>⟨⟨isE,isE,hc⟩,(zuY K w zak X5 P5 S5 hX5 zaW zau zaI zbF (decide ((zDG zaL zaI) < (0:Int))) zbw zaL (fun i=>zae (zaI.get i)) rfl (fun i=>zax (zbw.get i)) rfl (fun i=>zae (zaL.get i)) rfl hs hk)⟩)) hs hk)⟩)) hs hk)
  exact key _ zaW zau zaI zbF iv6 hv6 zdy zaE kv6 zbw zaL zbE zfg zdV zsv zbV zgX zbG zfh hs hk
def zo2 (w:web) (zak:(Sl (Sl Tab))) (S5:Int→Bool→(Sl step)→Int→(Sl (Sl Tab))→(Sl step)) (zaH:Int) (zaw:Bool) (zaK:(Sl step)) (zaN:Int) (za7:(Sl (Sl Tab))):(Sl step) :=
  (cond (decide (zaN < (zak.len : Int)))
 (cond (decide ((tg 80 ((za7.get zaN.toNat).get zaH.toNat) (0 + zaN.toNat * 2 + 0)) ≥ (0:Int)))
 (S5 zaH zaw zaK (w64 (zaN+(1:Int))) za7)
 (zu0 S5 w zak zaH zaw zaK zaN zaN (za7.get zaN.toNat) zaN (0:Int) (w64 (zaH - (1:Int))) za7 (⟨0,(fun _=>default)⟩:Sl step)))
 zaK)
def zo3 (w:web) (zak:(Sl (Sl Tab))) (P5:Int→Bool→(Sl step)→Int→(Sl (Sl Tab))→Bool) (zaH:Int) (zaw:Bool) (zaK:(Sl step)) (zaN:Int) (za7:(Sl (Sl Tab))):Bool :=
  (cond (decide (zaN < (zak.len : Int)))
 (decide ((0≤zaN∧zaN < (za7.len:Int))) &&
 (decide ((zaN.toNat < za7.len)) &&
 (decide ((0≤zaH∧zaH < ((za7.get zaN.toNat).len:Int))) &&
 (decide ((0≤zaN∧zaN < (40:Int))) &&
 (cond (decide ((tg 80 ((za7.get zaN.toNat).get zaH.toNat) (0 + zaN.toNat * 2 + 0)) ≥ (0:Int)))
 (P5 zaH zaw zaK (w64 (zaN+(1:Int))) za7)
 (zu1 P5 w zak zaH zaw zaK zaN zaN (za7.get zaN.toNat) zaN (0:Int) (w64 (zaH - (1:Int))) za7 (⟨0,(fun _=>default)⟩:Sl step)))))))
 true)
def zjf (w : web) (zak : (Sl (Sl Tab))) : Nat → Int → Bool → (Sl step) → Int → (Sl (Sl Tab)) → (Sl step)
  | 0=>fun _ _ _ _ _=>default
  | k+1=>zo2 w zak (zjf w zak k)
def zjg (w : web) (zak : (Sl (Sl Tab))) : Nat → Int → Bool → (Sl step) → Int → (Sl (Sl Tab)) → Bool
  | 0=>fun _ _ _ _ _=>false
  | k+1=>zo3 w zak (zjg w zak k)
def zu3 (w:web) (zak:(Sl (Sl Tab))) (zaH:Int) (zaw:Bool) (zaK:(Sl step)) (zaN:Int) (za7:(Sl (Sl Tab))):(Sl step):=zjf w zak Fuel zaH zaw zaK zaN za7
def zu4 (w:web) (zak:(Sl (Sl Tab))) (zaH:Int) (zaw:Bool) (zaK:(Sl step)) (zaN:Int) (za7:(Sl (Sl Tab))):Bool:=zjg w zak Fuel zaH zaw zaK zaN za7
theorem zBn (K:List PA→Prop) (w:web) (zak:(Sl (Sl Tab))) (zaH:Int) (zaw:Bool) (zaK:(Sl step)) (zaN:Int) (za7:(Sl (Sl Tab))) (zbd:Nat→List PV) (zdS:zbd=fun i=>zae (zaK.get i)) (zbB:Nat→List PV) (zeZ:zbB=fun i=>zax (za7.get i)) (hs:zu4 w zak zaH zaw zaK zaN za7=true) (hk:K (e89 (zu3 w zak zaH zaw zaK zaN za7))):zi7 K w zak zaH zaw zaK.len zbd zaN za7.len zbB:=by
  refine zuV K w zak zaH zaw zaK.len zbd zaN za7.len zbB ?_
  intro X5 hstep
  have key:∀ (k:Nat) (zaH:Int) (zaw:Bool) (zaK:(Sl step)) (zaN:Int) (za7:(Sl (Sl Tab))) (zbd:Nat→List PV) (zdS:zbd=fun i=>zae (zaK.get i)) (zbB:Nat→List PV) (zeZ:zbB=fun i=>zax (za7.get i)),zjg w zak k zaH zaw zaK zaN za7=true→K (e89 (zjf w zak k zaH zaw zaK zaN za7))→X5 (zes w zak zaH zaw zaK.len zbd zaN za7.len zbB):=by
    intro k
    induction k with
    | zero=>intro zaH zaw zaK zaN za7 zbd zdS zbB zeZ hs;exact absurd hs Bool.false_ne_true
    | succ k ih =>
      intro zaH zaw zaK zaN za7 zbd zdS zbB zeZ hs hk
      subst zdS
      subst zeZ
      refine hstep zaH zaw zaK zaN za7 ?_
      have hs:zo3 w zak (zjg w zak k) zaH zaw zaK zaN za7=true:=hs
      have hk:K (e89 (zo2 w zak (zjf w zak k) zaH zaw zaK zaN za7)):=hk
      unfold zo3 at hs
      unfold zo2 at hk
      generalize zjf w zak k=S5 at hk ih
      generalize zjg w zak k=P5 at hs ih
      have hX5:=ih
      exact (zaM (K := fun r => K (e89 r))
 (fun hs hk => (zaX hs fun hc hs => ⟨hc, (zaX hs fun hc hs => ⟨hc, (zaX hs fun hc hs => ⟨hc, (zaX hs fun hc hs => ⟨hc, (zaM (K := fun r => K (e89 r))
 (fun hs hk=>(hX5 zaH zaw zaK (w64 (zaN+(1:Int))) za7 (fun i=>zae (zaK.get i)) rfl (fun i=>zax (za7.get i)) rfl hs hk))
 (fun hs hk=>(zBm K w zak X5 P5 S5 hX5 zaH zaw zaK zaN zaN (za7.get zaN.toNat) zaN (0:Int) (w64 (zaH - (1:Int))) za7 (⟨0,(fun _=>default)⟩:Sl step) (fun i=>zae (zaK.get i)) rfl (fun i=>zad ((za7.get zaN.toNat).get i)) rfl (fun i=>zax (za7.get i)) rfl (fun i=>zae ((fun _=>default) i)) rfl hs hk)) hs hk)⟩)⟩)⟩)⟩))
 (fun hs hk=>hk) hs hk)
  exact key _ zaH zaw zaK zaN za7 zbd zdS zbB zeZ hs hk
def zlQ (w:web) (zc7:Int) (zak:(Sl (Sl Tab))):(Sl step) :=
  (zu3 w zak zc7 true (⟨0,(fun _=>default)⟩:Sl step) (0:Int) zak)
def zlR (w:web) (zc7:Int) (zak:(Sl (Sl Tab))):Bool :=
  (zu4 w zak zc7 true (⟨0,(fun _=>default)⟩:Sl step) (0:Int) zak)
theorem zu5 (K:List PA→Prop) (w:web) (zc7:Int) (zak:(Sl (Sl Tab))) (zgV:Nat→List PV) (zBo:zgV=fun i=>zax (zak.get i)) (hs:zlR w zc7 zak=true) (hk:K (e89 (zlQ w zc7 zak))):zi6 K w zc7 zak.len zgV:=by
  subst zBo
  refine za9 (zBi K w zc7 zak) ?_
  unfold zlR at hs
  unfold zlQ at hk
  exact (zBn K w zak zc7 true (⟨0,(fun _=>default)⟩:Sl step) (0:Int) zak (fun i=>zae ((fun _=>default) i)) rfl (fun i=>zax (zak.get i)) rfl hs hk)
def zo4 (S2:Int→(Sl step)) (w:web) (zaB:(Sl (Sl Tab))) (S3:Int→Int→(Sl step)) (zaS:Int) (zbn:Int):(Sl step) :=
  (cond (decide (zbn < (zaB.len : Int)))
 (cond (decide ((tg 80 ((zaB.get zbn.toNat).get zaS.toNat) (0 + zbn.toNat * 2 + 0)) < (0:Int)))
 (zlQ w zaS zaB)
 (S3 zaS (w64 (zbn+(1:Int)))))
 (S2 (w64 (zaS+(1:Int)))))
def zo5 (P2:Int→Bool) (w:web) (zaB:(Sl (Sl Tab))) (P3:Int→Int→Bool) (zaS:Int) (zbn:Int):Bool :=
  (cond (decide (zbn < (zaB.len : Int)))
 (decide ((0≤zbn∧zbn < (zaB.len:Int))) &&
 (decide ((zbn.toNat < zaB.len)) &&
 (decide ((0≤zaS∧zaS < ((zaB.get zbn.toNat).len:Int))) &&
 (decide ((0≤zbn∧zbn < (40:Int))) &&
 (cond (decide ((tg 80 ((zaB.get zbn.toNat).get zaS.toNat) (0 + zbn.toNat * 2 + 0)) < (0:Int)))
 (zlR w zaS zaB)
 (P3 zaS (w64 (zbn+(1:Int)))))))))
 (P2 (w64 (zaS+(1:Int)))))
def zjh (S2 : Int → (Sl step)) (w : web) (zaB : (Sl (Sl Tab))) : Nat → Int → Int → (Sl step)
  | 0=>fun _ _=>default
  | k+1=>zo4 S2 w zaB (zjh S2 w zaB k)
def zji (P2 : Int → Bool) (w : web) (zaB : (Sl (Sl Tab))) : Nat → Int → Int → Bool
  | 0=>fun _ _=>false
  | k+1=>zo5 P2 w zaB (zji P2 w zaB k)
def zu6 (S2:Int→(Sl step)) (w:web) (zaB:(Sl (Sl Tab))) (zaS:Int) (zbn:Int):(Sl step):=zjh S2 w zaB Fuel zaS zbn
def zu7 (P2:Int→Bool) (w:web) (zaB:(Sl (Sl Tab))) (zaS:Int) (zbn:Int):Bool:=zji P2 w zaB Fuel zaS zbn
theorem zBp (K : List PA → Prop) (w : web) (zaB : (Sl (Sl Tab)))
  (X2:St→Prop) (P2:Int→Bool) (S2:Int→(Sl step))
  (hX2:∀ (zaZ:Int),P2 zaZ=true→K (e89 (S2 zaZ))→X2 (zhv w zaB zaZ)) (zaS:Int) (zbn:Int) (hs:zu7 P2 w zaB zaS zbn=true) (hk:K (e89 (zu6 S2 w zaB zaS zbn))):zi5 K X2 w zaB zaS zbn:=by
  refine zuU K X2 w zaB zaS zbn ?_
  intro X3 hstep
  have key:∀ (k:Nat) (zaS:Int) (zbn:Int),zji P2 w zaB k zaS zbn=true→K (e89 (zjh S2 w zaB k zaS zbn))→X3 (zi4 w zaB zaS zbn):=by
    intro k
    induction k with
    | zero=>intro zaS zbn hs;exact absurd hs Bool.false_ne_true
    | succ k ih =>
      intro zaS zbn hs hk
      refine hstep zaS zbn ?_
      have hs:zo5 P2 w zaB (zji P2 w zaB k) zaS zbn=true:=hs
      have hk:K (e89 (zo4 S2 w zaB (zjh S2 w zaB k) zaS zbn)):=hk
      unfold zo5 at hs
      unfold zo4 at hk
      generalize zjh S2 w zaB k=S3 at hk ih
      generalize zji P2 w zaB k=P3 at hs ih
      have hX3:=ih
      exact (zaM (K := fun r => K (e89 r))
 (fun hs hk => (zaX hs fun hc hs => ⟨hc, (zaX hs fun hc hs => ⟨hc, (zaX hs fun hc hs => ⟨hc, (zaX hs fun hc hs => ⟨hc, (zaM (K := fun r => K (e89 r))
 (fun hs hk=>(zu5 K w zaS zaB (fun i=>zax (zaB.get i)) rfl hs hk))
 (fun hs hk=>(hX3 zaS (w64 (zbn+(1:Int))) hs hk)) hs hk)⟩)⟩)⟩)⟩))
 (fun hs hk=>(hX2 (w64 (zaS+(1:Int))) hs hk)) hs hk)
  exact key _ zaS zbn hs hk
def zo6 (w:web) (zaB:(Sl (Sl Tab))) (S2:Int→(Sl step)) (zaZ:Int):(Sl step) :=
  (cond (decide (zaZ < w.Net.Nodes))
 (zu6 S2 w zaB zaZ (0:Int))
 (zlQ w zaZ zaB))
def zo7 (w:web) (zaB:(Sl (Sl Tab))) (P2:Int→Bool) (zaZ:Int):Bool :=
  (cond (decide (zaZ < w.Net.Nodes))
 (zu7 P2 w zaB zaZ (0:Int))
 (zlR w zaZ zaB))
def zjj (w : web) (zaB : (Sl (Sl Tab))) : Nat → Int → (Sl step)
  | 0=>fun _=>default
  | k+1=>zo6 w zaB (zjj w zaB k)
def zjk (w : web) (zaB : (Sl (Sl Tab))) : Nat → Int → Bool
  | 0=>fun _=>false
  | k+1=>zo7 w zaB (zjk w zaB k)
def zu8 (w:web) (zaB:(Sl (Sl Tab))) (zaZ:Int):(Sl step):=zjj w zaB Fuel zaZ
def zu9 (w:web) (zaB:(Sl (Sl Tab))) (zaZ:Int):Bool:=zjk w zaB Fuel zaZ
theorem zBq (K:List PA→Prop) (w:web) (zaB:(Sl (Sl Tab))) (zaZ:Int) (hs:zu9 w zaB zaZ=true) (hk:K (e89 (zu8 w zaB zaZ))):zi3 K w zaB zaZ:=by
  refine zuT K w zaB zaZ ?_
  intro X2 hstep
  have key:∀ (k:Nat) (zaZ:Int),zjk w zaB k zaZ=true→K (e89 (zjj w zaB k zaZ))→X2 (zhv w zaB zaZ):=by
    intro k
    induction k with
    | zero=>intro zaZ hs;exact absurd hs Bool.false_ne_true
    | succ k ih =>
      intro zaZ hs hk
      refine hstep zaZ ?_
      have hs:zo7 w zaB (zjk w zaB k) zaZ=true:=hs
      have hk:K (e89 (zo6 w zaB (zjj w zaB k) zaZ)):=hk
      unfold zo7 at hs
      unfold zo6 at hk
      generalize zjj w zaB k=S2 at hk ih
      generalize zjk w zaB k=P2 at hs ih
      have hX2:=ih
      exact (zaM (K := fun r => K (e89 r))
 (fun hs hk=>(zBp K w zaB X2 P2 S2 hX2 zaZ (0:Int) hs hk))
 (fun hs hk=>(zu5 K w zaZ zaB (fun i=>zax (zaB.get i)) rfl hs hk)) hs hk)
  exact key _ zaZ hs hk
def zo8 (w:web) (zaB:(Sl (Sl Tab))):(Sl step) :=
  (zu8 w zaB (1:Int))
def zo9 (w:web) (zaB:(Sl (Sl Tab))):Bool :=
  (zu9 w zaB (1:Int))
theorem zBr (K:List PA→Prop) (w:web) (zaB:(Sl (Sl Tab))) (zgU:Nat→List PV) (zBs:zgU=fun i=>zax (zaB.get i)) (hs:zo9 w zaB=true) (hk:K (e89 (zo8 w zaB))):zlL K w zaB.len zgU:=by
  subst zBs
  refine za9 (zBh K w zaB) ?_
  unfold zo9 at hs
  unfold zo8 at hk
  exact (zBq K w zaB (1:Int) hs hk)
def zpa (w:web) (S0:Int→(Sl (Sl Tab))→(Sl step)) (zbg:Int) (zbJ:(Sl (Sl Tab))):(Sl step) :=
  (cond (decide (zbg < (w.Net.Nodes.toNat : Int)))
 (S0 (w64 (zbg+(1:Int))) (⟨zbJ.len,(setT zbg.toNat (zuC w zbg w.Net.Nodes) zbJ.get)⟩:Sl (Sl Tab)))
 (zo8 w zbJ))
def zpb (w:web) (P0:Int→(Sl (Sl Tab))→Bool) (zbg:Int) (zbJ:(Sl (Sl Tab))):Bool :=
  (cond (decide (zbg < (w.Net.Nodes.toNat : Int)))
 (decide ((zEK w zbg w.Net.Nodes=true)) &&
 (decide ((0≤zbg∧zbg < (zbJ.len:Int))) &&
 (decide ((zbg.toNat < zbJ.len)) &&
 (P0 (w64 (zbg+(1:Int))) (⟨zbJ.len,(setT zbg.toNat (zuC w zbg w.Net.Nodes) zbJ.get)⟩:Sl (Sl Tab))))))
 (zo9 w zbJ))
def zjl (w : web) : Nat → Int → (Sl (Sl Tab)) → (Sl step)
  | 0=>fun _ _=>default
  | k+1=>zpa w (zjl w k)
def zjm (w : web) : Nat → Int → (Sl (Sl Tab)) → Bool
  | 0=>fun _ _=>false
  | k+1=>zpb w (zjm w k)
def zva (w:web) (zbg:Int) (zbJ:(Sl (Sl Tab))):(Sl step):=zjl w Fuel zbg zbJ
def zvb (w:web) (zbg:Int) (zbJ:(Sl (Sl Tab))):Bool:=zjm w Fuel zbg zbJ
theorem zBt (K:List PA→Prop) (w:web) (zbg:Int) (zbJ:(Sl (Sl Tab))) (zch:Nat→List PV) (zjn:zch=fun i=>zax (zbJ.get i)) (hs:zvb w zbg zbJ=true) (hk:K (e89 (zva w zbg zbJ))):zi2 K w zbg zbJ.len zch:=by
  refine zuS K w zbg zbJ.len zch ?_
  intro X0 hstep
  have key:∀ (k:Nat) (zbg:Int) (zbJ:(Sl (Sl Tab))) (zch:Nat→List PV) (zjn:zch=fun i=>zax (zbJ.get i)),zjm w k zbg zbJ=true→K (e89 (zjl w k zbg zbJ))→X0 (zi1 w zbg zbJ.len zch):=by
    intro k
    induction k with
    | zero=>intro zbg zbJ zch zjn hs;exact absurd hs Bool.false_ne_true
    | succ k ih =>
      intro zbg zbJ zch zjn hs hk
      subst zjn
      refine hstep zbg zbJ ?_
      have hs:zpb w (zjm w k) zbg zbJ=true:=hs
      have hk:K (e89 (zpa w (zjl w k) zbg zbJ)):=hk
      unfold zpb at hs
      unfold zpa at hk
      generalize zjl w k=S0 at hk ih
      generalize zjm w k=P0 at hs ih
      have hX0:=ih
      exact (zaM (K := fun r => K (e89 r))
 (fun hs hk=>(zaX hs fun hc hs=>⟨⟨isE,rfl,hc⟩,(zaX hs fun hc hs=>⟨hc,(zaX hs fun hc hs=>⟨hc,(hX0 (w64 (zbg+(1:Int))) (⟨zbJ.len,(setT zbg.toNat (zuC w zbg w.Net.Nodes) zbJ.get)⟩:Sl (Sl Tab)) (zhE zbg.toNat 0 (fun i=>zax (zbJ.get i)) (zax (zuC w zbg w.Net.Nodes))) (zky (enc:=zax) (i:=zbg.toNat) (k:=0) (f:=zbJ.get) (new:=(zax (zuC w zbg w.Net.Nodes))) (v:=(zuC w zbg w.Net.Nodes)) rfl rfl) hs hk)⟩)⟩)⟩))
 (fun hs hk=>(zBr K w zbJ (fun i=>zax (zbJ.get i)) rfl hs hk)) hs hk)
  exact key _ zbg zbJ zch zjn hs hk
def s89 (w:web):(Sl step) :=
  (zva w (0:Int) (⟨w.Net.Nodes.toNat,(fun _=>(⟨0,fun _=>(fun _=>(0:Int))⟩:(Sl Tab)))⟩:Sl (Sl Tab)))
def p89 (w:web):Bool :=
  (decide ((0≤w.Net.Nodes∧w.Net.Nodes=w.Net.Nodes∧w.Net.Nodes≤1000000)) &&
 (zvb w (0:Int) (⟨w.Net.Nodes.toNat,(fun _=>(⟨0,fun _=>(fun _=>(0:Int))⟩:(Sl Tab)))⟩:Sl (Sl Tab))))
theorem q89 (w:web) (K:List PA→Prop) (hs:p89 w=true) (hk:K (e89 (s89 w))):vcFun Tryd.prog G89 zaJ 89 [.one (.fp (zat w) 0)] K:=by
  refine za9 (zBg w K) ?_
  unfold p89 at hs
  unfold s89 at hk
  exact (zaX hs fun hc hs=>⟨hc,(zBt K w (0:Int) (⟨w.Net.Nodes.toNat,(fun _=>(⟨0,fun _=>(fun _=>(0:Int))⟩:(Sl Tab)))⟩:Sl (Sl Tab)) (fun _=>(zax (⟨0,fun _=>(fun _=>(0:Int))⟩:(Sl Tab)))) rfl hs hk)⟩)
def zy0 : List PA → COut
  | [.one (.fp [.int .i64 a0_Net_Nodes,.sl a0_Net_Ties_n a0_Net_Ties_s a0_Net_Ties_g,.fm a0_out_q a0_out_n a0_out_F] 0)]=>.det (IsE enc_40 4 a0_Net_Ties_s a0_Net_Ties_g∧a0_out_q=(false,1,false,[none])∧p89 (⟨(⟨a0_Net_Nodes,(⟨a0_Net_Ties_n,zaa a0_Net_Ties_g⟩:(Sl Tie))⟩:Net),(⟨a0_out_n,a0_out_F⟩:Mp)⟩:web)=true) [.one (.sl ((s89 (⟨(⟨a0_Net_Nodes,(⟨a0_Net_Ties_n,zaa a0_Net_Ties_g⟩:(Sl Tie))⟩:Net),(⟨a0_out_n,a0_out_F⟩:Mp)⟩:web)).len) 5 (fun i=>zae ((s89 (⟨(⟨a0_Net_Nodes,(⟨a0_Net_Ties_n,zaa a0_Net_Ties_g⟩:(Sl Tie))⟩:Net),(⟨a0_out_n,a0_out_F⟩:Mp)⟩:web)).get i)))]
  | _=>.no
theorem zEX:zan Tryd.prog 89:=⟨_,rfl,rfl,by kernel_rfl⟩
theorem zHT:Ok Tryd.prog 89 zy0:=zbr zGO zEX fun args K h=>by
  unfold zy0 at h
  split at h
  · rename_i a0_Net_Nodes a0_Net_Ties_n a0_Net_Ties_s a0_Net_Ties_g a0_out_q a0_out_n a0_out_F
    obtain ⟨⟨⟨rfl,a0_Net_Ties_f,rfl⟩,rfl,hs⟩,hk⟩:=h
    try rw [zaj a0_Net_Ties_f] at hs
    try rw [zaj a0_Net_Ties_f] at hk
    exact ⟨(fun _ _=>[]),(fun _=>false),zaJ,q89 (⟨(⟨a0_Net_Nodes,(⟨a0_Net_Ties_n,a0_Net_Ties_f⟩:(Sl Tie))⟩:Net),(⟨a0_out_n,a0_out_F⟩:Mp)⟩:web) K hs hk⟩
  · exact h.elim
end Go.Proofs
/-
  DERIVED: THE SHELF's CONTRACTS AT THIS DUMP,IN PLAIN WORDS (tools/lay-plain.mjs out of 'YtedhjaaikeakoaaDoorPmLk.lean',which tools/lay-shelf.mjs wrote): THE SAME DECLARATIONS UNDER THE SAME NAMES: 'import','namespace','open','def','theorem' AND NOTHING ELSE: no command of the shelf's: FOR A HAND-IN. Each laying: the table of numbers ('.._ren') and one theorem,a field a fact of the dump's own or the kernel's comparison;each contract: ONE APPLICATION.
-/
namespace Go.Proofs
open Go.Shelf
def Tryd.keysA_ren:Go.Shelf.Ren:=⟨fun | 7=>103 | 10=>117 | n=>n,fun | 23=>103 | 26=>3 | 3=>4 | 28=>152 | 0=>0 | 27=>151 | 33=>169 | 4=>4 | n=>n,fun | n=>n⟩
theorem Tryd.keysA : Go.Proofs.SlLaysZI.n7 Tryd.prog Tryd.keysA_ren := {
  mixed:=by kernel_rfl
  f7:=⟨Tryd.f103.name,by decide,Tryd.func103.trans (congrArg some (by kernel_rfl))⟩
  f10:=⟨Tryd.f117.name,by decide,Tryd.func117.trans (congrArg some (by kernel_rfl))⟩
  t0:=Tryd.underlying0
  a0:=Tryd.isAgg0
  z0:=Tryd.sizeOf0
  v0:=Tryd.zeroValue0
  t4:=Tryd.underlying4
  a4:=Tryd.isAgg4
  z4:=Tryd.sizeOf4
  v4:=Tryd.zeroValue4
  t23:=Tryd.underlying103
  a23:=Tryd.isAgg103
  z23:=Tryd.sizeOf103
  v23:=Tryd.zeroValue103
  t26:=Tryd.underlying3
  a26:=Tryd.isAgg3
  z26:=Tryd.sizeOf3
  v26:=Tryd.zeroValue3
  t27:=Tryd.underlying151
  a27:=Tryd.isAgg151
  z27:=Tryd.sizeOf151
  v27:=Tryd.zeroValue151
  t28:=Tryd.underlying152
  a28:=Tryd.isAgg152
  z28:=Tryd.sizeOf152
  v28:=Tryd.zeroValue152
  t33:=Tryd.underlying169
  a33:=Tryd.isAgg169
  z33:=Tryd.sizeOf169
  v33:=Tryd.zeroValue169 }
def Tryd.sortedA_ren:Go.Shelf.Ren:=⟨fun | 6=>102 | 8=>115 | 9=>116 | 11=>129 | 13=>113 | 12=>130 | 23=>127 | 24=>128 | 14=>136 | 15=>137 | 16=>138 | 17=>139 | 18=>140 | 19=>141 | 20=>142 | 21=>143 | 22=>144 | 25=>146 | 26=>132 | 27=>133 | 28=>147 | 29=>148 | 30=>114 | 31=>149 | n=>n,fun | 26=>3 | 28=>152 | 24=>27 | 0=>0 | 3=>3 | 37=>168 | 48=>182 | 50=>184 | 4=>4 | 40=>175 | 39=>174 | 45=>179 | 5=>5 | 9=>9 | 51=>187 | 55=>191 | 57=>199 | 58=>200 | 33=>169 | n=>n,fun | n=>n⟩
theorem Tryd.sortedA : Go.Proofs.SlLaysZI.n6 Tryd.prog Tryd.sortedA_ren := {
  mixed:=by kernel_rfl
  f6:=⟨Tryd.f102.name,by decide,Tryd.func102.trans (congrArg some (by kernel_rfl))⟩
  f8:=⟨Tryd.f115.name,by decide,Tryd.func115.trans (congrArg some (by kernel_rfl))⟩
  f11:=⟨Tryd.f129.name,by decide,Tryd.func129.trans (congrArg some (by kernel_rfl))⟩
  t0:=Tryd.underlying0
  a0:=Tryd.isAgg0
  z0:=Tryd.sizeOf0
  v0:=Tryd.zeroValue0
  t24:=Tryd.underlying27
  a24:=Tryd.isAgg27
  z24:=Tryd.sizeOf27
  v24:=Tryd.zeroValue27
  t26:=Tryd.underlying3
  a26:=Tryd.isAgg3
  z26:=Tryd.sizeOf3
  v26:=Tryd.zeroValue3
  t28:=Tryd.underlying152
  a28:=Tryd.isAgg152
  z28:=Tryd.sizeOf152
  v28:=Tryd.zeroValue152
  i26:=by kernel_rfl }
def Tryd.sortA_ren:Go.Shelf.Ren:=⟨fun | 5=>116 | 8=>113 | 7=>130 | 19=>127 | 20=>128 | 10=>136 | 11=>137 | 12=>138 | 13=>139 | 14=>140 | 15=>141 | 16=>142 | 17=>143 | 18=>144 | 30=>146 | 31=>132 | 32=>133 | 33=>147 | 34=>148 | 35=>114 | 40=>149 | n=>n,fun | 23=>27 | 25=>3 | 3=>3 | 32=>168 | 22=>27 | 0=>0 | 44=>182 | 46=>184 | 4=>4 | 36=>175 | 35=>174 | 41=>179 | 5=>5 | 9=>9 | 53=>187 | 57=>191 | 63=>199 | 64=>200 | n=>n,fun | n=>n⟩
theorem Tryd.sortA : Go.Proofs.SlLaysM.n5 Tryd.prog Tryd.sortA_ren := {
  mixed:=by kernel_rfl
  f5:=⟨Tryd.f116.name,by decide,Tryd.func116.trans (congrArg some (by kernel_rfl))⟩
  f7:=⟨Tryd.f130.name,by decide,Tryd.func130.trans (congrArg some (by kernel_rfl))⟩
  f8:=Tryd.func113.trans (congrArg some (by kernel_rfl))
  f10:=⟨Tryd.f136.name,by decide,Tryd.func136.trans (congrArg some (by kernel_rfl))⟩
  f11:=⟨Tryd.f137.name,by decide,Tryd.func137.trans (congrArg some (by kernel_rfl))⟩
  f12:=⟨Tryd.f138.name,by decide,Tryd.func138.trans (congrArg some (by kernel_rfl))⟩
  f13:=⟨Tryd.f139.name,by decide,Tryd.func139.trans (congrArg some (by kernel_rfl))⟩
  f14:=⟨Tryd.f140.name,by decide,Tryd.func140.trans (congrArg some (by kernel_rfl))⟩
  f15:=⟨Tryd.f141.name,by decide,Tryd.func141.trans (congrArg some (by kernel_rfl))⟩
  f16:=⟨Tryd.f142.name,by decide,Tryd.func142.trans (congrArg some (by kernel_rfl))⟩
  f17:=⟨Tryd.f143.name,by decide,Tryd.func143.trans (congrArg some (by kernel_rfl))⟩
  f18:=⟨Tryd.f144.name,by decide,Tryd.func144.trans (congrArg some (by kernel_rfl))⟩
  f19:=Tryd.func127.trans (congrArg some (by kernel_rfl))
  f20:=Tryd.func128.trans (congrArg some (by kernel_rfl))
  f30:=⟨Tryd.f146.name,by decide,Tryd.func146.trans (congrArg some (by kernel_rfl))⟩
  f31:=Tryd.func132.trans (congrArg some (by kernel_rfl))
  f32:=Tryd.func133.trans (congrArg some (by kernel_rfl))
  f33:=⟨Tryd.f147.name,by decide,Tryd.func147.trans (congrArg some (by kernel_rfl))⟩
  f34:=⟨Tryd.f148.name,by decide,Tryd.func148.trans (congrArg some (by kernel_rfl))⟩
  f35:=⟨Tryd.f114.name,by decide,Tryd.func114.trans (congrArg some (by kernel_rfl))⟩
  f40:=⟨Tryd.f149.name,by decide,Tryd.func149.trans (congrArg some (by kernel_rfl))⟩
  t0:=Tryd.underlying0
  a0:=Tryd.isAgg0
  z0:=Tryd.sizeOf0
  v0:=Tryd.zeroValue0
  t3:=Tryd.underlying3
  a3:=Tryd.isAgg3
  z3:=Tryd.sizeOf3
  v3:=Tryd.zeroValue3
  t4:=Tryd.underlying4
  a4:=Tryd.isAgg4
  z4:=Tryd.sizeOf4
  v4:=Tryd.zeroValue4
  t5:=Tryd.underlying5
  a5:=Tryd.isAgg5
  z5:=Tryd.sizeOf5
  v5:=Tryd.zeroValue5
  t9:=Tryd.underlying9
  a9:=Tryd.isAgg9
  z9:=Tryd.sizeOf9
  v9:=Tryd.zeroValue9
  t22:=Tryd.underlying27
  a22:=Tryd.isAgg27
  z22:=Tryd.sizeOf27
  v22:=Tryd.zeroValue27
  t23:=Tryd.underlying27
  a23:=Tryd.isAgg27
  z23:=Tryd.sizeOf27
  v23:=Tryd.zeroValue27
  t25:=Tryd.underlying3
  a25:=Tryd.isAgg3
  z25:=Tryd.sizeOf3
  v25:=Tryd.zeroValue3
  t32:=Tryd.underlying168
  a32:=Tryd.isAgg168
  z32:=Tryd.sizeOf168
  v32:=Tryd.zeroValue168
  t35:=Tryd.underlying174
  a35:=Tryd.isAgg174
  z35:=Tryd.sizeOf174
  v35:=Tryd.zeroValue174
  t36:=Tryd.underlying175
  a36:=Tryd.isAgg175
  z36:=Tryd.sizeOf175
  v36:=Tryd.zeroValue175
  t41:=Tryd.underlying179
  a41:=Tryd.isAgg179
  z41:=Tryd.sizeOf179
  v41:=Tryd.zeroValue179
  t44:=Tryd.underlying182
  a44:=Tryd.isAgg182
  z44:=Tryd.sizeOf182
  v44:=Tryd.zeroValue182
  t46:=Tryd.underlying184
  a46:=Tryd.isAgg184
  z46:=Tryd.sizeOf184
  v46:=Tryd.zeroValue184
  t53:=Tryd.underlying187
  a53:=Tryd.isAgg187
  z53:=Tryd.sizeOf187
  v53:=Tryd.zeroValue187
  t57:=Tryd.underlying191
  a57:=Tryd.isAgg191
  z57:=Tryd.sizeOf191
  v57:=Tryd.zeroValue191
  t63:=Tryd.underlying199
  a63:=Tryd.isAgg199
  z63:=Tryd.sizeOf199
  v63:=Tryd.zeroValue199
  t64:=Tryd.underlying200
  a64:=Tryd.isAgg200
  z64:=Tryd.sizeOf200
  v64:=Tryd.zeroValue200 }
end Go.Proofs
namespace Go.Pm
open Go.RowKit Go.Maps Go.Sort Go.Shelf Go.Proofs
set_option maxRecDepth 100000

theorem zjo {F : List Int → Option (List Int)} : ∀ (f : Nat) (i : Int) (n : Nat) (l : List Int), zsB F f i n = some l → l.length = n ∧ (∀ x ∈ l, F [x] ≠ none ∧ i ≤ x ∧ x < i + f) ∧ l.Pairwise (· < ·)
  | _,_,0,l,h=>by simp [zsB] at h;subst h;exact ⟨rfl,fun x hx=>by simp at hx,List.Pairwise.nil⟩
  | 0,_,n+1,l,h=>by simp [zsB] at h
  | f+1,i,n+1,l,h=>by
    simp only [zsB] at h
    split at h
    · rename_i v hv
      split at h
      · rename_i r hr
        simp only [Option.some.injEq] at h;subst h
        obtain ⟨h1,h2,h3⟩:=zjo f (i+1) n r hr
        refine ⟨by simp [h1],fun x hx=>?_,List.pairwise_cons.2 ⟨fun x hx=>by have:=h2 x hx;omega,h3⟩⟩
        rcases List.mem_cons.1 hx with rfl | hx
        · exact ⟨by rw [hv];simp,by omega,by omega⟩
        · have:=h2 x hx;exact ⟨this.1,by omega,by omega⟩
      · cases h
    · obtain ⟨h1, h2, h3⟩ := zjo f (i + 1) (n + 1) l h
      exact ⟨h1,fun x hx=>by have:=h2 x hx;exact ⟨this.1,by omega,by omega⟩,h3⟩
theorem zjq {α : Type} [DecidableEq α] : ∀ {l m : List α}, l.Nodup → (∀ x ∈ l, x ∈ m) → m.length ≤ l.length → l.Perm m
  | [],m,_,_,h=>by
    have:m=[]:=List.eq_nil_of_length_eq_zero (by simpa using h)
    subst this;exact .refl _
  | a :: l,m,hn,hs,h=>by
    obtain ⟨h1,h2⟩:=List.nodup_cons.1 hn
    have ha:=hs a List.mem_cons_self
    have hp:=List.perm_cons_erase ha
    refine (List.Perm.cons a (zjq h2 (fun x hx=>?_) ?_)).trans hp.symm
    · exact (List.mem_erase_of_ne (fun e=>h1 (by rw [← e];exact hx))).2 (hs x (List.mem_cons_of_mem _ hx))
    · have := hp.length_eq
      simp at this h
      omega

theorem zy1:zmh Tryd.prog 103 (.keys 117):=fun w mb=>by
 refine ⟨⟨_,rfl,rfl,by kernel_rfl⟩,?_⟩
 have c:CallsIn Fence.wide 5 Tryd.prog 103 #[.map (some mb)] w fun e w'=>e=.returned (.func (.func 117) #[] #[.pointer (some ⟨w.heap.size,0,none⟩)])∧w'=w.alloc (.cells #[.map (some mb)] 103):=AnyZI.keys_in Tryd.keysA Fence.wide 5 trivial rfl (some mb) w
 refine ((callsIn_wide (n:=5)).1 c).mono ?_
 rintro e w' ⟨rfl,rfl⟩
 exact ⟨rfl,_,rfl⟩
theorem sortsA (m:Nat):AnyZI.SortsIn Tryd.prog Tryd.sortedA_ren Fence.wide m :=
  ⟨fun blk off cap ss W hH hblk hsz=>callsIn_wide.2 (AnyM.slices_Sort_int Tryd.sortA blk off cap ss W hH hblk hsz),
   fun p cap W=>callsIn_wide.2 (AnyM.slices_Sort_int_none Tryd.sortA p cap W)⟩

def rdN:Value→Option (DataW Unit×List MemPlace):=fun _=>some (.nil,[])
theorem zsx:zmh Tryd.prog 102 (.sorted 117):=fun w h k mb C ty fr es clock vt q n F hw hk hC hb hE hm hn hky=>by
 refine ⟨⟨_,rfl,rfl,by kernel_rfl⟩,?_⟩
 obtain ⟨en,M⟩:=hm
 have E:=zfq hE
 have hq1:q.1=false:=by
  have e:=E.kag
  rw [show zd0 Tryd.prog 3=some false by kernel_rfl] at e
  exact (Option.some.inj e).symm
 have hq2:q.2.1=1:=by
  have e:=E.key
  rw [show zda Tryd.prog 8 3=some 1 by kernel_rfl] at e
  exact (Option.some.inj e).symm
 obtain ⟨l,hl⟩:=Option.isSome_iff_exists.1 hky
 have hll:zsC F n=l:=by unfold zsC;rw [hl];rfl
 obtain ⟨l1,l2,l3⟩:=zjo _ _ _ _ hl
 rw [hll]
 have one:∀ x∈en,x.1=[x.1.headD 0]:=fun x hx=>by
  have:=(M.len x hx).1
  rw [hq2] at this
  match x.1,this with
  | [a],_=>rfl
 have hkeys:es.toList.map (·.key)=(en.map fun x=>x.1.headD 0).map encZ:=by
  have:=congrArg (List.map Prod.fst) M.ents
  simp only [List.map_map] at this ⊢
  refine (show es.toList.map (·.key)=_ from this).trans (List.map_congr_left fun x hx=>?_)
  show zbs q.1 x.1=encZ (x.1.headD 0)
  rw [hq1];rfl
 have hkn:(en.map fun x=>x.1.headD 0).Nodup:=by
  have:(en.map (·.1))=(en.map fun x=>x.1.headD 0).map fun a=>[a]:=by
   rw [List.map_map];exact List.map_congr_left fun x hx=>one x hx
  have hd:=M.nodup
  rw [this] at hd
  exact (List.pairwise_map.1 hd).imp fun h e=>h (by rw [e])
 have hperm:l.Perm (en.map fun x=>x.1.headD 0):=by
  refine zjq (l3.imp fun h=>Int.ne_of_lt h) (fun x hx=>?_) (by rw [List.length_map,← M.size,l1];exact Nat.le_refl _)
  have h1:=(l2 x hx).1
  rw [M.find [x] (by rw [hq2];rfl)] at h1
  by_cases hex:∃ y∈en,y.1=[x]
  ·obtain ⟨y, hy, e⟩ := hex
   exact List.mem_map.2 ⟨y,hy,by rw [e];rfl⟩
  ·exact absurd (zfb fun y hy e=>hex ⟨y,hy,e⟩) h1
 have hread:∀ x∈es.toList,∃ a:Int,x.key=encZ a∧keyOf Tryd.prog 3 x.key=some (.int .i64 a):=fun x hx=>by
  have hm:x.key∈es.toList.map (·.key):=List.mem_map.2 ⟨x,hx,rfl⟩
  rw [hkeys] at hm
  obtain ⟨a,ha,e⟩:=List.mem_map.1 hm
  have hb:=(l2 a (hperm.mem_iff.2 ha)).2
  refine ⟨a,e.symm,?_⟩
  rw [← e]
  have hu:Tryd.prog.underlying 3=some (.int .i64):=Tryd.underlying3
  have hwf:(Lit.int .i64 a).wf=true:=by
   simp only [Lit.wf,Bool.and_eq_true,decide_eq_true_eq]
   have e1:IntKind.i64.min = -9223372036854775808:=by decide
   have e2:IntKind.i64.max=9223372036854775807:=by decide
   rw [e1,e2]
   have:=hb.2
   omega
  simp [keyOf,mapKey,hu,hwf]
 have hsize:es.size=n:=by
  have:=congrArg List.length M.ents
  simp at this
  rw [this,M.size]
 have hst:MapKept.Stamped es clock:=⟨M.born,M.bornN,by rw [hkeys];exact List.pairwise_map.2 (hkn.imp fun h e=>h (encZ_inj e))⟩
 have hown:w.ownsMap Tryd.prog 3 rdN mb n (.map ((es.toList.map (WideElems.rg Tryd.prog 3 rdN)).foldr DataW.insert [])) :=
  ⟨es,clock,hb,⟨by rw [hsize];exact Nat.le_trans hn (by decide),hst,fun x hx=>by
   obtain ⟨a,e1,e2⟩:=hread x hx
   exact ⟨(.int .i64 a,.nil),by simp only [WideElems.rd,e2,rdN,Option.bind_some,Option.map_some]⟩⟩,by omega,rfl⟩
 have hik:(intKeys (.map ((es.toList.map (WideElems.rg Tryd.prog 3 rdN)).foldr DataW.insert []))).Perm l:=by
  show (((es.toList.map (WideElems.rg Tryd.prog 3 rdN)).foldr DataW.insert []).map fun p=>intOf p.1).Perm l
  refine ((WideShapes.sorted_perm _).map _).trans (List.Perm.trans (List.Perm.of_eq ?_) hperm.symm)
  rw [List.map_map]
  have e:(en.map fun x=>x.1.headD 0)=es.toList.map fun x=>intOf ((keyOf Tryd.prog 3 x.key).getD (.bool false)):=by
   have h1:(en.map fun x=>x.1.headD 0)=((en.map fun x=>x.1.headD 0).map encZ).map fun v=>match v with | .int _ a=>a | _=>0:=by
    rw [List.map_map];exact (List.map_id _).symm
   rw [h1,← hkeys,List.map_map]
   refine List.map_congr_left fun x hx=>?_
   obtain ⟨a,e1,e2⟩:=hread x hx
   simp only [Function.comp,e2]
   rw [e1];rfl
  rw [e]
  refine List.map_congr_left fun x hx=>?_
  obtain ⟨a,e1,e2⟩:=hread x hx
  simp only [Function.comp,WideElems.rg,WideElems.rd,e2,rdN,Option.bind_some,Option.map_some,Option.getD_some]
 have hsz:Maps.size (DataW.map ((es.toList.map (WideElems.rg Tryd.prog 3 rdN)).foldr DataW.insert []):DataW Unit)=n:=by
  show List.length _=n
  rw [(WideShapes.sorted_perm _).length_eq];simp [hsize]
 have hlt:k < w.heap.size:=hw.lt hk
 have hcell:w.cell? ⟨k,0,none⟩=some (.map (some mb)):=by
  have:=hw.fz hk
  simp [World.cell?,this,hC]
 have hseq:SeqGives Fence.wide 2 Tryd.prog 117 #[.pointer (some ⟨k,0,none⟩)] encZ (fun ss=>ss.Perm (intKeys _)) (Maps.size _) w :=
  AnyZI.keys_gives (ρ:=Tryd.keysA_ren) { Tryd.keysA with } Fence.wide _ trivial rfl (by omega) k mb n _ w hlt hcell hown
 have cS:=AnyZI.sorted_in Tryd.sortedA Fence.wide 5 trivial trivial trivial trivial rfl (by omega) (sortsA _) (enters_of Tryd.func116 (by kernel_rfl) rfl) 117 #[.pointer (some ⟨k,0,none⟩)] trivial (enters_of Tryd.func117 (by kernel_rfl) rfl) _ _ (by rw [hsz];exact Nat.le_trans hn (by decide)) (by rw [hsz];omega) _ hseq
 change CallsIn _ _ Tryd.prog 102 _ _ _ at cS
 refine ((callsIn_wide (n:=5)).1 cS).mono ?_
 rintro e w' ⟨v,ss,rfl,hS,hrow,_,hbel⟩
 refine ⟨v,rfl,?_,⟨hbel,Nat.zero_le _⟩⟩
 have hsl:ss.mergeSort (fun x y=>decide (x≤y))=l:=by
  rw [show ss.mergeSort (fun x y=>decide (x≤y))=l.mergeSort leI from mergeSort_of_perm_i (hS.trans hik)]
  exact List.mergeSort_of_pairwise (l3.imp fun h=>by simp only [leI,decide_eq_true_eq];exact Int.le_of_lt h)
 have hlen:ss.length=n:=by rw [(hS.trans hik).length_eq,l1]
 rw [hsl,hlen] at hrow
 exact hrow
end Go.Pm
namespace Go.Proofs
open Go Go.Pm
set_option maxRecDepth 100000
set_option linter.unusedVariables false
attribute [local irreducible] Go.Pm.vcFun Go.Pm.vc Go.Pm.vcIter
abbrev zzL:OwnK:=.sorted 117
theorem zGP:zmh Tryd.prog 102 zzL:=zsx
abbrev zzM:OwnK:=.keys 117
theorem zGQ:zmh Tryd.prog 103 zzM:=zy1
structure Rec69 where
  S:web→Int→((Sl (Sl Int))×web)
  P:web→Int→Bool
class Slf69 where
  r:Rec69
section
variable [Slf69]
def zvc : MK
  | [.box 105 [.p (.int .i64 b0_Net_Nodes),.p (.sl b0_Net_Ties_n b0_Net_Ties_s b0_Net_Ties_g),.mo 3 4 b0_out_q b0_out_n b0_out_F],.d (.one (.int .i64 b1))]=>some (IsE enc_40 4 b0_Net_Ties_s b0_Net_Ties_g∧b0_out_q=(false,1,false,[none])∧Slf69.r.P (⟨(⟨b0_Net_Nodes,(⟨b0_Net_Ties_n,zaa b0_Net_Ties_g⟩:(Sl Tie))⟩:Net),(⟨b0_out_n,b0_out_F⟩:Mp)⟩:web) b1=true,[.one (.sl (((Slf69.r.S (⟨(⟨b0_Net_Nodes,(⟨b0_Net_Ties_n,zaa b0_Net_Ties_g⟩:(Sl Tie))⟩:Net),(⟨b0_out_n,b0_out_F⟩:Mp)⟩:web) b1).1).len) 1 (fun i=>zbX (((Slf69.r.S (⟨(⟨b0_Net_Nodes,(⟨b0_Net_Ties_n,zaa b0_Net_Ties_g⟩:(Sl Tie))⟩:Net),(⟨b0_out_n,b0_out_F⟩:Mp)⟩:web) b1).1).get i)))],[.box 105 [.p (.int .i64 (((Slf69.r.S (⟨(⟨b0_Net_Nodes,(⟨b0_Net_Ties_n,zaa b0_Net_Ties_g⟩:(Sl Tie))⟩:Net),(⟨b0_out_n,b0_out_F⟩:Mp)⟩:web) b1).2).Net.Nodes)),.p (.sl (((Slf69.r.S (⟨(⟨b0_Net_Nodes,(⟨b0_Net_Ties_n,zaa b0_Net_Ties_g⟩:(Sl Tie))⟩:Net),(⟨b0_out_n,b0_out_F⟩:Mp)⟩:web) b1).2).Net.Ties.len) 4 (fun i=>enc_40 (((Slf69.r.S (⟨(⟨b0_Net_Nodes,(⟨b0_Net_Ties_n,zaa b0_Net_Ties_g⟩:(Sl Tie))⟩:Net),(⟨b0_out_n,b0_out_F⟩:Mp)⟩:web) b1).2).Net.Ties.get i))),.mo 3 4 (false,1,false,[none]) ((((Slf69.r.S (⟨(⟨b0_Net_Nodes,(⟨b0_Net_Ties_n,zaa b0_Net_Ties_g⟩:(Sl Tie))⟩:Net),(⟨b0_out_n,b0_out_F⟩:Mp)⟩:web) b1).2).out).n) ((((Slf69.r.S (⟨(⟨b0_Net_Nodes,(⟨b0_Net_Ties_n,zaa b0_Net_Ties_g⟩:(Sl Tie))⟩:Net),(⟨b0_out_n,b0_out_F⟩:Mp)⟩:web) b1).2).out).F)],.d (.one (.int .i64 b1))])
  | _=>none
abbrev T69:Tabs:=(((((Tabs.nil.addF 88 zux).addF 89 zy0).addO 102 zzL).addO 103 zzM).addM 69 zvc)
theorem zGR (hself:zhB Tryd.prog 69 zvc):TabsOk Tryd.prog T69:=(((((TabsOk.nil.addF zGC).addF zHT).addO zGP).addO zGQ).addM hself)
abbrev zy2:Ctrs:=csm T69 (fun _ _=>[]) (fun _=>false)
def zeu:Ann:=⟨57,[(0,⟨[0,1],[0,12288],[],[],[],[],[]⟩),(1,⟨[0,1,10],[0,12288],[],[],[],[],[]⟩),(2,⟨[0,4],[0,17,12288],[],[],[],[],[]⟩),(3,⟨[0,1,19],[0,12288],[],[],[],[],[]⟩),(4,⟨[0,4],[0,12288],[],[],[],[],[]⟩),(5,⟨[0,1,5],[0,12288],[],[],[],[],[]⟩),(6,⟨[0,1,5,21,22,23],[0,12288],[],[],[],[],[]⟩),(7,⟨[0,1,5,21,22,23,24],[0,47,12288],[],[],[],[],[]⟩),(8,⟨[0,1,5,7,21,22,23],[0,7,47,12288],[],[],[],[],[]⟩),(9,⟨[0,1,5,7,21,22,23,34],[0,7,47,12288],[],[],[],[],[]⟩),(10,⟨[0,1,5,7,21,22,23],[0,7,47,12288],[],[],[],[],[]⟩),(11,⟨[0,1,5,7,21,22,23],[0,7,47,12288],[],[],[],[],[]⟩),(12,⟨[0,1,5,21,22,23],[0,47,12288],[],[],[],[],[]⟩),(13,⟨[0,1,5,21,22,23],[0,47,12288],[],[],[],[],[]⟩),(14,⟨[0,4],[0,47,12288],[],[],[],[],[]⟩)],
 [(7,⟨[0,1,5,21,22,23],[0,47,12288],[(5,47,27,fun _=>zbX default)],[],[],[],[]⟩)],
 [],
 [],[]⟩
def ze0 (w:web) (left:Int) (zay:Int) (zaV:Int) (ze1:Nat) (zck:Nat→List PV) (ze2:Nat) (zcl:Nat→List PV) (zaf:Nat) (zab:(List Int→Option (List Int))):St:=⟨[(0,.one (.c (.ptr 0 0))),(1,.one (.c (.p (.int .i64 left)))),(5,.one (.c (.vec 47))),(21,.one (.c (.p (.sl ((s89 w).len) 5 (fun i=>zae ((s89 w).get i)))))),(22,.one (.c (.p (.int .i64 ((s89 w).len:Int))))),(23,.one (.c (.p (.int .i64 zay))))],[(0,.box 105 [.p (.int .i64 zaV),.p (.sl ze1 4 zck),.mo 12288]),(47,.vec 27 1 24 ze2 zcl),(12288,.mo 3 4 (false,1,false,[none]) zaf zab)],[]⟩
def zgs (K:List PA×List XA→Prop) (w:web) (left:Int) (zay:Int) (zaV:Int) (ze1:Nat) (zck:Nat→List PV) (ze2:Nat) (zcl:Nat→List PV) (zaf:Nat) (zab:(List Int→Option (List Int))):Prop:=vc Tryd.prog zy2 zeu (cdF Tryd.f69 [1,1,1,1,0,1,0]) (zai 0 (sqK Tryd.prog zy2 zeu (cdF Tryd.f69 [1,1,1,1,1]) (zj0 Tryd.prog Tryd.f69 [.box 105 [.p (.int .i64 w.Net.Nodes),.p (.sl w.Net.Ties.len 4 (fun i=>enc_40 (w.Net.Ties.get i))),.mo 3 4 (false,1,false,[none]) w.out.n w.out.F],.d (.one (.int .i64 left))] (fun a b=>K (a,b))))) (ze0 w left zay zaV ze1 zck ze2 zcl zaf zab)
theorem zy3 (w : web) (left : Int) (K : List PA × List XA → Prop) :
  ziK Tryd.prog zy2 zeu 69 [.box 105 [.p (.int .i64 w.Net.Nodes),.p (.sl w.Net.Ties.len 4 (fun i=>enc_40 (w.Net.Ties.get i))),.mo 3 4 (false,1,false,[none]) w.out.n w.out.F],.d (.one (.int .i64 left))] (fun a b=>K (a,b)) =
  ((IsE enc_40 4 4 (fun i=>enc_40 (w.Net.Ties.get i))∧((false,1,false,[none]):MQ)=(false,1,false,[none])∧(p88 w=true)) ∧
 (zbA (!(s88 w))
 (((w.out.n≤1000000∧(zsB w.out.F 9223372036854775808 0 w.out.n).isSome=true)) ∧
 (K ([.one (.sl 1 1 (fun _=>(zbX (⟨w.out.n,(fun i=>(zsC w.out.F w.out.n).getD i 0)⟩:(Sl Int)))))],[.box 105 [.p (.int .i64 w.Net.Nodes),.p (.sl w.Net.Ties.len 4 (fun i=>enc_40 (w.Net.Ties.get i))),.mo 3 4 (false,1,false,[none]) w.out.n w.out.F],.d (.one (.int .i64 left))])))
 (zbA (left == (0:Int))
 (K ([.one (.nils)],[.box 105 [.p (.int .i64 w.Net.Nodes),.p (.sl w.Net.Ties.len 4 (fun i=>enc_40 (w.Net.Ties.get i))),.mo 3 4 (false,1,false,[none]) w.out.n w.out.F],.d (.one (.int .i64 left))]))
 (((∀ i,sc2 ((fun i=>zae ((s89 w).get i)) i)=true)∧IsE enc_40 4 4 (fun i=>enc_40 (w.Net.Ties.get i))∧((false,1,false,[none]):MQ)=(false,1,false,[none])∧(p89 w=true)) ∧
 (zgs K w left (0:Int) w.Net.Nodes w.Net.Ties.len (fun i=>enc_40 (w.Net.Ties.get i)) 0 (fun i=>zbX ((fun _=>default) i)) w.out.n w.out.F))))):=by kernel_rfl
def zkF (K:List PA×List XA→Prop) (X0:St→Prop) (w:web) (left:Int) (zay:Int) (zaV:Int) (zaY:(Sl Tie)) (zbo:(Sl (Sl Int))) (zaf:Nat) (zab:(List Int→Option (List Int))):Prop :=
  (zbA (decide (zay < ((s89 w).len : Int)))
 (((0≤zay∧zay < ((s89 w).len:Int))) ∧
 (zbA ((zxI (zab [((s89 w).get zay.toNat).Use.Tie]) 0) != 0)
 (X0 (ze0 w left (w64 (zay+(1:Int))) zaV zaY.len (fun i=>enc_40 (zaY.get i)) zbo.len (fun i=>zbX (zbo.get i)) zaf zab))
 ((IsE enc_40 4 4 (fun i=>enc_40 (zaY.get i))∧((false,1,false,[none]):MQ)=(false,1,false,[none])∧(Slf69.r.P (⟨(⟨zaV,zaY⟩:Net),(⟨(addN (zab [((s89 w).get zay.toNat).Use.Tie]) zaf),(zdh [((s89 w).get zay.toNat).Use.Tie] [1] zab)⟩:Mp)⟩:web) (w64 (left - (1:Int)))=true)) ∧
 ((((zbo.len+((Slf69.r.S (⟨(⟨zaV,zaY⟩:Net),(⟨(addN (zab [((s89 w).get zay.toNat).Use.Tie]) zaf),(zdh [((s89 w).get zay.toNat).Use.Tie] [1] zab)⟩:Mp)⟩:web) (w64 (left - (1:Int)))).1).len) * 24≤140737488355328∧zbo.len+((Slf69.r.S (⟨(⟨zaV,zaY⟩:Net),(⟨(addN (zab [((s89 w).get zay.toNat).Use.Tie]) zaf),(zdh [((s89 w).get zay.toNat).Use.Tie] [1] zab)⟩:Mp)⟩:web) (w64 (left - (1:Int)))).1).len≤9223372036854775807)) ∧
 (X0 (ze0 w left (w64 (zay+(1:Int))) (((Slf69.r.S (⟨(⟨zaV,zaY⟩:Net),(⟨(addN (zab [((s89 w).get zay.toNat).Use.Tie]) zaf),(zdh [((s89 w).get zay.toNat).Use.Tie] [1] zab)⟩:Mp)⟩:web) (w64 (left - (1:Int)))).2).Net.Nodes) (((Slf69.r.S (⟨(⟨zaV,zaY⟩:Net),(⟨(addN (zab [((s89 w).get zay.toNat).Use.Tie]) zaf),(zdh [((s89 w).get zay.toNat).Use.Tie] [1] zab)⟩:Mp)⟩:web) (w64 (left - (1:Int)))).2).Net.Ties.len) (fun i=>enc_40 (((Slf69.r.S (⟨(⟨zaV,zaY⟩:Net),(⟨(addN (zab [((s89 w).get zay.toNat).Use.Tie]) zaf),(zdh [((s89 w).get zay.toNat).Use.Tie] [1] zab)⟩:Mp)⟩:web) (w64 (left - (1:Int)))).2).Net.Ties.get i)) (zbo.len+((Slf69.r.S (⟨(⟨zaV,zaY⟩:Net),(⟨(addN (zab [((s89 w).get zay.toNat).Use.Tie]) zaf),(zdh [((s89 w).get zay.toNat).Use.Tie] [1] zab)⟩:Mp)⟩:web) (w64 (left - (1:Int)))).1).len) (appG zbo.len (fun i=>zbX (zbo.get i)) (fun i=>zbX (((Slf69.r.S (⟨(⟨zaV,zaY⟩:Net),(⟨(addN (zab [((s89 w).get zay.toNat).Use.Tie]) zaf),(zdh [((s89 w).get zay.toNat).Use.Tie] [1] zab)⟩:Mp)⟩:web) (w64 (left - (1:Int)))).1).get i))) (zzi (((((Slf69.r.S (⟨(⟨zaV,zaY⟩:Net),(⟨(addN (zab [((s89 w).get zay.toNat).Use.Tie]) zaf),(zdh [((s89 w).get zay.toNat).Use.Tie] [1] zab)⟩:Mp)⟩:web) (w64 (left - (1:Int)))).2).out).F) [((s89 w).get zay.toNat).Use.Tie]) ((((Slf69.r.S (⟨(⟨zaV,zaY⟩:Net),(⟨(addN (zab [((s89 w).get zay.toNat).Use.Tie]) zaf),(zdh [((s89 w).get zay.toNat).Use.Tie] [1] zab)⟩:Mp)⟩:web) (w64 (left - (1:Int)))).2).out).n)) (zxO [((s89 w).get zay.toNat).Use.Tie] ((((Slf69.r.S (⟨(⟨zaV,zaY⟩:Net),(⟨(addN (zab [((s89 w).get zay.toNat).Use.Tie]) zaf),(zdh [((s89 w).get zay.toNat).Use.Tie] [1] zab)⟩:Mp)⟩:web) (w64 (left - (1:Int)))).2).out).F))))))))
 (K ([.one (.sl zbo.len 1 (fun i=>zbX (zbo.get i)))],[.box 105 [.p (.int .i64 zaV),.p (.sl zaY.len 4 (fun i=>enc_40 (zaY.get i))),.mo 3 4 (false,1,false,[none]) zaf zab],.d (.one (.int .i64 left))])))
theorem znv (K : List PA × List XA → Prop) (X0 : St → Prop) (w : web) (left : Int) (zay : Int) (zaV : Int) (zaY : (Sl Tie)) (zbo : (Sl (Sl Int))) (zaf : Nat) (zab : (List Int → Option (List Int))) :
  vc Tryd.prog zy2 zeu (cd (cdF Tryd.f69 [1,1,1,1,0,1,0]) [0]) (zba Tryd.prog zeu 7 X0 (zai 0 (sqK Tryd.prog zy2 zeu (cdF Tryd.f69 [1,1,1,1,1]) (zj0 Tryd.prog Tryd.f69 [.box 105 [.p (.int .i64 w.Net.Nodes),.p (.sl w.Net.Ties.len 4 (fun i=>enc_40 (w.Net.Ties.get i))),.mo 3 4 (false,1,false,[none]) w.out.n w.out.F],.d (.one (.int .i64 left))] (fun a b=>K (a,b)))))) (ze0 w left zay zaV zaY.len (fun i=>enc_40 (zaY.get i)) zbo.len (fun i=>zbX (zbo.get i)) zaf zab) =
  zkF K X0 w left zay zaV zaY zbo zaf zab:=by kernel_rfl
theorem zsy (K : List PA × List XA → Prop) (w : web) (left : Int) (zay : Int) (zaV : Int) (ze1 : Nat) (zck : Nat → List PV) (ze2 : Nat) (zcl : Nat → List PV) (zaf : Nat) (zab : (List Int → Option (List Int)))
  (h:∀ X0:St→Prop,(∀ (zay:Int) (zaV:Int) (zaY:(Sl Tie)) (zbo:(Sl (Sl Int))) (zaf:Nat) (zab:(List Int→Option (List Int))),zkF K X0 w left zay zaV zaY zbo zaf zab→X0 (ze0 w left zay zaV zaY.len (fun i=>enc_40 (zaY.get i)) zbo.len (fun i=>zbX (zbo.get i)) zaf zab))→X0 (ze0 w left zay zaV ze1 zck ze2 zcl zaf zab)) :
  zgs K w left zay zaV ze1 zck ze2 zcl zaf zab:=by
  have e:zgs K w left zay zaV ze1 zck ze2 zcl zaf zab=(∀ X:St→Prop,(∀ s,vc Tryd.prog zy2 zeu (cd (cdF Tryd.f69 [1,1,1,1,0,1,0]) [0]) (zba Tryd.prog zeu 7 X (zai 0 (sqK Tryd.prog zy2 zeu (cdF Tryd.f69 [1,1,1,1,1]) (zj0 Tryd.prog Tryd.f69 [.box 105 [.p (.int .i64 w.Net.Nodes),.p (.sl w.Net.Ties.len 4 (fun i=>enc_40 (w.Net.Ties.get i))),.mo 3 4 (false,1,false,[none]) w.out.n w.out.F],.d (.one (.int .i64 left))] (fun a b=>K (a,b)))))) s→X s)→X (ze0 w left zay zaV ze1 zck ze2 zcl zaf zab)):=by kernel_rfl
  refine za9 e ?_
  intro X hX
  refine h X ?_
  intro zay zaV zaY zbo zaf zab hs
  refine hX _ ?_
  have e2:=znv K X w left zay zaV zaY zbo zaf zab
  rw [e2]
  exact hs
abbrev zzN (left:Int) (r:((Sl (Sl Int))×web)):List PA×List XA:=([.one (.sl r.1.len 1 (fun i=>zbX (r.1.get i)))],[.box 105 [.p (.int .i64 r.2.Net.Nodes),.p (.sl r.2.Net.Ties.len 4 (fun i=>enc_40 (r.2.Net.Ties.get i))),.mo 3 4 (false,1,false,[none]) r.2.out.n r.2.out.F],.d (.one (.int .i64 left))])
attribute [irreducible] zgs
def zlS (w:web) (left:Int) (S0:Int→Int→(Sl Tie)→(Sl (Sl Int))→Nat→(List Int→Option (List Int))→((Sl (Sl Int))×web)) (zay:Int) (zaV:Int) (zaY:(Sl Tie)) (zbo:(Sl (Sl Int))) (zaf:Nat) (zab:(List Int→Option (List Int))):((Sl (Sl Int))×web) :=
  (cond (decide (zay < ((s89 w).len : Int)))
 (cond ((zxI (zab [((s89 w).get zay.toNat).Use.Tie]) 0) != 0)
 (S0 (w64 (zay+(1:Int))) zaV zaY zbo zaf zab)
 (S0 (w64 (zay+(1:Int))) (((Slf69.r.S (⟨(⟨zaV,zaY⟩:Net),(⟨(addN (zab [((s89 w).get zay.toNat).Use.Tie]) zaf),(zdh [((s89 w).get zay.toNat).Use.Tie] [1] zab)⟩:Mp)⟩:web) (w64 (left - (1:Int)))).2).Net.Nodes) (((Slf69.r.S (⟨(⟨zaV,zaY⟩:Net),(⟨(addN (zab [((s89 w).get zay.toNat).Use.Tie]) zaf),(zdh [((s89 w).get zay.toNat).Use.Tie] [1] zab)⟩:Mp)⟩:web) (w64 (left - (1:Int)))).2).Net.Ties) (⟨(zbo.len+((Slf69.r.S (⟨(⟨zaV,zaY⟩:Net),(⟨(addN (zab [((s89 w).get zay.toNat).Use.Tie]) zaf),(zdh [((s89 w).get zay.toNat).Use.Tie] [1] zab)⟩:Mp)⟩:web) (w64 (left - (1:Int)))).1).len),(zsn zbo.len zbo.get ((Slf69.r.S (⟨(⟨zaV,zaY⟩:Net),(⟨(addN (zab [((s89 w).get zay.toNat).Use.Tie]) zaf),(zdh [((s89 w).get zay.toNat).Use.Tie] [1] zab)⟩:Mp)⟩:web) (w64 (left - (1:Int)))).1).get)⟩:Sl (Sl Int)) (zzi (((((Slf69.r.S (⟨(⟨zaV,zaY⟩:Net),(⟨(addN (zab [((s89 w).get zay.toNat).Use.Tie]) zaf),(zdh [((s89 w).get zay.toNat).Use.Tie] [1] zab)⟩:Mp)⟩:web) (w64 (left - (1:Int)))).2).out).F) [((s89 w).get zay.toNat).Use.Tie]) ((((Slf69.r.S (⟨(⟨zaV,zaY⟩:Net),(⟨(addN (zab [((s89 w).get zay.toNat).Use.Tie]) zaf),(zdh [((s89 w).get zay.toNat).Use.Tie] [1] zab)⟩:Mp)⟩:web) (w64 (left - (1:Int)))).2).out).n)) (zxO [((s89 w).get zay.toNat).Use.Tie] ((((Slf69.r.S (⟨(⟨zaV,zaY⟩:Net),(⟨(addN (zab [((s89 w).get zay.toNat).Use.Tie]) zaf),(zdh [((s89 w).get zay.toNat).Use.Tie] [1] zab)⟩:Mp)⟩:web) (w64 (left - (1:Int)))).2).out).F))))
 (zbo,(⟨(⟨zaV,zaY⟩:Net),(⟨zaf,zab⟩:Mp)⟩:web)))
def zlT (w:web) (left:Int) (P0:Int→Int→(Sl Tie)→(Sl (Sl Int))→Nat→(List Int→Option (List Int))→Bool) (zay:Int) (zaV:Int) (zaY:(Sl Tie)) (zbo:(Sl (Sl Int))) (zaf:Nat) (zab:(List Int→Option (List Int))):Bool :=
  (cond (decide (zay < ((s89 w).len : Int)))
 (decide ((0≤zay∧zay < ((s89 w).len:Int))) &&
 (cond ((zxI (zab [((s89 w).get zay.toNat).Use.Tie]) 0) != 0)
 (P0 (w64 (zay+(1:Int))) zaV zaY zbo zaf zab)
 (decide ((Slf69.r.P (⟨(⟨zaV,zaY⟩:Net),(⟨(addN (zab [((s89 w).get zay.toNat).Use.Tie]) zaf),(zdh [((s89 w).get zay.toNat).Use.Tie] [1] zab)⟩:Mp)⟩:web) (w64 (left - (1:Int)))=true)) &&
 (decide (((zbo.len+((Slf69.r.S (⟨(⟨zaV,zaY⟩:Net),(⟨(addN (zab [((s89 w).get zay.toNat).Use.Tie]) zaf),(zdh [((s89 w).get zay.toNat).Use.Tie] [1] zab)⟩:Mp)⟩:web) (w64 (left - (1:Int)))).1).len) * 24≤140737488355328∧zbo.len+((Slf69.r.S (⟨(⟨zaV,zaY⟩:Net),(⟨(addN (zab [((s89 w).get zay.toNat).Use.Tie]) zaf),(zdh [((s89 w).get zay.toNat).Use.Tie] [1] zab)⟩:Mp)⟩:web) (w64 (left - (1:Int)))).1).len≤9223372036854775807)) &&
 (P0 (w64 (zay+(1:Int))) (((Slf69.r.S (⟨(⟨zaV,zaY⟩:Net),(⟨(addN (zab [((s89 w).get zay.toNat).Use.Tie]) zaf),(zdh [((s89 w).get zay.toNat).Use.Tie] [1] zab)⟩:Mp)⟩:web) (w64 (left - (1:Int)))).2).Net.Nodes) (((Slf69.r.S (⟨(⟨zaV,zaY⟩:Net),(⟨(addN (zab [((s89 w).get zay.toNat).Use.Tie]) zaf),(zdh [((s89 w).get zay.toNat).Use.Tie] [1] zab)⟩:Mp)⟩:web) (w64 (left - (1:Int)))).2).Net.Ties) (⟨(zbo.len+((Slf69.r.S (⟨(⟨zaV,zaY⟩:Net),(⟨(addN (zab [((s89 w).get zay.toNat).Use.Tie]) zaf),(zdh [((s89 w).get zay.toNat).Use.Tie] [1] zab)⟩:Mp)⟩:web) (w64 (left - (1:Int)))).1).len),(zsn zbo.len zbo.get ((Slf69.r.S (⟨(⟨zaV,zaY⟩:Net),(⟨(addN (zab [((s89 w).get zay.toNat).Use.Tie]) zaf),(zdh [((s89 w).get zay.toNat).Use.Tie] [1] zab)⟩:Mp)⟩:web) (w64 (left - (1:Int)))).1).get)⟩:Sl (Sl Int)) (zzi (((((Slf69.r.S (⟨(⟨zaV,zaY⟩:Net),(⟨(addN (zab [((s89 w).get zay.toNat).Use.Tie]) zaf),(zdh [((s89 w).get zay.toNat).Use.Tie] [1] zab)⟩:Mp)⟩:web) (w64 (left - (1:Int)))).2).out).F) [((s89 w).get zay.toNat).Use.Tie]) ((((Slf69.r.S (⟨(⟨zaV,zaY⟩:Net),(⟨(addN (zab [((s89 w).get zay.toNat).Use.Tie]) zaf),(zdh [((s89 w).get zay.toNat).Use.Tie] [1] zab)⟩:Mp)⟩:web) (w64 (left - (1:Int)))).2).out).n)) (zxO [((s89 w).get zay.toNat).Use.Tie] ((((Slf69.r.S (⟨(⟨zaV,zaY⟩:Net),(⟨(addN (zab [((s89 w).get zay.toNat).Use.Tie]) zaf),(zdh [((s89 w).get zay.toNat).Use.Tie] [1] zab)⟩:Mp)⟩:web) (w64 (left - (1:Int)))).2).out).F)))))))
 true)
def zgt (w : web) (left : Int) : Nat → Int → Int → (Sl Tie) → (Sl (Sl Int)) → Nat → (List Int → Option (List Int)) → ((Sl (Sl Int)) × web)
  | 0=>fun _ _ _ _ _ _=>default
  | k+1=>zlS w left (zgt w left k)
def zgu (w : web) (left : Int) : Nat → Int → Int → (Sl Tie) → (Sl (Sl Int)) → Nat → (List Int → Option (List Int)) → Bool
  | 0=>fun _ _ _ _ _ _=>false
  | k+1=>zlT w left (zgu w left k)
def zrK (w:web) (left:Int) (zay:Int) (zaV:Int) (zaY:(Sl Tie)) (zbo:(Sl (Sl Int))) (zaf:Nat) (zab:(List Int→Option (List Int))):((Sl (Sl Int))×web):=zgt w left Fuel zay zaV zaY zbo zaf zab
def zrL (w:web) (left:Int) (zay:Int) (zaV:Int) (zaY:(Sl Tie)) (zbo:(Sl (Sl Int))) (zaf:Nat) (zab:(List Int→Option (List Int))):Bool:=zgu w left Fuel zay zaV zaY zbo zaf zab
theorem zy4 (K:List PA×List XA→Prop) (w:web) (left:Int) (zay:Int) (zaV:Int) (zaY:(Sl Tie)) (zbo:(Sl (Sl Int))) (zaf:Nat) (zab:(List Int→Option (List Int))) (zck:Nat→List PV) (zjr:zck=fun i=>enc_40 (zaY.get i)) (zcl:Nat→List PV) (zjs:zcl=fun i=>zbX (zbo.get i)) (hs:zrL w left zay zaV zaY zbo zaf zab=true) (hk:K (zzN left (zrK w left zay zaV zaY zbo zaf zab))):zgs (WkM K) w left zay zaV zaY.len zck zbo.len zcl zaf zab:=by
  refine zsy (WkM K) w left zay zaV zaY.len zck zbo.len zcl zaf zab ?_
  intro X0 hstep
  have key:∀ (k:Nat) (zay:Int) (zaV:Int) (zaY:(Sl Tie)) (zbo:(Sl (Sl Int))) (zaf:Nat) (zab:(List Int→Option (List Int))) (zck:Nat→List PV) (zjr:zck=fun i=>enc_40 (zaY.get i)) (zcl:Nat→List PV) (zjs:zcl=fun i=>zbX (zbo.get i)),zgu w left k zay zaV zaY zbo zaf zab=true→K (zzN left (zgt w left k zay zaV zaY zbo zaf zab))→X0 (ze0 w left zay zaV zaY.len zck zbo.len zcl zaf zab):=by
    intro k
    induction k with
    | zero=>intro zay zaV zaY zbo zaf zab zck zjr zcl zjs hs;exact absurd hs Bool.false_ne_true
    | succ k ih =>
      intro zay zaV zaY zbo zaf zab zck zjr zcl zjs hs hk
      subst zjr
      subst zjs
      refine hstep zay zaV zaY zbo zaf zab ?_
      have hs:zlT w left (zgu w left k) zay zaV zaY zbo zaf zab=true:=hs
      have hk:K (zzN left (zlS w left (zgt w left k) zay zaV zaY zbo zaf zab)):=hk
      unfold zlT at hs
      unfold zlS at hk
      generalize zgt w left k=S0 at hk ih
      generalize zgu w left k=P0 at hs ih
      have hX0:=ih
      exact (zaM (K := fun r => K (zzN left r))
 (fun hs hk => (zaX hs fun hc hs => ⟨hc, (zaM (K := fun r => K (zzN left r))
 (fun hs hk=>(hX0 (w64 (zay+(1:Int))) zaV zaY zbo zaf zab (fun i=>enc_40 (zaY.get i)) rfl (fun i=>zbX (zbo.get i)) rfl hs hk))
 (fun hs hk=>(zaX hs fun hc hs=>⟨⟨isE,rfl,hc⟩,(zaX hs fun hc hs=>⟨hc,(hX0 (w64 (zay+(1:Int))) (((Slf69.r.S (⟨(⟨zaV,zaY⟩:Net),(⟨(addN (zab [((s89 w).get zay.toNat).Use.Tie]) zaf),(zdh [((s89 w).get zay.toNat).Use.Tie] [1] zab)⟩:Mp)⟩:web) (w64 (left - (1:Int)))).2).Net.Nodes) (((Slf69.r.S (⟨(⟨zaV,zaY⟩:Net),(⟨(addN (zab [((s89 w).get zay.toNat).Use.Tie]) zaf),(zdh [((s89 w).get zay.toNat).Use.Tie] [1] zab)⟩:Mp)⟩:web) (w64 (left - (1:Int)))).2).Net.Ties) (⟨(zbo.len+((Slf69.r.S (⟨(⟨zaV,zaY⟩:Net),(⟨(addN (zab [((s89 w).get zay.toNat).Use.Tie]) zaf),(zdh [((s89 w).get zay.toNat).Use.Tie] [1] zab)⟩:Mp)⟩:web) (w64 (left - (1:Int)))).1).len),(zsn zbo.len zbo.get ((Slf69.r.S (⟨(⟨zaV,zaY⟩:Net),(⟨(addN (zab [((s89 w).get zay.toNat).Use.Tie]) zaf),(zdh [((s89 w).get zay.toNat).Use.Tie] [1] zab)⟩:Mp)⟩:web) (w64 (left - (1:Int)))).1).get)⟩:Sl (Sl Int)) (zzi (((((Slf69.r.S (⟨(⟨zaV,zaY⟩:Net),(⟨(addN (zab [((s89 w).get zay.toNat).Use.Tie]) zaf),(zdh [((s89 w).get zay.toNat).Use.Tie] [1] zab)⟩:Mp)⟩:web) (w64 (left - (1:Int)))).2).out).F) [((s89 w).get zay.toNat).Use.Tie]) ((((Slf69.r.S (⟨(⟨zaV,zaY⟩:Net),(⟨(addN (zab [((s89 w).get zay.toNat).Use.Tie]) zaf),(zdh [((s89 w).get zay.toNat).Use.Tie] [1] zab)⟩:Mp)⟩:web) (w64 (left - (1:Int)))).2).out).n)) (zxO [((s89 w).get zay.toNat).Use.Tie] ((((Slf69.r.S (⟨(⟨zaV,zaY⟩:Net),(⟨(addN (zab [((s89 w).get zay.toNat).Use.Tie]) zaf),(zdh [((s89 w).get zay.toNat).Use.Tie] [1] zab)⟩:Mp)⟩:web) (w64 (left - (1:Int)))).2).out).F)) (fun i=>enc_40 (((Slf69.r.S (⟨(⟨zaV,zaY⟩:Net),(⟨(addN (zab [((s89 w).get zay.toNat).Use.Tie]) zaf),(zdh [((s89 w).get zay.toNat).Use.Tie] [1] zab)⟩:Mp)⟩:web) (w64 (left - (1:Int)))).2).Net.Ties.get i)) rfl (appG zbo.len (fun i=>zbX (zbo.get i)) (fun i=>zbX (((Slf69.r.S (⟨(⟨zaV,zaY⟩:Net),(⟨(addN (zab [((s89 w).get zay.toNat).Use.Tie]) zaf),(zdh [((s89 w).get zay.toNat).Use.Tie] [1] zab)⟩:Mp)⟩:web) (w64 (left - (1:Int)))).1).get i))) (zm0 (enc:=zbX) (f:=zbo.get) (h:=((Slf69.r.S (⟨(⟨zaV,zaY⟩:Net),(⟨(addN (zab [((s89 w).get zay.toNat).Use.Tie]) zaf),(zdh [((s89 w).get zay.toNat).Use.Tie] [1] zab)⟩:Mp)⟩:web) (w64 (left - (1:Int)))).1).get) rfl rfl) hs hk)⟩)⟩)) hs hk)⟩))
 (fun hs hk=>(zuj hk)) hs hk)
  exact key _ zay zaV zaY zbo zaf zab zck zjr zcl zjs hs hk
def zxL (w:web) (left:Int):((Sl (Sl Int))×web) :=
  (cond (!(s88 w))
 ((⟨1,fun _=>(⟨w.out.n,(fun i=>(zsC w.out.F w.out.n).getD i 0)⟩:(Sl Int))⟩:(Sl (Sl Int))),w)
 (cond (left == (0:Int))
 ((⟨0,fun _=>default⟩:(Sl (Sl Int))),w)
 (zrK w left (0:Int) w.Net.Nodes w.Net.Ties (⟨0,(fun _=>default)⟩:Sl (Sl Int)) w.out.n w.out.F)))
def zGg (w:web) (left:Int):Bool :=
  (decide ((p88 w=true)) &&
 (cond (!(s88 w))
 (decide ((w.out.n≤1000000∧(zsB w.out.F 9223372036854775808 0 w.out.n).isSome=true)) &&
 true)
 (cond (left == (0:Int))
 true
 (decide ((p89 w=true)) &&
 (zrL w left (0:Int) w.Net.Nodes w.Net.Ties (⟨0,(fun _=>default)⟩:Sl (Sl Int)) w.out.n w.out.F)))))
theorem zIs (w:web) (left:Int) (K:List PA×List XA→Prop) (hs:zGg w left=true) (hk:K (zzN left (zxL w left))):ziK Tryd.prog zy2 zeu 69 [.box 105 [.p (.int .i64 w.Net.Nodes),.p (.sl w.Net.Ties.len 4 (fun i=>enc_40 (w.Net.Ties.get i))),.mo 3 4 (false,1,false,[none]) w.out.n w.out.F],.d (.one (.int .i64 left))] (fun a b=>(WkM K) (a,b)):=by
  refine za9 (zy3 w left (WkM K)) ?_
  unfold zGg at hs
  unfold zxL at hk
  exact (zaX hs fun hc hs => ⟨⟨isE, rfl, hc⟩, (zaM (K := fun r => K (zzN left r))
 (fun hs hk=>(zaX hs fun hc hs=>⟨hc,(zuj hk)⟩))
 (fun hs hk => (zaM (K := fun r => K (zzN left r))
 (fun hs hk=>(wkM hk (zgx (.one (.nil _ _)) zm1)))
 (fun hs hk=>(zaX hs fun hc hs=>⟨⟨(fun _=>rfl),isE,rfl,hc⟩,(zy4 K w left (0:Int) w.Net.Nodes w.Net.Ties (⟨0,(fun _=>default)⟩:Sl (Sl Int)) w.out.n w.out.F (fun i=>enc_40 (w.Net.Ties.get i)) rfl (fun i=>zbX ((fun _=>default) i)) rfl hs hk)⟩)) hs hk)) hs hk)⟩)
def zEY : MK
  | [.box 105 [.p (.int .i64 b0_Net_Nodes),.p (.sl b0_Net_Ties_n b0_Net_Ties_s b0_Net_Ties_g),.mo 3 4 b0_out_q b0_out_n b0_out_F],.d (.one (.int .i64 b1))]=>some (IsE enc_40 4 b0_Net_Ties_s b0_Net_Ties_g∧b0_out_q=(false,1,false,[none])∧zGg (⟨(⟨b0_Net_Nodes,(⟨b0_Net_Ties_n,zaa b0_Net_Ties_g⟩:(Sl Tie))⟩:Net),(⟨b0_out_n,b0_out_F⟩:Mp)⟩:web) b1=true,[.one (.sl (((zxL (⟨(⟨b0_Net_Nodes,(⟨b0_Net_Ties_n,zaa b0_Net_Ties_g⟩:(Sl Tie))⟩:Net),(⟨b0_out_n,b0_out_F⟩:Mp)⟩:web) b1).1).len) 1 (fun i=>zbX (((zxL (⟨(⟨b0_Net_Nodes,(⟨b0_Net_Ties_n,zaa b0_Net_Ties_g⟩:(Sl Tie))⟩:Net),(⟨b0_out_n,b0_out_F⟩:Mp)⟩:web) b1).1).get i)))],[.box 105 [.p (.int .i64 (((zxL (⟨(⟨b0_Net_Nodes,(⟨b0_Net_Ties_n,zaa b0_Net_Ties_g⟩:(Sl Tie))⟩:Net),(⟨b0_out_n,b0_out_F⟩:Mp)⟩:web) b1).2).Net.Nodes)),.p (.sl (((zxL (⟨(⟨b0_Net_Nodes,(⟨b0_Net_Ties_n,zaa b0_Net_Ties_g⟩:(Sl Tie))⟩:Net),(⟨b0_out_n,b0_out_F⟩:Mp)⟩:web) b1).2).Net.Ties.len) 4 (fun i=>enc_40 (((zxL (⟨(⟨b0_Net_Nodes,(⟨b0_Net_Ties_n,zaa b0_Net_Ties_g⟩:(Sl Tie))⟩:Net),(⟨b0_out_n,b0_out_F⟩:Mp)⟩:web) b1).2).Net.Ties.get i))),.mo 3 4 (false,1,false,[none]) ((((zxL (⟨(⟨b0_Net_Nodes,(⟨b0_Net_Ties_n,zaa b0_Net_Ties_g⟩:(Sl Tie))⟩:Net),(⟨b0_out_n,b0_out_F⟩:Mp)⟩:web) b1).2).out).n) ((((zxL (⟨(⟨b0_Net_Nodes,(⟨b0_Net_Ties_n,zaa b0_Net_Ties_g⟩:(Sl Tie))⟩:Net),(⟨b0_out_n,b0_out_F⟩:Mp)⟩:web) b1).2).out).F)],.d (.one (.int .i64 b1))])
  | _=>none
theorem zEZ:zan Tryd.prog 69:=⟨_,rfl,rfl,by kernel_rfl⟩
theorem zGS (hself:zhB Tryd.prog 69 zvc):zhB Tryd.prog 69 zEY:=zyG (zGR hself) zEZ fun xs safe rs ys h hs K hk=>by
  unfold zEY at h
  split at h
  · rename_i b0_Net_Nodes b0_Net_Ties_n b0_Net_Ties_s b0_Net_Ties_g b0_out_q b0_out_n b0_out_F b1
    simp only [Option.some.injEq,Prod.mk.injEq] at h
    obtain ⟨rfl,rfl,rfl⟩:=h
    obtain ⟨⟨rfl,b0_Net_Ties_f,rfl⟩,rfl,hs⟩:=hs
    try rw [zaj b0_Net_Ties_f] at hs
    try rw [zaj b0_Net_Ties_f] at hk
    refine ⟨fun _ _=>[],fun _=>false,zeu,?_⟩
    show ziK Tryd.prog zy2 zeu 69 _ _
    exact zIs (⟨(⟨b0_Net_Nodes,(⟨b0_Net_Ties_n,b0_Net_Ties_f⟩:(Sl Tie))⟩:Net),(⟨b0_out_n,b0_out_F⟩:Mp)⟩:web) b1 (fun x=>K x.1 x.2) hs hk
  · cases h
end
def zsz : Nat → Rec69
  | 0=>⟨fun _ _=>default,fun _ _=>false⟩
  | k+1=>⟨@zxL ⟨zsz k⟩,@zGg ⟨zsz k⟩⟩
theorem zE0 : ∀ k, zhB Tryd.prog 69 (@zvc ⟨zsz k⟩)
  | 0=>fun xs ys safe rs h hs=>by
    unfold zvc at h
    split at h
    · simp only [Option.some.injEq, Prod.mk.injEq] at h
      obtain ⟨rfl,rfl,rfl⟩:=h
      exact absurd hs.2.2 Bool.false_ne_true
    · cases h
  | k+1=>@zGS ⟨zsz k⟩ (zE0 k)
def s69 (w:web) (left:Int):((Sl (Sl Int))×web):=(zsz 64).S w left
def p69 (w:web) (left:Int):Bool:=(zsz 64).P w left
def zE1 : MK
  | [.box 105 [.p (.int .i64 b0_Net_Nodes),.p (.sl b0_Net_Ties_n b0_Net_Ties_s b0_Net_Ties_g),.mo 3 4 b0_out_q b0_out_n b0_out_F],.d (.one (.int .i64 b1))]=>some (IsE enc_40 4 b0_Net_Ties_s b0_Net_Ties_g∧b0_out_q=(false,1,false,[none])∧p69 (⟨(⟨b0_Net_Nodes,(⟨b0_Net_Ties_n,zaa b0_Net_Ties_g⟩:(Sl Tie))⟩:Net),(⟨b0_out_n,b0_out_F⟩:Mp)⟩:web) b1=true,[.one (.sl (((s69 (⟨(⟨b0_Net_Nodes,(⟨b0_Net_Ties_n,zaa b0_Net_Ties_g⟩:(Sl Tie))⟩:Net),(⟨b0_out_n,b0_out_F⟩:Mp)⟩:web) b1).1).len) 1 (fun i=>zbX (((s69 (⟨(⟨b0_Net_Nodes,(⟨b0_Net_Ties_n,zaa b0_Net_Ties_g⟩:(Sl Tie))⟩:Net),(⟨b0_out_n,b0_out_F⟩:Mp)⟩:web) b1).1).get i)))],[.box 105 [.p (.int .i64 (((s69 (⟨(⟨b0_Net_Nodes,(⟨b0_Net_Ties_n,zaa b0_Net_Ties_g⟩:(Sl Tie))⟩:Net),(⟨b0_out_n,b0_out_F⟩:Mp)⟩:web) b1).2).Net.Nodes)),.p (.sl (((s69 (⟨(⟨b0_Net_Nodes,(⟨b0_Net_Ties_n,zaa b0_Net_Ties_g⟩:(Sl Tie))⟩:Net),(⟨b0_out_n,b0_out_F⟩:Mp)⟩:web) b1).2).Net.Ties.len) 4 (fun i=>enc_40 (((s69 (⟨(⟨b0_Net_Nodes,(⟨b0_Net_Ties_n,zaa b0_Net_Ties_g⟩:(Sl Tie))⟩:Net),(⟨b0_out_n,b0_out_F⟩:Mp)⟩:web) b1).2).Net.Ties.get i))),.mo 3 4 (false,1,false,[none]) ((((s69 (⟨(⟨b0_Net_Nodes,(⟨b0_Net_Ties_n,zaa b0_Net_Ties_g⟩:(Sl Tie))⟩:Net),(⟨b0_out_n,b0_out_F⟩:Mp)⟩:web) b1).2).out).n) ((((s69 (⟨(⟨b0_Net_Nodes,(⟨b0_Net_Ties_n,zaa b0_Net_Ties_g⟩:(Sl Tie))⟩:Net),(⟨b0_out_n,b0_out_F⟩:Mp)⟩:web) b1).2).out).F)],.d (.one (.int .i64 b1))])
  | _=>none
theorem zIt:zhB Tryd.prog 69 zE1:=zE0 64
abbrev T71:Tabs:=(Tabs.nil.addF 101 zry)
theorem zGT:TabsOk Tryd.prog T71:=(TabsOk.nil.addF zEP)
abbrev G71:Ctrs:=csm T71 (fun _ _=>[]) (fun _=>false)
def zBu:Ann:=⟨36,[(0,zK [0,1] []),(1,zK [0,1,9,10,11] []),(2,zK [0,1,9,10,11,12] []),(3,zK [0,1,5,6,9,10,11] []),(4,zK [0,1,5,6,9,10,11,19] []),(5,zK [4] []),(6,zK [0,1,6,7,9,10,11] []),(7,zK [0,1,8,9,10,11] []),(8,zK [0,1,8,9,10,11,28] []),(9,zK [4] []),(10,zK [0,1,9,10,11] []),(11,zK [35] []),(12,zK [4] []),(13,zK [4] [])],
 [(2,zK [0,1,9,10,11] [])],
 [(6,zK [0,1,5,6,9,10,11] []),(8,zK [0,1,8,9,10,11] [])],
 [],[]⟩
abbrev R71:=Int
abbrev e71 (r:R71):List PA:=[.one (.int .i64 r)]
@[irreducible] def z71:=ptF Tryd.prog G71 zBu Tryd.f71
def zzO (zdU:(Sl Int)) (zdw:(Sl Int)) (zfJ:(Sl Int)) (zaA:Int) (zaP:Int) (zcV:Nat→List PV) (zcW:Nat→List PV) (zhw:Nat→List PV):St:=⟨[(0,zP (.sl zdU.len 1 zcV)),(1,zP (.sl zdw.len 1 zcW)),(9,zP (.sl zfJ.len 1 zhw)),(10,zI zaA),(11,zI zaP)],[],[]⟩
abbrev zy5 (K:List PA→Prop) (X:St→Prop) (P:(Sl Int)→(Sl Int)→(Sl Int)→Int→Int→Bool) (S:(Sl Int)→(Sl Int)→(Sl Int)→Int→Int→Int):Prop:=∀ ⦃zdU:(Sl Int)⦄ ⦃zdw:(Sl Int)⦄ ⦃zfJ:(Sl Int)⦄ ⦃zaA:Int⦄ ⦃zaP:Int⦄ ⦃zcV:Nat→List PV⦄ ⦃zcW:Nat→List PV⦄ ⦃zhw:Nat→List PV⦄,P zdU zdw zfJ zaA zaP=true→K (e71 (S zdU zdw zfJ zaA zaP))→zcV=zg enc_3 zdU→zcW=zg enc_3 zdw→zhw=zg enc_3 zfJ→X (zzO zdU zdw zfJ zaA zaP zcV zcW zhw)
section
variable {K:List PA→Prop} {s1_a0:(Sl Int)} {s2_a1:(Sl Int)} {zdU:(Sl Int)} {zdw:(Sl Int)} {zfJ:(Sl Int)} {zaA:Int} {zaP:Int} {zcV:Nat→List PV} {zcW:Nat→List PV} {zhw:Nat→List PV} {X0:St→Prop} {P0:(Sl Int)→(Sl Int)→(Sl Int)→Int→Int→Bool} {S0:(Sl Int)→(Sl Int)→(Sl Int)→Int→Int→Int} {znf:(Sl Int)} {zhQ:(Sl Int)} {iv1:Int} {zBv:Int} {zpc:(Sl Int)} {zgv:Int} {zcv:Int} {zng:Nat→List PV} {znh:Nat→List PV} {zzP:Nat→List PV} {zni:(Sl Int)} {znj:(Sl Int)} {cv2:Int} {zpd:Int} {znk:Nat→List PV} {znl:Nat→List PV}
def zvd (S0:(Sl Int)→(Sl Int)→(Sl Int)→Int→Int→Int) (zpc:(Sl Int)) (zgv:Int) (zni:(Sl Int)) (znj:(Sl Int)) (cv2:Int) (zpd:Int):Int :=
  (cond (cv2 != (0:Int))
 cv2
 (S0 zni znj zpc zgv (w64 (zpd+(1:Int)))))
def zve (P0:(Sl Int)→(Sl Int)→(Sl Int)→Int→Int→Bool) (zpc:(Sl Int)) (zgv:Int) (zni:(Sl Int)) (znj:(Sl Int)) (cv2:Int) (zpd:Int):Bool :=
  (cond (cv2 != (0:Int))
 true
 (P0 zni znj zpc zgv (w64 (zpd+(1:Int)))))
theorem zBw (hX0:zy5 K X0 P0 S0) (hs:zve P0 zpc zgv zni znj cv2 zpd=true) (hk:K (e71 (zvd S0 zpc zgv zni znj cv2 zpd))) (zuN:znk=zg enc_3 zni) (zuO:znl=zg enc_3 znj):z71 K [1,0,1,0,0,1,1,0,0,1,1,1,1] [X0] ⟨[(0,zP (.sl zni.len 1 znk)),(1,zP (.sl znj.len 1 znl)),(8,zI cv2),(9,zS enc_3 1 zpc),(10,zI zgv),(11,zI zpd)],[],[]⟩:=by subst zuN;subst zuO;exact za9 (by kernel_rfl) (zc hs hk (fun hs hk=>hk) (fun hs hk=>(hX0 hs hk rfl rfl rfl)))
def zvf (S0:(Sl Int)→(Sl Int)→(Sl Int)→Int→Int→Int) (znf:(Sl Int)) (zhQ:(Sl Int)) (iv1:Int) (zBv:Int) (zpc:(Sl Int)) (zgv:Int) (zcv:Int):Int :=
  (zvd S0 zpc zgv znf zhQ (zxK zBv (zhQ.get iv1.toNat)) zcv)
def zvg (P0:(Sl Int)→(Sl Int)→(Sl Int)→Int→Int→Bool) (znf:(Sl Int)) (zhQ:(Sl Int)) (iv1:Int) (zBv:Int) (zpc:(Sl Int)) (zgv:Int) (zcv:Int):Bool :=
  (decide ((0≤iv1∧iv1 < (zhQ.len:Int))) &&
 (zve P0 zpc zgv znf zhQ (zxK zBv (zhQ.get iv1.toNat)) zcv))
theorem zBx (hX0:zy5 K X0 P0 S0) (hs:zvg P0 znf zhQ iv1 zBv zpc zgv zcv=true) (hk:K (e71 (zvf S0 znf zhQ iv1 zBv zpc zgv zcv))) (zuP:zng=zg enc_3 znf) (zuQ:znh=zg enc_3 zhQ) (zE2:zzP=zg enc_3 zpc):z71 K [1,0,1,0,0,1,1,0,0,1,1] [X0] ⟨[(0,zP (.sl znf.len 1 zng)),(1,zP (.sl zhQ.len 1 znh)),(5,zI iv1),(6,zI zBv),(9,zP (.sl zpc.len 1 zzP)),(10,zI zgv),(11,zI zcv)],[],[]⟩:=by subst zuP;subst zuQ;subst zE2;exact za9 (by kernel_rfl) (zaX hs fun hc hs=>And.intro hc (zBw hX0 hs hk rfl rfl))
def zvh (S0:(Sl Int)→(Sl Int)→(Sl Int)→Int→Int→Int) (zdU:(Sl Int)) (zdw:(Sl Int)) (zfJ:(Sl Int)) (zaA:Int) (zaP:Int):Int :=
  (cond (decide (zaP < zaA))
 (cond (decide (zaP ≥ (zdw.len : Int)))
 (1:Int)
 (zvf S0 zdU zdw zaP (zfJ.get zaP.toNat) zfJ zaA zaP))
 (cond (decide ((zdU.len : Int) < (zdw.len : Int)))
 (-1:Int)
 (0:Int)))
def zvi (P0:(Sl Int)→(Sl Int)→(Sl Int)→Int→Int→Bool) (zdU:(Sl Int)) (zdw:(Sl Int)) (zfJ:(Sl Int)) (zaA:Int) (zaP:Int):Bool :=
  (cond (decide (zaP < zaA))
 (decide ((0≤zaP∧zaP < (zfJ.len:Int))) &&
 (cond (decide (zaP ≥ (zdw.len : Int)))
 true
 (zvg P0 zdU zdw zaP (zfJ.get zaP.toNat) zfJ zaA zaP)))
 true)
def zvj:Nat→(Sl Int)→(Sl Int)→(Sl Int)→Int→Int→Int:=lpO (fun _ _ _ _ _=>default) (zvh)
def zvk:Nat→(Sl Int)→(Sl Int)→(Sl Int)→Int→Int→Bool:=lpO (fun _ _ _ _ _=>false) (zvi)
def zvl (zdU:(Sl Int)) (zdw:(Sl Int)) (zfJ:(Sl Int)) (zaA:Int) (zaP:Int):Int:=zvj Fuel zdU zdw zfJ zaA zaP
def zvm (zdU:(Sl Int)) (zdw:(Sl Int)) (zfJ:(Sl Int)) (zaA:Int) (zaP:Int):Bool:=zvk Fuel zdU zdw zfJ zaA zaP
theorem zBy (hs:zvm zdU zdw zfJ zaA zaP=true) (hk:K (e71 (zvl zdU zdw zfJ zaA zaP))) (ziZ:zcV=zg enc_3 zdU) (zi0:zcW=zg enc_3 zdw) (zvn:zhw=zg enc_3 zfJ):z71 K [1,0,1,0] [] (zzO zdU zdw zfJ zaA zaP zcV zcW zhw) :=
  zl (fun X=>z71 K [1,0,1,0,0] [X]) (by kernel_rfl) fun X0 hX =>
  (show ∀ k, zy5 K X0 (zvk k) (zvj k) from zjV _ _ (zvi) (zvh) (zy5 K X0)
 (by intro _ _ _ _ _ _ _ _ hs;exact absurd hs Bool.false_ne_true)
 (by intro P0 S0 hX0 zdU zdw zfJ zaA zaP zcV zcW zhw hs hk ziZ zi0 zvn;subst ziZ;subst zi0;subst zvn;exact hX _ (za9 (by kernel_rfl) (zc hs hk (fun hs hk=>(zaX hs fun hc hs=>And.intro hc (zc hs hk (fun hs hk=>hk) (fun hs hk=>(zBx hX0 hs hk rfl rfl rfl))))) (fun hs hk=>(zt hk (fun hk=>hk) (fun hk=>hk))))))) _ hs hk ziZ zi0 zvn
def s71 (s1_a0:(Sl Int)) (s2_a1:(Sl Int)):Int :=
  (zvl s1_a0 s2_a1 s1_a0 (s1_a0.len:Int) (0:Int))
def p71 (s1_a0:(Sl Int)) (s2_a1:(Sl Int)):Bool :=
  (zvm s1_a0 s2_a1 s1_a0 (s1_a0.len:Int) (0:Int))
end
theorem q71 (s1_a0:(Sl Int)) (s2_a1:(Sl Int)) (K:List PA→Prop) (hs:p71 s1_a0 s2_a1=true) (hk:K (e71 (s71 s1_a0 s2_a1))):vcFun Tryd.prog G71 zBu 71 [.one (.sl s1_a0.len 1 (fun i=>enc_3 (s1_a0.get i))),.one (.sl s2_a1.len 1 (fun i=>enc_3 (s2_a1.get i)))] K :=
  za9 (by kernel_rfl) (zBy hs hk rfl rfl rfl)
def zBz : List PA → COut
  | [.one (.sl a0_n a0_s a0_g),.one (.sl a1_n a1_s a1_g)]=>.det (IsE enc_3 1 a0_s a0_g∧IsE enc_3 1 a1_s a1_g∧p71 (⟨a0_n,zaq a0_g⟩:(Sl Int)) (⟨a1_n,zaq a1_g⟩:(Sl Int))=true) [.one (.int .i64 (s71 (⟨a0_n,zaq a0_g⟩:(Sl Int)) (⟨a1_n,zaq a1_g⟩:(Sl Int))))]
  | _=>.no
theorem zE3:zan Tryd.prog 71:=⟨_,rfl,rfl,by kernel_rfl⟩
theorem zIu:Ok Tryd.prog 71 zBz:=zbr zGT zE3 fun args K h=>by
  unfold zBz at h
  split at h
  · rename_i a0_n a0_s a0_g a1_n a1_s a1_g
    obtain ⟨⟨⟨rfl,a0_f,rfl⟩,⟨rfl,a1_f,rfl⟩,hs⟩,hk⟩:=h
    try rw [za0 a0_f] at hs
    try rw [za0 a0_f] at hk
    try rw [za0 a1_f] at hs
    try rw [za0 a1_f] at hk
    exact ⟨(fun _ _=>[]),(fun _=>false),zBu,q71 (⟨a0_n,a0_f⟩:(Sl Int)) (⟨a1_n,a1_f⟩:(Sl Int)) K hs hk⟩
  · exact h.elim
abbrev T70:Tabs:=(Tabs.nil.addF 71 zBz)
theorem zGU:TabsOk Tryd.prog T70:=(TabsOk.nil.addF zIu)
abbrev G70:Ctrs:=csm T70 (fun _ _=>[]) (fun _=>false)
def zBA:Ann:=⟨33,[(0,zK [0,1] []),(1,zK [0,1,9] []),(3,zK [0,1,5] []),(4,zK [0,1,5,6] []),(5,zK [0,1,5,6,17] []),(6,zK [0,1,5,6] []),(7,zK [0,1,5,6,27] []),(8,zK [0,1,5,6] []),(9,zK [4] [])],
 [(5,zK [0,1,5,6] [])],
 [(3,zK [0,1] []),(8,zK [0,1,5,6,27] [])],
 [],[]⟩
abbrev R70:=(Sl Int)
abbrev e70 (r:R70):List PA:=[.one (.sl r.len 1 (fun i=>enc_3 (r.get i)))]
@[irreducible] def z70:=ptF Tryd.prog G70 zBA Tryd.f70
def zzQ (x:(Sl (Sl Int))) (mv1:(Sl Int)) (iv1:Int) (znw:Nat→List PV):St:=⟨[(0,zS zbX 1 x),(1,zP (.fn 71 [] [])),(5,zP (.sl mv1.len 1 znw)),(6,zI iv1)],[],[]⟩
abbrev zBB (K:List PA→Prop) (x:(Sl (Sl Int))) (X:St→Prop) (P:(Sl Int)→Int→Bool) (S:(Sl Int)→Int→(Sl Int)):Prop:=∀ ⦃mv1:(Sl Int)⦄ ⦃iv1:Int⦄ ⦃znw:Nat→List PV⦄,P mv1 iv1=true→K (e70 (S mv1 iv1))→znw=zg enc_3 mv1→X (zzQ x mv1 iv1 znw)
section
variable {K:List PA→Prop} {x:(Sl (Sl Int))} {mv1:(Sl Int)} {iv1:Int} {znw:Nat→List PV} {X1:St→Prop} {P1:(Sl Int)→Int→Bool} {S1:(Sl Int)→Int→(Sl Int)} {mv2:(Sl Int)} {iv2:Int} {zpe:Bool} {zE4:Nat→List PV}
def zvo (S1:(Sl Int)→Int→(Sl Int)) (x:(Sl (Sl Int))) (mv2:(Sl Int)) (iv2:Int) (zpe:Bool):(Sl Int) :=
  (cond zpe
 (S1 (x.get iv2.toNat) (w64 (iv2+(1:Int))))
 (S1 mv2 (w64 (iv2+(1:Int)))))
def zvp (P1:(Sl Int)→Int→Bool) (x:(Sl (Sl Int))) (mv2:(Sl Int)) (iv2:Int) (zpe:Bool):Bool :=
  (cond zpe
 (decide ((0≤iv2∧iv2 < (x.len:Int))) &&
 (P1 (x.get iv2.toNat) (w64 (iv2+(1:Int)))))
 (P1 mv2 (w64 (iv2+(1:Int)))))
theorem zBC (hX1:zBB K x X1 P1 S1) (hs:zvp P1 x mv2 iv2 zpe=true) (hk:K (e70 (zvo S1 x mv2 iv2 zpe))) (zGV:zE4=zg enc_3 mv2):z70 K [1,1,1,0,1,0,0,1,0,0,1] [X1] ⟨[(0,zS zbX 1 x),(1,zP (.fn 71 [] [])),(5,zP (.sl mv2.len 1 zE4)),(6,zI iv2),(27,zB zpe)],[],[]⟩:=by subst zGV;exact za9 (by kernel_rfl) (zc hs hk (fun hs hk=>(zaX hs fun hc hs=>And.intro hc (hX1 hs hk rfl))) (fun hs hk=>(hX1 hs hk rfl)))
def zvq (x:(Sl (Sl Int))) (S1:(Sl Int)→Int→(Sl Int)) (mv1:(Sl Int)) (iv1:Int):(Sl Int) :=
  (cond (decide (iv1 < (x.len : Int)))
 (zvo S1 x mv1 iv1 (decide ((s71 (x.get iv1.toNat) mv1) < (0:Int))))
 mv1)
def zvr (x:(Sl (Sl Int))) (P1:(Sl Int)→Int→Bool) (mv1:(Sl Int)) (iv1:Int):Bool :=
  (cond (decide (iv1 < (x.len : Int)))
 (decide ((0≤iv1∧iv1 < (x.len:Int))) &&
 (decide ((p71 (x.get iv1.toNat) mv1=true)) &&
 (zvp P1 x mv1 iv1 (decide ((s71 (x.get iv1.toNat) mv1) < (0:Int))))))
 true)
def zvs (x:(Sl (Sl Int))):Nat→(Sl Int)→Int→(Sl Int):=lpO (fun _ _=>default) (zvq x)
def zvt (x:(Sl (Sl Int))):Nat→(Sl Int)→Int→Bool:=lpO (fun _ _=>false) (zvr x)
def zvu (x:(Sl (Sl Int))) (mv1:(Sl Int)) (iv1:Int):(Sl Int):=zvs x Fuel mv1 iv1
def zvv (x:(Sl (Sl Int))) (mv1:(Sl Int)) (iv1:Int):Bool:=zvt x Fuel mv1 iv1
theorem zBD (hs:zvv x mv1 iv1=true) (hk:K (e70 (zvu x mv1 iv1))) (zBE:znw=zg enc_3 mv1):z70 K [1,1,1,0,1,0] [] (zzQ x mv1 iv1 znw) :=
  zl (fun X=>z70 K [1,1,1,0,1,0,0] [X]) (by kernel_rfl) fun X1 hX =>
  (show ∀ k, zBB K x X1 (zvt x k) (zvs x k) from zjV _ _ (zvr x) (zvq x) (zBB K x X1)
 (by intro _ _ _ hs;exact absurd hs Bool.false_ne_true)
 (by intro P1 S1 hX1 mv1 iv1 znw hs hk zBE;subst zBE;exact hX _ (za9 (by kernel_rfl) (zc hs hk (fun hs hk=>(zaX hs fun hc hs=>And.intro hc (zaX hs fun hc hs=>And.intro (And.intro (zE enc_3 1 ((x.get iv1.toNat).get)) (And.intro (zE enc_3 1 mv1.get) hc)) (zBC hX1 hs hk rfl)))) (fun hs hk=>hk))))) _ hs hk zBE
def zvw (x:(Sl (Sl Int))):(Sl Int) :=
  (zvu x (x.get 0) (1:Int))
def zvx (x:(Sl (Sl Int))):Bool :=
  (decide ((0≤(0:Int)∧(0:Int) < (x.len:Int))) &&
 (zvv x (x.get 0) (1:Int)))
theorem zBF (hs:zvx x=true) (hk:K (e70 (zvw x))):z70 K [1,1] [] ⟨[(0,zS zbX 1 x),(1,zP (.fn 71 [] []))],[],[]⟩:=za9 (by kernel_rfl) (zaX hs fun hc hs=>And.intro hc (zBD hs hk rfl))
def s70 (x:(Sl (Sl Int))):(Sl Int) :=
  (cond (decide ((x.len : Int) < (1:Int)))
 default
 (zvw x))
def p70 (x:(Sl (Sl Int))):Bool :=
  (cond (decide ((x.len : Int) < (1:Int)))
 false
 (zvx x))
end
theorem q70 (x:(Sl (Sl Int))) (K:List PA→Prop) (hs:p70 x=true) (hk:K (e70 (s70 x))):vcFun Tryd.prog G70 zBA 70 [.one (.sl x.len 1 (fun i=>zbX (x.get i))),.one (.fn 71 [] [])] K :=
  za9 (by kernel_rfl) (zc hs hk (fun hs hk=>(absurd hs Bool.false_ne_true:False)) (fun hs hk=>(zBF hs hk)))
def zBG : List PA → COut
  | [.one (.sl a0_n a0_s a0_g),.one (.fn 71 [] [])]=>.det (IsE zbX 1 a0_s a0_g∧p70 (⟨a0_n,zlu a0_g⟩:(Sl (Sl Int)))=true) [.one (.sl ((s70 (⟨a0_n,zlu a0_g⟩:(Sl (Sl Int)))).len) 1 (fun i=>enc_3 ((s70 (⟨a0_n,zlu a0_g⟩:(Sl (Sl Int)))).get i)))]
  | _=>.no
theorem zE5:zan Tryd.prog 70:=⟨_,rfl,rfl,by kernel_rfl⟩
theorem zIv:Ok Tryd.prog 70 zBG:=zbr zGU zE5 fun args K h=>by
  unfold zBG at h
  split at h
  · rename_i a0_n a0_s a0_g
    obtain ⟨⟨⟨rfl,a0_f,rfl⟩,hs⟩,hk⟩:=h
    try rw [ziO a0_f] at hs
    try rw [ziO a0_f] at hk
    exact ⟨(fun _ _=>[]),(fun _=>false),zBA,q70 (⟨a0_n,a0_f⟩:(Sl (Sl Int))) K hs hk⟩
  · exact h.elim
end Go.Proofs
