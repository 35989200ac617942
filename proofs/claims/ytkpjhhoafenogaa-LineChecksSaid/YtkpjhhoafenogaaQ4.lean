/- Part 4 of what the proof rests on: a machine that runs functions of the program on pure values, proved sound; the functions that the law reaches, and what they compute. -/
import Derived.Test.YtkpjhhoafenogaaQ3
import Derived.Sort.OwnSortedInts
import Derived.Lib.SlicesCompact
import Derived.ProofKit
import Derived.Deep.Slices
import Derived.Shelf.SlSortCmp.WholeK
import Derived.Test.YtkpjhhoafenogaaProg
import Derived.Shelf.SlSortCmp.NoneTotal
set_option linter.all false
namespace Go.Pm

structure Tabs where
  fn:List (Nat×(List PA→COut))
  own:List (Nat×OwnK)
  it:List (Nat×(List PA→Option (Prop×List (List PA))))
def tabFn : List (Nat × (List PA → COut)) → Nat → List PA → COut
  | [],_=>fun _=>.no
  | (k,c) :: r,n=>match Nat.beq k n with | true=>c | false=>tabFn r n
def tabOwn (l:List (Nat×OwnK)) (f:Nat):OwnK:=match lk l f with | some c=>c | none=>.none
def tabIt (l:List (Nat×(List PA→Option (Prop×List (List PA))))) (f:Nat):List PA→Option (Prop×List (List PA)):=match lk l f with | some c=>c | none=>fun _=>none
def csm (T:Tabs) (memo:Nat→Int→List Int) (vv:Nat→Bool):Ctrs:=⟨tabFn T.fn,tabOwn T.own,tabIt T.it,memo,vv⟩
abbrev cs (T:Tabs):Ctrs:=csm T (fun _ _=>[]) (fun _=>false)
def Tabs.nil:Tabs:=⟨[],[],[]⟩
def Tabs.addF (T:Tabs) (f:Nat) (c:List PA→COut):Tabs:=⟨(f,c) :: T.fn,T.own,T.it⟩
def Tabs.addO (T:Tabs) (f:Nat) (c:OwnK):Tabs:=⟨T.fn,(f,c) :: T.own,T.it⟩
def Tabs.addI (T:Tabs) (f:Nat) (c:List PA→Option (Prop×List (List PA))):Tabs:=⟨T.fn,T.own,(f,c) :: T.it⟩

theorem ok_no {P:Program} {f:Nat} : Ok P f (fun _=>.no):=fun _ _ h=>h.elim
theorem it_no {P:Program} {f:Nat} : ItOk P f (fun _=>none):=fun _ _ _ h=>by cases h

structure TabsOk (P : Program) (T : Tabs) : Prop where
  fn:∀ x∈T.fn,Ok P x.1 x.2
  own:∀ x∈T.own,OwnOk P x.1 x.2
  it:∀ x∈T.it,ItOk P x.1 x.2
theorem TabsOk.nil {P:Program} : TabsOk P .nil:=⟨fun _ h=>(by cases h),fun _ h=>(by cases h),fun _ h=>(by cases h)⟩
theorem TabsOk.addF {P:Program} {T:Tabs} (h:TabsOk P T) {f:Nat} {c:List PA→COut} (hc:Ok P f c):TabsOk P (T.addF f c) :=
  ⟨fun x hx=>(List.mem_cons.1 hx).elim (fun e=>by rw [e];exact hc) (fun hx=>h.fn x hx),h.own,h.it⟩
theorem TabsOk.addO {P:Program} {T:Tabs} (h:TabsOk P T) {f:Nat} {c:OwnK} (hc:OwnOk P f c):TabsOk P (T.addO f c) :=
  ⟨h.fn,fun x hx=>(List.mem_cons.1 hx).elim (fun e=>by rw [e];exact hc) (fun hx=>h.own x hx),h.it⟩
theorem TabsOk.addI {P:Program} {T:Tabs} (h:TabsOk P T) {f:Nat} {c:List PA→Option (Prop×List (List PA))} (hc:ItOk P f c):TabsOk P (T.addI f c) :=
  ⟨h.fn,h.own,fun x hx=>(List.mem_cons.1 hx).elim (fun e=>by rw [e];exact hc) (fun hx=>h.it x hx)⟩
theorem TabsOk.all {P:Program} {T:Tabs} (h:TabsOk P T) (memo:Nat→Int→List Int) (vv:Nat→Bool):OkAll P (csm T memo vv):=by
  refine ⟨fun f=>?_,fun f=>?_,fun f=>?_⟩
  · show Ok P f (tabFn T.fn f)
    have key:∀ l:List (Nat×(List PA→COut)),(∀ x∈l,Ok P x.1 x.2)→Ok P f (tabFn l f):=by
      intro l
      induction l with
      | nil=>intro _;exact ok_no
      | cons x l ih =>
        intro hl
        obtain ⟨k,c⟩:=x
        simp only [tabFn]
        split
        · rename_i e
          have:=hl (k,c) List.mem_cons_self
          rw [← Nat.eq_of_beq_eq_true e];exact this
        · exact ih fun x hx=>hl x (List.mem_cons_of_mem _ hx)
    exact key T.fn h.fn
  · show OwnOk P f (tabOwn T.own f)
    unfold tabOwn
    split
    · rename_i c hc;exact h.own _ (lk_mem hc)
    · trivial
  · show ItOk P f (tabIt T.it f)
    unfold tabIt
    split
    · rename_i c hc;exact h.it _ (lk_mem hc)
    · exact it_no

theorem ok_tab {P : Program} {T : Tabs} (hT : TabsOk P T) {f : FuncId} {C : List PA → COut} (hc : Callable P f)
    (h:∀ args K,(C args).wp K→∃ memo vv ann,vcFun P (csm T memo vv) ann f args K):Ok P f C :=
  ok_of_vc (hT.all (fun _ _=>[]) (fun _=>false)) hc h
theorem it_tab {P : Program} {T : Tabs} (hT : TabsOk P T) {f : FuncId} {C : List PA → Option (Prop × List (List PA))} (hc : Callable P f)
    (h:∀ l caps safe ys,C caps=some (safe,ys)→safe→∃ memo vv ann,vcIter P (csm T memo vv) ann f l caps ys):ItOk P f C :=
  it_of_vc (hT.all (fun _ _=>[]) (fun _=>false)) hc h
theorem clone_tab {P : Program} {T : Tabs} (hT : TabsOk P T) {f : FuncId} {e s b : Nat} (hc : Callable P f)
    (h:∀ n get,n * b≤140737488355328→n≤9223372036854775807→∃ memo vv ann,vcOwn P (csm T memo vv) ann f [.one (.sl n s get)] e s b n get):OwnOk P f (.clone e s b) :=
  clone_of_vc (hT.all (fun _ _=>[]) (fun _=>false)) hc h

structure Sl (α : Type) where
  len:Nat
  get:Nat→α
instance {α:Type} [Inhabited α]:Inhabited (Sl α):=⟨⟨0,fun _=>default⟩⟩
abbrev w64 (x:Int):Int:=IntKind.i64.wrap x

def IsE {α:Type} (enc:α→List PV) (size s:Nat) (g:Nat→List PV):Prop:=s=size∧∃ f:Nat→α,g=fun i=>enc (f i)
theorem isE {α:Type} {enc:α→List PV} {size:Nat} {f:Nat→α} : IsE enc size size (fun i=>enc (f i)):=⟨rfl,f,rfl⟩
def appT {α:Type} (n:Nat) (get new:Nat→α):Nat→α:=fun j=>match Nat.ble n j with | true=>new (j - n) | false=>get j
theorem appG_enc {α:Type} {enc:α→List PV} {n:Nat} {f h:Nat→α} : appG n (fun i=>enc (f i)) (fun i=>enc (h i))=fun i=>enc (appT n f h i):=by
  funext j;simp only [appG,appT];cases Nat.ble n j <;> rfl
def getT {α : Type} (x : α) : List α → Nat → α
  | [],_=>x
  | y :: _,0=>y
  | _ :: r,i+1=>getT x r i
theorem getL_enc {α:Type} {enc:α→List PV} {x y:α} {r:List α} : getL (enc x :: enc y :: r.map enc)=fun i=>enc (getT x (x :: y :: r) i):=by
  have key:∀ (l:List α) (i:Nat),(match (l.map enc)[i]? with | some z=>z | none=>enc x)=enc (getT x l i):=by
    intro l
    induction l with
    | nil=>intro i;rfl
    | cons a l ih =>
      intro i
      cases i with
      | zero=>rfl
      | succ i=>simpa [getT] using ih i
  funext i
  exact key (x :: y :: r) i
theorem isE_list {α:Type} {enc:α→List PV} {size:Nat} {x y:α} (r:List α):IsE enc size size (getL (enc x :: enc y :: r.map enc)):=⟨rfl,_,getL_enc⟩

theorem condB_go {b:Bool} {A B:Prop} {S S':Bool} {α:Type} {K:α→Prop} {x y:α} (h1:S=true→K x→A) (h2:S'=true→K y→B) (hs:cond b S S'=true) (hk:K (cond b x y)):condP b A B:=by
  cases b
  · exact h2 hs hk
  · exact h1 hs hk
theorem condB_it {b:Bool} {A B:Prop} {S S':Bool} {α β:Type} {f:α→β} {ys:List β} {x y:List α} (hs:cond b S S'=true) (hk:ys=(cond b x y).map f) (h1:S=true→ys=x.map f→A) (h2:S'=true→ys=y.map f→B):condP b A B:=by
  cases b
  · exact h2 hs hk
  · exact h1 hs hk
theorem itY {α β:Type} {f:α→β} {ys:List β} {p:β} {x r:List α} {l:Nat} {A:List β→Prop} (hk:ys=x.map f) (e:x.map f=p :: r.map f) (h:∀ zs,zs=r.map f→A zs):l=l∧∃ z,ys=p :: z∧A z∧True :=
  ⟨rfl,_,hk.trans e,h _ rfl,trivial⟩
theorem andK {C A:Prop} [d:Decidable C] {r:Bool} (hs:(decide C && r)=true) (k:C→r=true→A):A:=by
  rw [Bool.and_eq_true] at hs
  exact k (of_decide_eq_true hs.1) hs.2
abbrev Fuel:Nat:=9223372036854775808
def setT {α:Type} (i:Nat) (v:α) (get:Nat→α):Nat→α:=fun j=>match Nat.beq j i with | true=>v | false=>get j
theorem appG_e {α:Type} {enc:α→List PV} {n:Nat} {g g':Nat→List PV} {f h:Nat→α} (h1:g=fun i=>enc (f i)) (h2:g'=fun i=>enc (h i)):appG n g g'=fun i=>enc (appT n f h i):=by
  subst h1;subst h2;exact appG_enc
theorem condP_gt {b:Bool} {A B:Prop} {α:Type} {K:α→Prop} {x y:α} (h1:K x→A) (h2:K y→B) (hk:K (cond b x y)):condP b A B:=by
  cases b
  · exact h2 hk
  · exact h1 hk
def rngB (P:Program) (G:Ctrs) (ann:Ann) (hd:Nat) (ps:List Nat) (assign body:Code) (X:List (List PA)→St→Prop) (K:Exit→St→Prop) (y:List PA) (rest:List (List PA)) (s:St):Prop :=
  match lk ann.head hd with
  | some k=>match psEnv ps y s.env with
    | some env=>vc P G ann assign (seqK (vc P G ann body (roundK P k (X rest) K)) fun _ _=>False) ⟨env,s.objs,[]⟩
    | none=>False
  | none=>False
def sortB (n:Nat) (p:Nat→Nat→Bool) (c:Nat→Nat→Int):Bool :=
  (List.range n).all fun i => decide (0 ≤ c i i) && (List.range n).all fun j => p i j && (Nat.beq i j || (decide (c i j < 0) && decide (0 ≤ c j i)) || (decide (c j i < 0) && decide (0 ≤ c i j))) &&
    (List.range n).all fun k=>!(decide (c i j < 0) && decide (c j k < 0)) || decide (c i k < 0)
theorem sortB_ok {n:Nat} {p:Nat→Nat→Bool} {c c':Nat→Nat→Int} {s:Nat→Nat→Prop} (h:sortB n p c=true) (hp:∀ i j,p i j=true→s i j) (hc:c'=c):(∀ i j,i < n→j < n→s i j)∧STO n c':=by
  subst hc
  simp only [sortB,List.all_eq_true,List.mem_range,Bool.and_eq_true,Bool.or_eq_true,decide_eq_true_eq,Bool.not_eq_true',Bool.and_eq_false_iff,decide_eq_false_iff_not] at h
  refine ⟨fun i j hi hj=>hp i j ((h i hi).2 j hj).1.1,fun i hi=>(h i hi).1,fun i j hi hj hne=>?_,fun i j k hi hj hk h1 h2=>?_⟩
  · rcases ((h i hi).2 j hj).1.2 with (h1 | h1) | h1
    · exact absurd (Nat.eq_of_beq_eq_true h1) hne
    · exact .inl h1
    · exact .inr h1
  · rcases ((h i hi).2 j hj).2 k hk with (h3 | h3) | h3
    · exact absurd h1 h3
    · exact absurd h2 h3
    · exact h3
end Go.Pm
namespace Go.Pm
open Go Go.Sort

/-! Nil slices are slices of length 0. -/
inductive PVle : PV → PV → Prop
  | rfl (p:PV):PVle p p
  | nil (s:Nat) (g:Nat→List PV):PVle .nils (.sl 0 s g)
  | nilm (q:MQ):PVle .nilm (.fm q 0 (fun _=>none))
inductive PAle : PA → PA → Prop
  | one {p q:PV} : PVle p q→PAle (.one p) (.one q)
  | agg {l m:List PV} : RL PVle l m→PAle (.agg l) (.agg m)
theorem rl_n {α β:Type} {R:α→β→Prop} : RL R [] []:=trivial
theorem rl_c {α β:Type} {R:α→β→Prop} {a:α} {b:β} {l:List α} {m:List β} (h:R a b) (h':RL R l m):RL R (a :: l) (b :: m):=⟨h,h'⟩
theorem rl_rfl {α : Type} {R : α → α → Prop} (h : ∀ a, R a a) : ∀ l : List α, RL R l l
  | []=>trivial
  | a :: l=>⟨h a,rl_rfl h l⟩
theorem pa_rfl (a:PA):PAle a a:=by
  cases a with
  | one p=>exact .one (.rfl p)
  | agg l=>exact .agg (rl_rfl .rfl l)
def Wk (K:List PA→Prop) (l:List PA):Prop:=∃ l',RL PAle l l'∧K l'
theorem wk {K:List PA→Prop} {l l':List PA} (hk:K l') (h:RL PAle l l'):Wk K l:=⟨l',h,hk⟩
theorem wk_rfl {K:List PA→Prop} {l:List PA} (hk:K l):Wk K l:=⟨l,rl_rfl pa_rfl l,hk⟩
theorem pv_up {h:Fz} {p q:PV} {v:Value} (e:PVle p q) (r:Rep h p v):Rep h q v:=by
  cases e with
  | rfl=>exact r
  | nil s g=>cases r;exact .sl0 s g
  | nilm q=>cases r;exact .fmn q _ (fun _ _=>rfl)
theorem rl_up {α β γ : Type} {R : α → β → Prop} {S : α → γ → Prop} {T : γ → β → Prop} (h : ∀ a b c, S a c → R a b → T c b) : ∀ (l : List α) (m : List β) (k : List γ), RL S l k → RL R l m → RL T k m
  | [],[],[],_,_=>trivial
  | a :: l,b :: m,c :: k,hs,hr=>⟨h a b c hs.1 hr.1,rl_up h l m k hs.2 hr.2⟩
  | [],_ :: _,[],_,hr=>hr.elim
  | [],_,_ :: _,hs,_=>hs.elim
  | _ :: _,_,[],hs,_=>hs.elim
  | _ :: _,[],_ :: _,_,hr=>hr.elim
theorem pa_up {h:Fz} {a b:PA} {v:Value} (e:PAle a b) (r:paR h a v):paR h b v:=by
  cases e with
  | one e=>exact pv_up e r
  | agg e =>
    obtain ⟨vs,rfl,hv⟩:=r
    exact ⟨vs,rfl,rl_up (R:=Rep h) (S:=PVle) (T:=Rep h) (fun _ _ _ e r=>pv_up e r) _ _ _ e hv⟩
theorem res_up {h:Fz} {l m:List PA} {v:Value} (e:RL PAle l m) (r:resR h l v):resR h m v:=by
  match l,m,e,r with
  | [a],[b],e,r=>exact pa_up e.1 r
  | [],[],_,r=>exact r
  | a :: b :: l,c :: d :: m,e,r =>
    obtain ⟨vs,hv,hr⟩:=r
    exact ⟨vs,hv,rl_up (R:=paR h) (S:=PAle) (T:=paR h) (fun _ _ _ e r=>pa_up e r) _ _ _ e hr⟩
  | [_],_ :: _ :: _,e,_=>exact e.2.elim
  | _ :: _ :: _,[_],e,_=>exact e.2.elim
  | [],_ :: _,e,_=>exact e.elim
  | _ :: _,[],e,_=>exact e.elim
theorem ok_tabW {P : Program} {T : Tabs} (hT : TabsOk P T) {f : FuncId} {C : List PA → COut} (hc : Callable P f)
    (h:∀ args K,(C args).wp K→∃ args',RL PAle args args'∧∃ memo vv ann,vcFun P (csm T memo vv) ann f args' (Wk K)):Ok P f C:=by
  intro args K hK w h0 vs hvs hfz
  obtain ⟨args',hle,memo,vv,ann,hv⟩:=h args K hK
  refine ⟨hc,(fun_run (hT.all memo vv) hv (rl_up (R:=paR h0) (S:=PAle) (T:=paR h0) (fun _ _ _ e r=>pa_up e r) _ _ _ hle hvs) hfz).mono ?_⟩
  rintro e w' ⟨h',rs,v,⟨rs',hr,hk⟩,he,hres,rest⟩
  exact ⟨h',rs',v,hk,he,res_up hr hres,rest⟩
/-! Maps, as typed values; the keys of a map. -/
structure Mp where
  n:Nat
  F:List Int→Option (List Int)
instance:Inhabited Mp:=⟨⟨0,fun _=>none⟩⟩

def RemL (m:Nat) (F:List Int→Option (List Int)) (seen ys:List (List Int)):Prop :=
  ys.Nodup∧(∀ y∈ys,y.length=m∧F y ≠ none∧y ∉ seen)∧∀ c,c.length=m→F c ≠ none→c ∉ seen→c∈ys
def nodupB : List (List Int) → Bool
  | []=>true
  | y :: r=>!r.contains y && nodupB r
def keysB (m n:Nat) (F:List Int→Option (List Int)) (ys:List (List Int)):Bool :=
  Nat.beq ys.length n && ys.all (fun y=>Nat.beq y.length m && (F y).isSome) && nodupB ys
theorem nodupB_iff : ∀ {ys : List (List Int)}, nodupB ys = true ↔ ys.Nodup
  | []=>by simp [nodupB]
  | y :: r=>by simp [nodupB,nodupB_iff (ys:=r)]
theorem nodup_sub {α : Type} [DecidableEq α] : ∀ {l m : List α}, l.Nodup → (∀ x ∈ l, x ∈ m) → m.length ≤ l.length → ∀ x ∈ m, x ∈ l
  | [],m,_,_,hl,x,hx=>by have:m=[]:=List.eq_nil_of_length_eq_zero (by simpa using hl);rw [this] at hx;exact hx
  | a :: l,m,hn,hs,hl,x,hx=>by
    have ha:=hs a List.mem_cons_self
    by_cases h:x=a
    · rw [h];exact List.mem_cons_self
    · have hx2 : x ∈ m.erase a := (List.mem_erase_of_ne h).2 hx
      have hn2:=List.nodup_cons.1 hn
      refine List.mem_cons_of_mem _ (nodup_sub hn2.2 (fun z hz=>?_) ?_ x hx2)
      · have hza : z ≠ a := fun e => hn2.1 (e ▸ hz)
        exact (List.mem_erase_of_ne hza).2 (hs z (List.mem_cons_of_mem _ hz))
      · rw [List.length_erase_of_mem ha];simp at hl;omega
theorem rem_start {m n:Nat} {F:List Int→Option (List Int)} {ys:List (List Int)} (h:keysB m n F ys=true) (hf:FinM m n F):RemL m F [] ys:=by
  simp only [keysB,Bool.and_eq_true,List.all_eq_true] at h
  obtain ⟨⟨h1,h2⟩,h3⟩:=h
  have h1:=Nat.eq_of_beq_eq_true h1
  have h3:=nodupB_iff.1 h3
  obtain ⟨ks,k1,k2,k3,k4⟩:=hf
  have hy:∀ y∈ys,y.length=m∧F y ≠ none:=fun y hy=>by
    obtain ⟨a,b⟩:=h2 y hy
    refine ⟨Nat.eq_of_beq_eq_true a,fun e=>?_⟩
    rw [e] at b;cases b
  refine ⟨h3,fun y hy'=>⟨(hy y hy').1,(hy y hy').2,by simp⟩,fun c hc hne _=>?_⟩
  exact nodup_sub h3 (fun y hy'=>(k4 y (hy y hy').1).1 (hy y hy').2) (by rw [k1,h1];exact Nat.le_refl _) c ((k4 c hc).1 hne)
theorem rem_pick {m : Nat} {F : List Int → Option (List Int)} {seen ys : List (List Int)} (h : RemL m F seen ys) {c : List Int} (hc : c.length = m) (hF : F c ≠ none) (hs : c ∉ seen) :
    ys.Perm (c :: ys.erase c)∧RemL m F (c :: seen) (ys.erase c)∧(ys.erase c).length+1=ys.length:=by
  obtain ⟨h1,h2,h3⟩:=h
  have hm:=h3 c hc hF hs
  refine ⟨List.perm_cons_erase hm,⟨h1.erase c,fun y hy=>?_,fun d hd hdF hds=>?_⟩,?_⟩
  · have := (List.Nodup.mem_erase_iff h1).1 hy
    obtain ⟨a,b,e⟩:=h2 y this.2
    exact ⟨a,b,by simp [this.1,e]⟩
  · simp only [List.mem_cons, not_or] at hds
    exact (List.mem_erase_of_ne hds.1).2 (h3 d hd hdF hds.2)
  · rw [List.length_erase_of_mem hm]
    have:0 < ys.length:=List.length_pos_of_mem hm
    omega
theorem rem_end {m:Nat} {F:List Int→Option (List Int)} {seen ys:List (List Int)} (h:RemL m F seen ys) (he:∀ c,c.length=m→F c ≠ none→c∈seen):ys=[]:=by
  cases ys with
  | nil=>rfl
  | cons y r =>
    obtain ⟨a,b,e⟩:=h.2.1 y List.mem_cons_self
    exact (e (he y a b)).elim

end Go.Pm
namespace Go.Pm
open Go

theorem w64_id {x:Int} (h1 : -9223372036854775808≤x) (h2:x≤9223372036854775807):w64 x=x:=by
  have hb:IntKind.i64.bits=64:=rfl
  have hs:IntKind.i64.signed=true:=rfl
  unfold w64 IntKind.wrap
  rw [hb,hs]
  simp only [Bool.true_and,decide_eq_true_eq]
  split <;> omega
def fstF (c : Nat → Bool) : Nat → Nat → Nat
  | 0,i=>i
  | m+1,i=>match c i with | true=>i | false=>fstF c m (i+1)
def fst (c:Nat→Bool) (n:Nat):Nat:=fstF c n 0
theorem all_loop {good : Nat → Bool} {fin : Bool} {n : Nat} {lpS lpP : Nat → Int → Bool}
    (hS:∀ (k i:Nat),i < n→lpS (k+1) (i:Int)=cond (good i) (lpS k (w64 ((i:Int)+(1:Int)))) false)
    (hE:∀ k,lpS (k+1) (n:Int)=fin)
    (hP:∀ (k i:Nat),i < n→lpP (k+1) (i:Int)=cond (good i) (lpP k (w64 ((i:Int)+(1:Int)))) true)
    (hPE:∀ k,lpP (k+1) (n:Int)=true) (hn:n≤9223372036854775807) :
    lpP Fuel 0=true∧(lpS Fuel 0=true↔(∀ i,i < n→good i=true)∧fin=true):=by
  have key:∀ (m k i:Nat),i+m=n→m < k→lpP k (i:Int)=true∧(lpS k (i:Int)=true↔(∀ j,i≤j→j < n→good j=true)∧fin=true):=by
    intro m
    induction m with
    | zero =>
      intro k i hi hk
      obtain ⟨k,rfl⟩:∃ k',k=k'+1:=⟨k - 1,by omega⟩
      have:i=n:=by omega
      subst this
      rw [hE,hPE]
      exact ⟨rfl,⟨fun h=>⟨fun j h1 h2=>absurd h2 (by omega),h⟩,fun h=>h.2⟩⟩
    | succ m ih =>
      intro k i hi hk
      obtain ⟨k,rfl⟩:∃ k',k=k'+1:=⟨k - 1,by omega⟩
      rw [hS k i (by omega),hP k i (by omega)]
      have e3:w64 ((i:Int)+1)=((i+1:Nat):Int):=by rw [w64_id (by omega) (by omega)];omega
      rw [e3]
      obtain ⟨h1,h2⟩:=ih k (i+1) (by omega) (by omega)
      cases hg:good i
      · refine ⟨rfl, ⟨fun h => (by cases h), fun h => ?_⟩⟩
        have:=h.1 i (Nat.le_refl _) (by omega)
        rw [hg] at this;cases this
      · refine ⟨h1, h2.trans ⟨fun h => ⟨fun j hj1 hj2 => ?_, h.2⟩, fun h => ⟨fun j hj1 hj2 => h.1 j (by omega) hj2, h.2⟩⟩⟩
        by_cases hji:j=i
        · rw [hji];exact hg
        · exact h.1 j (by omega) hj2
  have:=key n Fuel 0 (by omega) (by simp only [Fuel];omega)
  simpa using this

end Go.Pm
namespace Go.Pm
open Go Go.Deep

theorem add_add2 (b o i j:Nat):((⟨b,o,none⟩:Addr).add i).add j=⟨b,o+i+j,none⟩:=by
  simp only [Addr.add]
  by_cases h1:i=0
  · subst h1
    by_cases h2:j=0
    · subst h2;rfl
    · rw [if_neg h2];rfl
  · rw [if_neg h1]
    by_cases h2:j=0
    · subst h2;rfl
    · rw [if_neg h2]
def H0 (w:World):Fz:=fun b=>(w.heap[b]?).map .fz
theorem hw_H0 (w:World):Hw (H0 w) w:=by
  intro b x h
  unfold H0 at h
  cases e:w.heap[b]? with
  | none=>rw [e] at h;cases h
  | some o=>rw [e] at h;cases h;exact ⟨o,rfl,rfl⟩
def wfI (x:Int):Prop:=-9223372036854775808≤x∧x≤9223372036854775807
section
variable {H:Type} {en:TypeId×Value→H} {P:Program} {w:World} {sp:Nat→Bool} {held:Bool}
def Rd (H:Type) (en:TypeId×Value→H) (P:Program) (w:World) (sp:Nat→Bool) (held:Bool) (t:TypeId) {α:Type} (enc:α→List PV) (wf:α→Prop):Prop :=
  ∀ (fuel:Nat) (cs:List Value) (x:DataW H×List MemPlace),DataW.trod en P w 0 sp held fuel t cs=some x→∃ a:α,RL (Rep (H0 w)) (enc a) cs∧wf a
theorem rd_int {t:TypeId} (ht:P.underlying t=some (.int .i64)):Rd H en P w sp held t (fun x=>[.int .i64 x]) wfI:=by
  intro fuel cs x h
  obtain ⟨n,rfl,_,hw⟩:=DataW.trod_int ht h
  refine ⟨n,⟨.int _ _,trivial⟩,?_⟩
  simp only [Lit.wf,Bool.and_eq_true,decide_eq_true_eq] at hw
  exact ⟨hw.1,hw.2⟩
theorem rd_struct {t : TypeId} {fs : Array Field} (ht : P.underlying t = some (.struct fs)) {fuel : Nat} {cs : List Value} {x : DataW H × List MemPlace} (h : DataW.trod en P w 0 sp held fuel t cs = some x) :
    cs.length=P.cellsOf t∧∀ (i:Nat) (f:Field),fs[i]? = some f→∃ n y,DataW.trod en P w 0 sp held n f.type ((cs.drop f.offset).take (P.cellsOf f.type))=some y:=by
  obtain ⟨xs,n,_,_,hl,hx,hf⟩:=DataW.trod_struct ht h
  refine ⟨hl,fun i f hi=>?_⟩
  have hlt:i < xs.length:=by rw [hx];exact (Array.getElem?_eq_some_iff.1 hi).1
  exact ⟨n,xs[i],by rw [hf i f hi,List.getElem?_eq_getElem hlt]⟩
theorem rd_slice {t e : TypeId} {α : Type} [Inhabited α] {enc : α → List PV} {wf : α → Prop} {s : Nat} (ht : P.underlying t = some (.slice e)) (hc : P.cellsOf e = s) (hs : 0 < s) (hlen : ∀ a, (enc a).length = s)
    (hel:Rd H en P w sp held e enc wf):Rd H en P w sp held t (fun x:Sl α=>[.sl x.len s (fun i=>enc (x.get i))]) (fun x=>x.len≤9223372036854775807∧∀ i,i < x.len→wf (x.get i)):=by
  intro fuel cs x h
  rcases open_slice ht h with ⟨rfl,_⟩ | ⟨a,len,cap,m,n,D,Pl,rfl,_,hl,hm,hmm,_,hget⟩
  · exact ⟨⟨0,default⟩,⟨.sl0 _ _,trivial⟩,Nat.zero_le _,fun i hi=>absurd hi (Nat.not_lt_zero i)⟩
  · by_cases h0 : len = 0
    · subst h0
      exact ⟨⟨0,default⟩,⟨.sle _ _ _ _,trivial⟩,Nat.zero_le _,fun i hi=>absurd hi (Nat.not_lt_zero i)⟩
    · have hlm : len ≤ m := by rw [hmm]; split <;> omega
      rw [hc] at hget
      have hex:∀ i,i < len→∃ y:α,(∃ cs',w.cells? 0 (a.add (i * s)) s=some cs'∧RL (Rep (H0 w)) (enc y) cs')∧wf y:=by
        intro i hi
        obtain ⟨cs',h1,h2⟩:=hget i (by omega)
        obtain ⟨y,h3,h4⟩:=hel _ _ _ h2
        exact ⟨y,⟨cs',h1,h3⟩,h4⟩
      have hch:∃ f:Nat→α,∀ i,i < len→(∃ cs',w.cells? 0 (a.add (i * s)) s=some cs'∧RL (Rep (H0 w)) (enc (f i)) cs')∧wf (f i):=by
        refine ⟨fun i=>if hi:i < len then Classical.choose (hex i hi) else default,fun i hi=>?_⟩
        simp only [dif_pos hi]
        exact Classical.choose_spec (hex i hi)
      obtain ⟨f,hf⟩:=hch
      -- the block
      have hcell:∀ i,i < len→∀ j,j < s→∃ cs',w.cells? 0 (a.add (i * s)) s=some cs'∧RL (Rep (H0 w)) (enc (f i)) cs'∧w.cell? ((a.add (i * s)).add j)=cs'[j]?∧cs'.length=s:=by
        intro i hi j hj
        obtain ⟨⟨cs',h1,h2⟩,_⟩:=hf i hi
        obtain ⟨_,h3,h4⟩:=World.cells?_some h1
        exact ⟨cs',h1,h2,h4 j hj,h3⟩
      obtain ⟨cs0,_,_,hc0,hl0⟩:=hcell 0 (by omega) 0 hs
      have ha0:w.cell? a=cs0[0]?:=by simpa [Addr.add] using hc0
      rw [List.getElem?_eq_getElem (by omega)] at ha0
      obtain ⟨C,ty,fr,hblk,hspot⟩:∃ C ty fr,w.heap[a.block]? = some (.cells C ty fr)∧a.spot=none:=by
        unfold World.cell? at ha0
        split at ha0
        · rename_i C ty fr hb
          refine ⟨C,ty,fr,hb,?_⟩
          cases hsp:a.spot with
          | none=>rfl
          | some k=>rw [hsp] at ha0;simp at ha0
        · cases ha0
      have ea:a=⟨a.block,a.off,none⟩:=by rw [← hspot]
      have hat:∀ i j,i < len→j < s→∃ cs',RL (Rep (H0 w)) (enc (f i)) cs'∧C[a.off+i * s+j]? = cs'[j]?∧cs'.length=s:=by
        intro i j hi hj
        obtain ⟨cs',_,h2,h3,h4⟩:=hcell i hi j hj
        refine ⟨cs',h2,?_,h4⟩
        rw [← h3]
        have e2:(a.add (i * s)).add j=⟨a.block,a.off+i * s+j,none⟩:=(congrArg (fun z:Addr=>(z.add (i * s)).add j) ea).trans (add_add2 _ _ _ _)
        rw [e2]
        simp [World.cell?,hblk]
      refine ⟨⟨len,f⟩,⟨?_,trivial⟩,by simp only [maxLen] at hm;show len≤_;omega,fun i hi=>(hf i hi).2⟩
      rw [ea]
      refine .sl len s _ a.block a.off cap C ty fr (fun i j=>C.getD (a.off+i * s+j) undef) (by simp [H0,hblk]) hl (fun i _=>hlen _) ?_ ?_
      · intro i j x hi hx
        have hj:j < s:=by have:=(List.getElem?_eq_some_iff.1 hx).1;rw [hlen] at this;exact this
        obtain ⟨cs',h1,h2,h3⟩:=hat i j hi hj
        rw [Array.getD_eq_getD_getElem?,h2,List.getElem?_eq_getElem (by omega)]
        rfl
      · intro i j x hi hx
        have hj:j < s:=by have:=(List.getElem?_eq_some_iff.1 hx).1;rw [hlen] at this;exact this
        obtain ⟨cs',h1,h2,h3⟩:=hat i j hi hj
        obtain ⟨v,hv,hr⟩:=h1.get j x hx
        rw [Array.getD_eq_getD_getElem?,h2,hv]
        exact hr
theorem split_drop {α:Type} (l:List α) (o s:Nat):l.drop o=(l.drop o).take s ++ l.drop (o+s):=by
  rw [← List.drop_drop]
  exact (List.take_append_drop s (l.drop o)).symm
theorem okWide_agg {t:TypeId} {fs:Array Field} {r:Reach} {base:Nat} {v:Value} (ht:P.underlying t=some (.struct fs)) (h:Value.okWide P w r base t v):∃ cs,v=.agg cs:=by
  unfold Value.okWide at h
  rw [ht] at h
  obtain ⟨cs,hv,_⟩:=h
  exact ⟨cs,hv⟩
def flatT : TypeDesc → Bool
  | .struct _=>false
  | .array _ _=>false
  | _=>true
theorem okWide_one {t:TypeId} {d:TypeDesc} {r:Reach} {base:Nat} {v:Value} (ht:P.underlying t=some d) (hd:flatT d=true) (h:Value.okWide P w r base t v):v.cells.toList=[v]:=by
  unfold Value.okWide at h
  rw [ht] at h
  cases v with
  | agg cs =>
    exfalso
    cases d <;> first | (cases hd;done) | (simp only [Cell.okWide,Cell.ok,ht] at h)
  | _=>rfl
theorem pa_one {h:Fz} {p:PV} {v:Value} (hv:v.cells.toList=[v]) (r:RL (Rep h) [p] v.cells.toList):paR h (.one p) v:=by
  rw [hv] at r
  exact r.1
theorem pa_agg {h:Fz} {l:List PV} {v:Value} (hv:∃ cs,v=.agg cs) (r:RL (Rep h) l v.cells.toList):paR h (.agg l) v:=by
  obtain ⟨cs,rfl⟩:=hv
  exact ⟨cs.toList,by simp,r⟩
theorem below_H0 {w':World} (b:Bel (H0 w) w.heap.size w w'):Go.RowKit.Below w.heap.size w w' :=
  ⟨b.os,b.tape,b.output,b.size,fun k hk=>b.block k hk fun F e=>by
    unfold H0 at e
    cases hb:w.heap[k]? <;> rw [hb] at e <;> cases e⟩
end
end Go.Pm
/-
  DERIVED: THE SHELF's CONTRACTS AT THIS DUMP,IN PLAIN WORDS (tools/lay-plain.mjs out of 'YtkpjhhoafenogaaLs.lean',which tools/lay-shelf.mjs wrote): THE SAME DECLARATIONS UNDER THE SAME NAMES: 'import','namespace','open','def','theorem' AND NOTHING ELSE: no command of the shelf's: FOR A HAND-IN. Each laying: the table of numbers ('.._ren') and one theorem,a field a fact of the dump's own or the kernel's comparison;each contract: ONE APPLICATION.
-/
namespace Go.Proofs
open Go.Shelf
def Try.laysS106_ren:Go.Shelf.Ren:=⟨fun | 6=>106 | 15=>122 | 14=>121 | 28=>132 | 29=>133 | 20=>124 | 21=>125 | 22=>126 | 23=>127 | 24=>128 | 25=>129 | 26=>130 | 27=>131 | 46=>134 | 47=>135 | 48=>136 | 49=>137 | 50=>138 | 57=>139 | n=>n,fun | 22=>102 | 24=>118 | 25=>147 | 3=>3 | 39=>156 | 0=>0 | 53=>166 | 55=>168 | 4=>4 | 46=>159 | 45=>158 | 50=>163 | 5=>5 | 9=>9 | 66=>169 | 70=>173 | 76=>175 | 77=>143 | n=>n,fun | n=>n⟩
theorem Try.laysS106 : Go.Proofs.SlLaysF0.n6 Try.prog Try.laysS106_ren := {
  mixed:=by kernel_rfl
  f6:=⟨Try.f106.name,by decide,Try.func106.trans (congrArg some (by kernel_rfl))⟩
  f14:=⟨Try.f121.name,by decide,Try.func121.trans (congrArg some (by kernel_rfl))⟩
  f15:=Try.func122.trans (congrArg some (by kernel_rfl))
  f20:=⟨Try.f124.name,by decide,Try.func124.trans (congrArg some (by kernel_rfl))⟩
  f21:=⟨Try.f125.name,by decide,Try.func125.trans (congrArg some (by kernel_rfl))⟩
  f22:=⟨Try.f126.name,by decide,Try.func126.trans (congrArg some (by kernel_rfl))⟩
  f23:=⟨Try.f127.name,by decide,Try.func127.trans (congrArg some (by kernel_rfl))⟩
  f24:=⟨Try.f128.name,by decide,Try.func128.trans (congrArg some (by kernel_rfl))⟩
  f25:=⟨Try.f129.name,by decide,Try.func129.trans (congrArg some (by kernel_rfl))⟩
  f26:=⟨Try.f130.name,by decide,Try.func130.trans (congrArg some (by kernel_rfl))⟩
  f27:=⟨Try.f131.name,by decide,Try.func131.trans (congrArg some (by kernel_rfl))⟩
  f28:=Try.func132.trans (congrArg some (by kernel_rfl))
  f29:=Try.func133.trans (congrArg some (by kernel_rfl))
  f46:=⟨Try.f134.name,by decide,Try.func134.trans (congrArg some (by kernel_rfl))⟩
  f47:=Try.func135.trans (congrArg some (by kernel_rfl))
  f48:=Try.func136.trans (congrArg some (by kernel_rfl))
  f49:=⟨Try.f137.name,by decide,Try.func137.trans (congrArg some (by kernel_rfl))⟩
  f50:=⟨Try.f138.name,by decide,Try.func138.trans (congrArg some (by kernel_rfl))⟩
  f57:=⟨Try.f139.name,by decide,Try.func139.trans (congrArg some (by kernel_rfl))⟩
  t0:=Try.underlying0
  a0:=Try.isAgg0
  z0:=Try.sizeOf0
  v0:=Try.zeroValue0
  t3:=Try.underlying3
  a3:=Try.isAgg3
  z3:=Try.sizeOf3
  v3:=Try.zeroValue3
  t4:=Try.underlying4
  a4:=Try.isAgg4
  z4:=Try.sizeOf4
  v4:=Try.zeroValue4
  t5:=Try.underlying5
  a5:=Try.isAgg5
  z5:=Try.sizeOf5
  v5:=Try.zeroValue5
  t9:=Try.underlying9
  a9:=Try.isAgg9
  z9:=Try.sizeOf9
  v9:=Try.zeroValue9
  t22:=Try.underlying102
  a22:=Try.isAgg102
  z22:=Try.sizeOf102
  v22:=Try.zeroValue102
  t25:=Try.underlying147
  a25:=Try.isAgg147
  z25:=Try.sizeOf147
  v25:=Try.zeroValue147
  t39:=Try.underlying156
  a39:=Try.isAgg156
  z39:=Try.sizeOf156
  v39:=Try.zeroValue156
  t45:=Try.underlying158
  a45:=Try.isAgg158
  z45:=Try.sizeOf158
  v45:=Try.zeroValue158
  t46:=Try.underlying159
  a46:=Try.isAgg159
  z46:=Try.sizeOf159
  v46:=Try.zeroValue159
  t50:=Try.underlying163
  a50:=Try.isAgg163
  z50:=Try.sizeOf163
  v50:=Try.zeroValue163
  t53:=Try.underlying166
  a53:=Try.isAgg166
  z53:=Try.sizeOf166
  v53:=Try.zeroValue166
  t55:=Try.underlying168
  a55:=Try.isAgg168
  z55:=Try.sizeOf168
  v55:=Try.zeroValue168
  t66:=Try.underlying169
  a66:=Try.isAgg169
  z66:=Try.sizeOf169
  v66:=Try.zeroValue169
  t70:=Try.underlying173
  a70:=Try.isAgg173
  z70:=Try.sizeOf173
  v70:=Try.zeroValue173
  t76:=Try.underlying175
  a76:=Try.isAgg175
  z76:=Try.sizeOf175
  v76:=Try.zeroValue175
  t77:=Try.underlying143
  a77:=Try.isAgg143
  z77:=Try.sizeOf143
  v77:=Try.zeroValue143 }
end Go.Proofs
namespace Go.Pm
open Go.Shelf Go.RowKit Go.Lib Go.Sort Go.Proofs

section perm
variable {c:Nat→Nat→Int}
theorem insB_perm (x : Nat) : ∀ l : List Nat, (insB c x l).Perm (x :: l)
  | []=>.refl _
  | y :: r=>by
    unfold insB
    split
    · exact .refl _
    · exact ((insB_perm x r).cons y).trans (.swap _ _ _)
theorem permB_perm (n:Nat):(permB n c).Perm (List.range n):=by
  unfold permB
  generalize List.range n=l
  induction l with
  | nil=>exact .refl _
  | cons x l ih=>exact (insB_perm x _).trans (ih.cons x)
def leB (c:Nat→Nat→Int) (a b:Nat):Prop:=¬ c b a < 0
theorem insB_pw {n : Nat} (H : STO n c) {x : Nat} (hx : x < n) : ∀ {l : List Nat}, (∀ y ∈ l, y < n) → l.Pairwise (leB c) → (insB c x l).Pairwise (leB c)
  | [],_,_=>by simp [insB]
  | y :: r,hl,hp=>by
    have hy:=hl y List.mem_cons_self
    rw [List.pairwise_cons] at hp
    unfold insB
    split
    · rename_i h
      have h:=of_decide_eq_true h
      rw [List.pairwise_cons]
      refine ⟨fun z hz=>?_,List.pairwise_cons.2 hp⟩
      have hxy:leB c x y:=fun h2=>by
        have:=H.1 x hx
        have:=H.2.2 x y x hx hy hx h h2
        omega
      rcases List.mem_cons.1 hz with rfl | hz
      · exact hxy
      · intro h2
        exact hp.1 z hz (H.2.2 z x y (hl z (List.mem_cons_of_mem _ hz)) hx hy h2 h)
    · rename_i h
      have h:=of_decide_eq_false h
      rw [List.pairwise_cons]
      refine ⟨fun z hz=>?_,insB_pw H hx (fun z hz=>hl z (List.mem_cons_of_mem _ hz)) hp.2⟩
      rcases List.mem_cons.1 ((insB_perm x r).mem_iff.1 hz) with rfl | hz
      · exact h
      · exact hp.1 z hz
theorem permB_pw {n:Nat} (H:STO n c):(permB n c).Pairwise (leB c):=by
  have key:∀ l:List Nat,(∀ y∈l,y < n)→(l.foldr (insB c) []).Pairwise (leB c)∧∀ y∈l.foldr (insB c) [],y < n:=by
    intro l
    induction l with
    | nil=>intro _;exact ⟨List.Pairwise.nil,fun y hy=>by simp at hy⟩
    | cons x l ih =>
      intro h
      obtain ⟨h1,h2⟩:=ih fun y hy=>h y (List.mem_cons_of_mem _ hy)
      have hx:=h x List.mem_cons_self
      refine ⟨insB_pw H hx h2 h1,fun y hy=>?_⟩
      rcases List.mem_cons.1 ((insB_perm x _).mem_iff.1 hy) with rfl | hy
      · exact hx
      · exact h2 y hy
  exact (key _ fun y hy=>List.mem_range.1 hy).1
theorem permB_uniq {n:Nat} (H:STO n c) {l:List Nat} (hp:l.Perm (List.range n)) (hs:l.Pairwise (leB c)):l=permB n c:=by
  refine List.Perm.eq_of_pairwise (le:=leB c) (fun a b ha hb h1 h2=>?_) hs (permB_pw H) (hp.trans (permB_perm n).symm)
  have ha:=List.mem_range.1 (hp.mem_iff.1 ha)
  have hb:=List.mem_range.1 ((permB_perm n).mem_iff.1 hb)
  by_cases e:a=b
  · exact e
  · rcases H.2.1 a b ha hb e with h | h
    · exact absurd h.1 h2
    · exact absurd h.1 h1
end perm

theorem world_ext {w w':World} (h1:w'.heap=w.heap) (h2:w'.tape=w.tape) (h3:w'.drawn=w.drawn) (h4:w'.os=w.os) (h5:w'.output=w.output):w'=w:=by
  cases w;cases w';simp_all
theorem bel_grow {w w':World} {h:Fz} (b:Bel h w.heap.size w w') (hi:∀ k F,h k ≠ some (.inv F)):∃ q os,w'=grow (w.drewN q) os:=by
  refine ⟨w'.drawn - w.drawn,w'.heap.extract w.heap.size w'.heap.size,world_ext ?_ b.tape ?_ b.os b.output⟩
  · show w'.heap = w.heap ++ w'.heap.extract w.heap.size w'.heap.size
    apply Array.ext_getElem?
    intro i
    rw [Array.getElem?_append]
    split
    · rename_i hl;exact b.block i hl (fun F=>hi i F)
    · rename_i hl
      rw [Array.getElem?_extract]
      by_cases hlt:i < w'.heap.size
      · rw [if_pos (by omega)];congr 1;omega
      · rw [if_neg (by omega),Array.getElem?_eq_none (by omega)]
  · show w'.drawn = w.drawn + (w'.drawn - w.drawn)
    have:=b.drawn;omega

theorem putRow_block {w : World} {g q : Nat} {cur : Array Value} {e : TypeId} {fr : Nat × Nat} {off : Nat} (F : Array Value) (hb : w.heap[g]? = some (.cells cur e fr)) :
    ∃ cur',(putRow id (Sort.ahead w q) g off F).heap[g]? = some (.cells cur' e fr)∧cur'.size=cur.size:=by
  refine ⟨putCells id off F cur,?_,by simp [putCells]⟩
  simp [putRow,mapBlock,Sort.ahead,Array.getElem?_modify,hb,onCells]
theorem putRow_else {w:World} {g q off:Nat} (F:Array Value) {k:Nat} (hk:k ≠ g):(putRow id (Sort.ahead w q) g off F).heap[k]? = w.heap[k]?:=by
  simp [putRow,mapBlock,Sort.ahead,Array.getElem?_modify,Ne.symm hk]

theorem sortF_own {P:Program} {ρ:Ren} (L:SlLaysF0.n6 P ρ) {e s b:Nat} (he:ρ.t 24=e) (hag:aggT P e=some true) (hsz:szT P e=some s) (hM : ¬ memoOn) (hc:Callable P (ρ.f 6)):OwnOk P (ρ.f 6) (.sort e s b):=by
  intro w h base v n get gf caps cv ag C hC hcv hag' _ hpos ⟨xs,hown,hr⟩ hone hw hob hbase hn hS hO
  rw [hag] at hag';simp only [Option.some.injEq] at hag';subst hag'
  refine ⟨hc,?_⟩
  have hni:∀ k F,h k ≠ some (.inv F):=fun k F hk=>by obtain ⟨o,_,ho⟩:=hw k _ hk;exact hM ho.2
  have hdr:∀ (w':World) (k:Nat),w.drawn≤w.drawn+k:=fun _ k=>Nat.le_add_right _ _
  have none:∀ (p:Option Addr) (cap:Nat),n=0→v=.slice p 0 cap→Calls P (ρ.f 6) #[v,.func (.func gf) #[] cv.toArray] w fun r w'=>r=.returned (.tuple #[])∧VecV h w' base e s v n (sortG n (cmpV C caps true get) get)∧GrB w w' v.ownBlock:=by
    rintro p cap rfl rfl
    refine (AnyF.slices_SortFunc_none L p cap _ w).mono ?_
    rintro r w' ⟨rfl,rfl⟩
    exact ⟨rfl,⟨xs,hown,fun i hi=>absurd hi (Nat.not_lt_zero i)⟩,⟨rfl,rfl,rfl,Nat.le_refl _,fun _ _ _=>rfl⟩,Nat.le_refl _⟩
  rcases hown.2 with ⟨h1,h2⟩ | ⟨blk,cap,cur,rfl,hb,hcell,hncap,hcap,hcs,htk⟩
  · exact none _ _ h2 h1
  by_cases hn0:n=0
  · subst hn0;exact none _ _ rfl rfl
  have:Inhabited (Fin n):=⟨⟨0,by omega⟩⟩
  let enc:Fin n→List Value:=fun i=>(xs.drop (i.val * s)).take s
  let c:=cmpV C caps true get
  let cf:Fin n→Fin n→Int:=fun x y=>c x.val y.val
  let d:Array (Fin n):=Array.ofFn id
  have hds:d.size=n:=Array.size_ofFn
  have hdi:∀ i (hi:i < n),d[i]! = ⟨i,hi⟩:=fun i hi=>by
    rw [getElem!_pos d i (by rw [hds];exact hi)];simp [d]
  have hlt:blk < w.heap.size:=(Array.getElem?_eq_some_iff.1 hcell).1
  have hbn:h blk=Option.none:=hob blk rfl
  have hmul:∀ i,i < n→i * s+s≤n * s:=fun i hi=>by have:=Nat.mul_le_mul_right s (Nat.succ_le_of_lt hi);rw [Nat.succ_mul] at this;exact this
  have hk:∀ x,(enc x).length=s:=fun x=>by
    have:=hmul x.val x.isLt
    simp only [enc,List.length_take,List.length_drop,hown.1];omega
  have hcur:∀ j,j < n * s→cur[j]? = xs[j]?:=fun j hj=>by
    have:(cur.toList.take (n * s))[j]? = xs[j]?:=by rw [htk]
    rw [List.getElem?_take,if_pos hj] at this;simpa using this
  have hxl:∀ j,j < n * s→∃ u,xs[j]? = some u:=fun j hj=>⟨xs[j]'(by rw [hown.1];exact hj),List.getElem?_eq_getElem _⟩
  have h1:∀ x,∀ u∈enc x,u.oneCell'=true:=fun x u hu=>by
    obtain ⟨j,hj⟩:=List.getElem?_of_mem hu
    obtain ⟨p,_,hp⟩:=(hr x.val x.isLt).get' j u hj
    exact hp.one
  have hflat:∀ j (hj:j < n * s),(flatK enc s d)[j]! = xs[j]'(by rw [hown.1];exact hj):=fun j hj=>by
    have hq:j / s < n:=Nat.div_lt_of_lt_mul (by rw [Nat.mul_comm];exact hj)
    rw [get_flatK _ _ _ _ (by rw [hds];exact hj),hdi _ hq]
    have hm:=Nat.mod_lt j hpos
    have hdm:=Nat.div_add_mod j s
    rw [getElem!_pos _ _ (by rw [hk];exact hm)]
    simp only [enc,List.getElem_take,List.getElem_drop]
    congr 1
    rw [Nat.mul_comm];exact hdm
  have hH:HoldsK enc s w blk 0 d:=fun j hj=>by
    have hj:j < n * s:=by rw [size_flatK,hds] at hj;exact hj
    refine ⟨?_,frozen_of_row w blk _ cur e hcell⟩
    rw [hflat j hj,cell_of hcell,Nat.zero_add,hcur j hj]
    exact List.getElem?_eq_getElem _
  have eg:∀ args w,(callFunc gf args).run P w=.ok (.enter gf args) w:=by
    have hcg:Callable P gf:=by
      have hs0:=hS 0 0 (by omega) (by omega)
      unfold cmpS at hs0
      split at hs0
      · rename_i s0 c0 hat
        have hwp:(C (elP true (get 0) :: elP true (get 0) :: caps.map .one)).wp (fun _=>True):=by
          unfold cmpAt at hat
          split at hat
          · rename_i e1;rw [e1];trivial
          · rename_i e1;simp only [Option.some.injEq,Prod.mk.injEq] at hat;rw [e1];exact ⟨by rw [hat.1];exact hs0,trivial⟩
          · cases hat
        exact (hC _ _ hwp w h (.agg (enc ⟨0,by omega⟩).toArray :: .agg (enc ⟨0,by omega⟩).toArray :: cv) ⟨⟨_,rfl,hr 0 (by omega)⟩,⟨_,rfl,hr 0 (by omega)⟩,RL.map_left.2 hcv⟩ hw).1
      · exact hs0.elim
    exact fun args w=>run_callFunc hcg
  have hcmp:CmpLays P gf cv.toArray enc s cf blk 0 d.size w:=by
    intro m os dk hdk x y
    have hs0:=hS x.val y.val x.isLt y.isLt
    unfold cmpS at hs0
    split at hs0
    · rename_i s0 c0 hat
      have hwp:(C (elP true (get x.val) :: elP true (get y.val) :: caps.map .one)).wp (fun rs=>rs=[.one (.int .i64 (cf x y))]):=by
        have hcv:cf x y=c0:=by show cmpV C caps true get x.val y.val=c0;unfold cmpV;rw [hat]
        rw [hcv]
        unfold cmpAt at hat
        split at hat
        · rename_i e1;simp only [Option.some.injEq,Prod.mk.injEq] at hat;rw [e1,hat.2];rfl
        · rename_i e1;simp only [Option.some.injEq,Prod.mk.injEq] at hat;rw [e1,hat.2];exact ⟨by rw [hat.1];exact hs0,rfl⟩
        · cases hat
      have hwh:Hw h (sortWorldK enc s w blk 0 m dk os):=hw.same fun k o hk=>by
        have hkb:k ≠ blk:=fun e=>by rw [e,hbn] at hk;cases hk
        have hkl:=hw.lt hk
        show ((putRow id (Sort.ahead w m) blk 0 (flatK enc s dk)).heap ++ os)[k]? = _
        rw [Array.getElem?_append_left (by simpa [putRow,mapBlock,Sort.ahead] using hkl)]
        exact putRow_else _ hkb
      obtain ⟨_,hrun⟩:=hC _ _ hwp (sortWorldK enc s w blk 0 m dk os) h (.agg (enc x).toArray :: .agg (enc y).toArray :: cv) ⟨⟨_,rfl,hr x.val x.isLt⟩,⟨_,rfl,hr y.val y.isLt⟩,RL.map_left.2 hcv⟩ hwh
      rw [show (#[Value.agg (enc x).toArray,.agg (enc y).toArray] ++ cv.toArray)=(Value.agg (enc x).toArray :: .agg (enc y).toArray :: cv).toArray by simp]
      refine hrun.mono ?_
      rintro e' w' ⟨h',rs,v',hrs,rfl,hres,hbel,_,_,_⟩
      subst hrs
      have hv':v'=.int .i64 (cf x y):=by
        have:Rep h' (.int .i64 (cf x y)) v':=hres
        cases this;rfl
      subst hv'
      exact ⟨rfl,bel_grow hbel hni⟩
    · exact hs0.elim
  have hSWO:SWO (ltOf cf):=by
    refine ⟨fun x=>?_,fun x y z hxy hyz=>?_,fun x y z hxy hyz=>?_⟩
    · have : 0 ≤ c x.val x.val := hO.1 x.val x.isLt
      simp only [ltOf,decide_eq_false_iff_not];show ¬ c x.val x.val < 0;omega
    · simp only [ltOf, decide_eq_true_eq] at hxy hyz ⊢
      exact hO.2.2 _ _ _ x.isLt y.isLt z.isLt hxy hyz
    · simp only [ltOf, decide_eq_false_iff_not] at hxy hyz ⊢
      intro hxz
      have hxy : ¬ c x.val y.val < 0:=hxy
      have hyz : ¬ c y.val z.val < 0:=hyz
      have hxz:c x.val z.val < 0:=hxz
      by_cases e1:y.val=z.val
      · rw [e1] at hxy;exact hxy hxz
      · by_cases e2 : x.val = y.val
        · rw [e2] at hxz;exact hyz hxz
        · have a1 : c z.val y.val < 0 := by rcases hO.2.1 y.val z.val y.isLt z.isLt e1 with h | h; exact absurd h.1 hyz; exact h.1
          exact hxy (hO.2.2 _ _ _ x.isLt z.isLt y.isLt hxz a1)
  have aE:∀ w,(isAgg (ρ.t 24)).run P w=.ok true w:=fun w=>by rw [he];exact run_isAgg hag
  have zE:∀ w,(Go.sizeOf (ρ.t 24)).run P w=.ok s w:=fun w=>by rw [he];exact run_sizeOf hsz
  have hrun:=AnyQ.slices_SortFunc L s aE zE enc hk h1 cf hSWO gf cv.toArray blk 0 cap d w eg hcmp hH hlt (by rw [hds];omega)
  rw [hds] at hrun
  refine hrun.mono ?_
  rintro r w' ⟨rfl,d',m,os,hperm,hsort,rfl⟩
  obtain ⟨hps,_,hpp⟩:=hperm
  have hd's:d'.size=n:=by rw [hps,hds]
  have hall:∀ (z:Array (Fin n)),z.size=n→z.extract 0 n=z:=fun z hz=>Array.ext (by simp [hz]) (fun i h1 h2=>by simp)
  rw [hall d' hd's,hall d hds] at hpp
  have hl:d'.toList.map Fin.val=permB n c:=by
    refine permB_uniq hO ?_ ?_
    · refine (hpp.map Fin.val).trans ?_
      have:d.toList.map Fin.val=List.range n:=by
        apply List.ext_getElem?
        intro i
        simp only [d,List.getElem?_map]
        by_cases hi:i < n
        · simp [hi]
        · rw [List.getElem?_eq_none (by simp;omega),List.getElem?_eq_none (by simp;omega)];rfl
      rw [this]
    · rw [List.pairwise_map, List.pairwise_iff_getElem]
      intro i j hi hj hij
      have hi':i < n:=by simpa [hd's] using hi
      have hj':j < n:=by simpa [hd's] using hj
      have:=hsort i j (Nat.zero_le _) hij hj'
      rw [getElem!_pos d' j (by omega),getElem!_pos d' i (by omega)] at this
      simp only [ltOf,decide_eq_false_iff_not] at this
      exact this
  have hget:∀ i (hi:i < n),sortG n c get i=get (d'[i]'(by omega)).val:=fun i hi=>by
    unfold sortG
    rw [← hl]
    congr 1
    rw [List.getD_eq_getElem?_getD,List.getElem?_map]
    simp [hd's,hi]
  obtain ⟨cur',hcell',hsz'⟩:=putRow_block (q:=m) (off:=0) (flatK enc s d') hcell
  have hgrow:(sortWorldK enc s w blk 0 m d' os).heap[blk]? = some (.cells cur' e (0,0)):=by
    show ((putRow id (Sort.ahead w m) blk 0 (flatK enc s d')).heap ++ os)[blk]? = _
    rw [Array.getElem?_append_left (by simpa [putRow,mapBlock,Sort.ahead] using hlt)]
    exact hcell'
  have hH':HoldsK enc s (sortWorldK enc s w blk 0 m d' os) blk 0 d':=holdsK_sortWorldK_c enc s w blk 0 d d' m os hH hlt (by rw [hd's,hds])
  have hcur':∀ j (hj:j < n * s),cur'[j]? = some ((flatK enc s d')[j]!):=fun j hj=>by
    have:=(hH' j (by rw [size_flatK,hd's];exact hj)).1
    rw [cell_of hgrow,Nat.zero_add] at this
    exact this
  refine ⟨rfl,⟨cur'.toList.take (n * s),⟨by rw [List.length_take,Array.length_toList,hsz',hcs];exact Nat.min_eq_left (Nat.mul_le_mul_right s hncap),.inr ⟨blk,cap,cur',rfl,hb,hgrow,hncap,hcap,by rw [hsz',hcs],rfl⟩⟩,fun i hi=>?_⟩,?_⟩
  · have e1:((cur'.toList.take (n * s)).drop (i * s)).take s=enc (d'[i]'(by omega)):=by
      apply List.ext_getElem?
      intro j
      have hm:=hmul i hi
      rw [List.getElem?_take]
      split
      · rename_i hj
        rw [List.getElem?_drop,List.getElem?_take,if_pos (by omega),Array.getElem?_toList,hcur' _ (by omega)]
        have hdiv:(i * s+j) / s=i:=by rw [Nat.mul_comm,Nat.mul_add_div hpos,Nat.div_eq_of_lt hj,Nat.add_zero]
        have hmod:(i * s+j) % s=j:=by rw [Nat.mul_comm,Nat.mul_add_mod,Nat.mod_eq_of_lt hj]
        rw [get_flatK _ _ _ _ (by rw [hd's];omega),hdiv,hmod,getElem!_pos d' i (by omega),getElem!_pos _ _ (by rw [hk];exact hj)]
        exact (List.getElem?_eq_getElem _).symm
      · rename_i hj
        rw [List.getElem?_eq_none (by rw [hk];omega)]
    rw [e1,hget i hi]
    exact hr _ (d'[i]'(by omega)).isLt
  · refine ⟨⟨rfl, rfl, rfl, ?_, fun k hk hne => ?_⟩, Nat.le_add_right _ _⟩
    · show w.heap.size ≤ ((putRow id (Sort.ahead w m) blk 0 (flatK enc s d')).heap ++ os).size
      simp [putRow,mapBlock,Sort.ahead]
    · show ((putRow id (Sort.ahead w m) blk 0 (flatK enc s d')).heap ++ os)[k]? = _
      rw [Array.getElem?_append_left (by simpa [putRow,mapBlock,Sort.ahead] using hk)]
      exact putRow_else _ fun e=>hne (by rw [e];rfl)
end Go.Pm
namespace Go.Proofs
open Go Go.Pm
set_option maxRecDepth 100000
set_option linter.unusedVariables false
attribute [local irreducible] Go.Pm.vcFun Go.Pm.vc Go.Pm.vcIter
abbrev enc_3 (x:Int):List PV:=[.int .i64 x]
def dec_3 : List PV → Int
  | [.int .i64 x]=>x
  | _=>default
def decF_3 (g:Nat→List PV):Nat→Int:=fun i=>dec_3 (g i)
theorem decF_enc_3 (f:Nat→Int):decF_3 (fun i=>enc_3 (f i))=f:=rfl
structure Gate where
  Z:Int
  Low:Int
  High:Int
deriving Inhabited
abbrev enc_55 (x:Gate):List PV:=[.int .i64 x.Z,.int .i64 x.Low,.int .i64 x.High]
def dec_55 : List PV → Gate
  | [.int .i64 x_Z,.int .i64 x_Low,.int .i64 x_High]=>(⟨x_Z,x_Low,x_High⟩:Gate)
  | _=>default
def decF_55 (g:Nat→List PV):Nat→Gate:=fun i=>dec_55 (g i)
theorem decF_enc_55 (f:Nat→Gate):decF_55 (fun i=>enc_55 (f i))=f:=rfl
abbrev enc_22 (x:(Sl Gate)):List PV:=[.sl x.len 3 (fun i=>enc_55 (x.get i))]
structure Frac where
  Num:Int
  Den:Int
deriving Inhabited
abbrev enc_25 (x:Frac):List PV:=[.int .i64 x.Num,.int .i64 x.Den]
def dec_25 : List PV → Frac
  | [.int .i64 x_Num,.int .i64 x_Den]=>(⟨x_Num,x_Den⟩:Frac)
  | _=>default
def decF_25 (g:Nat→List PV):Nat→Frac:=fun i=>dec_25 (g i)
theorem decF_enc_25 (f:Nat→Frac):decF_25 (fun i=>enc_25 (f i))=f:=rfl
structure Line where
  Slope:Frac
  Start:Frac
deriving Inhabited
abbrev enc_37 (x:Line):List PV:=[.int .i64 x.Slope.Num,.int .i64 x.Slope.Den,.int .i64 x.Start.Num,.int .i64 x.Start.Den]
def dec_37 : List PV → Line
  | [.int .i64 x_Slope_Num,.int .i64 x_Slope_Den,.int .i64 x_Start_Num,.int .i64 x_Start_Den]=>(⟨(⟨x_Slope_Num,x_Slope_Den⟩:Frac),(⟨x_Start_Num,x_Start_Den⟩:Frac)⟩:Line)
  | _=>default
def decF_37 (g:Nat→List PV):Nat→Line:=fun i=>dec_37 (g i)
theorem decF_enc_37 (f:Nat→Line):decF_37 (fun i=>enc_37 (f i))=f:=rfl
structure Span where
  Low:Int
  High:Int
deriving Inhabited
structure list where
  Gates:(Sl Gate)
deriving Inhabited
abbrev enc_101 (x:list):List PV:=[.sl x.Gates.len 3 (fun i=>enc_55 (x.Gates.get i))]
structure straight where
  slope:Int
  start:Int
  den:Int
deriving Inhabited
abbrev enc_118 (x:straight):List PV:=[.int .i64 x.slope,.int .i64 x.start,.int .i64 x.den]
def dec_118 : List PV → straight
  | [.int .i64 x_slope,.int .i64 x_start,.int .i64 x_den]=>(⟨x_slope,x_start,x_den⟩:straight)
  | _=>default
def decF_118 (g:Nat→List PV):Nat→straight:=fun i=>dec_118 (g i)
theorem decF_enc_118 (f:Nat→straight):decF_118 (fun i=>enc_118 (f i))=f:=rfl
structure set where
  list:list
  corners:(Sl straight)
deriving Inhabited
abbrev enc_104 (x:set):List PV:=[.sl x.list.Gates.len 3 (fun i=>enc_55 (x.list.Gates.get i)),.sl x.corners.len 3 (fun i=>enc_118 (x.corners.get i))]
abbrev enc_129 (x:Mp):List PV:=[.fm (true,2,false,[some .i64]) x.n x.F]
end Go.Proofs
namespace Go.Proofs
open Go Go.Pm
set_option maxRecDepth 100000
set_option linter.unusedVariables false
attribute [local irreducible] Go.Pm.vcFun Go.Pm.vc Go.Pm.vcIter
abbrev T74:Tabs:=Tabs.nil
theorem okT74:TabsOk Try.prog T74:=TabsOk.nil
abbrev G74:Ctrs:=csm T74 (fun _ _=>[]) (fun _=>false)
def ann74:Ann:=⟨15,[(0,⟨[0,1,2],[],[],[],[],[],[]⟩),(1,⟨[6],[],[],[],[],[],[]⟩)],
  [],
  [],
  [],[]⟩
theorem f74_top (x : Int) (low : Int) (high : Int) (K : List PA → Prop) :
  vcFun Try.prog G74 ann74 74 [.one (.int .i64 x),.one (.int .i64 low),.one (.int .i64 high)] K =
  (condP (decide (x ≥ low))
   (K [.one (.bool (decide (x≤high)))])
   (K [.one (.bool false)])):=by kernel_rfl
abbrev e74 (r:Bool):List PA:=[.one (.bool r)]
def s74 (x:Int) (low:Int) (high:Int):Bool :=
  (cond (decide (x ≥ low))
   (decide (x≤high))
   false)
theorem q74 (x:Int) (low:Int) (high:Int) (K:List PA→Prop) (hk:K (e74 (s74 x low high))):vcFun Try.prog G74 ann74 74 [.one (.int .i64 x),.one (.int .i64 low),.one (.int .i64 high)] K:=by
  refine ofEq (f74_top x low high K) ?_
  unfold s74 at hk
  exact (condP_gt (K := fun r => K (e74 r))
   (fun hk=>hk)
   (fun hk=>hk) hk)
def ctr74 : List PA → COut
  | [.one (.int .i64 a0),.one (.int .i64 a1),.one (.int .i64 a2)]=>.tot [.one (.bool (s74 a0 a1 a2))]
  | _=>.no
theorem call74:Callable Try.prog 74:=⟨_,rfl,rfl,by kernel_rfl⟩
theorem ok74:Ok Try.prog 74 ctr74:=ok_tab okT74 call74 fun args K h=>by
  unfold ctr74 at h
  split at h
  · rename_i a0 a1 a2
    have hk:=h
    exact ⟨(fun _ _=>[]),(fun _=>false),ann74,q74 a0 a1 a2 K hk⟩
  · exact h.elim
abbrev T87:Tabs:=(Tabs.nil.addF 74 ctr74)
theorem okT87:TabsOk Try.prog T87:=(TabsOk.nil.addF ok74)
abbrev G87:Ctrs:=csm T87 (fun _ _=>[]) (fun _=>false)
def ann87:Ann:=⟨23,[(0,⟨[1],[1],[],[],[],[],[]⟩),(1,⟨[2],[],[],[],[],[],[]⟩)],
  [],
  [],
  [],[]⟩
theorem f87_top (g : Gate) (K : List PA → Prop) :
  vcFun Try.prog G87 ann87 87 [.agg [.int .i64 g.Z,.int .i64 g.Low,.int .i64 g.High]] K =
  (condP (s74 g.Z (0:Int) (100000:Int))
   (condP (decide (g.Low ≥ (-1000000:Int)))
    (condP (decide (g.Low ≤ g.High))
     (K [.one (.bool (decide (g.High≤(1000000:Int))))])
     (K [.one (.bool false)]))
    (K [.one (.bool false)]))
   (K [.one (.bool false)])):=by kernel_rfl
abbrev e87 (r:Bool):List PA:=[.one (.bool r)]
def s87 (g:Gate):Bool :=
  (cond (s74 g.Z (0:Int) (100000:Int))
   (cond (decide (g.Low ≥ (-1000000:Int)))
    (cond (decide (g.Low ≤ g.High))
     (decide (g.High≤(1000000:Int)))
     false)
    false)
   false)
theorem q87 (g:Gate) (K:List PA→Prop) (hk:K (e87 (s87 g))):vcFun Try.prog G87 ann87 87 [.agg [.int .i64 g.Z,.int .i64 g.Low,.int .i64 g.High]] K:=by
  refine ofEq (f87_top g K) ?_
  unfold s87 at hk
  exact (condP_gt (K := fun r => K (e87 r))
   (fun hk => (condP_gt (K := fun r => K (e87 r))
    (fun hk => (condP_gt (K := fun r => K (e87 r))
     (fun hk=>hk)
     (fun hk=>hk) hk))
    (fun hk=>hk) hk))
   (fun hk=>hk) hk)
def ctr87 : List PA → COut
  | [.agg [.int .i64 a0_Z,.int .i64 a0_Low,.int .i64 a0_High]]=>.tot [.one (.bool (s87 (⟨a0_Z,a0_Low,a0_High⟩:Gate)))]
  | _=>.no
theorem call87:Callable Try.prog 87:=⟨_,rfl,rfl,by kernel_rfl⟩
theorem ok87:Ok Try.prog 87 ctr87:=ok_tab okT87 call87 fun args K h=>by
  unfold ctr87 at h
  split at h
  · rename_i a0_Z a0_Low a0_High
    have hk:=h
    exact ⟨(fun _ _=>[]),(fun _=>false),ann87,q87 (⟨a0_Z,a0_Low,a0_High⟩:Gate) K hk⟩
  · exact h.elim
abbrev T64:Tabs:=((Tabs.nil.addF 74 ctr74).addF 87 ctr87)
theorem okT64:TabsOk Try.prog T64:=((TabsOk.nil.addF ok74).addF ok87)
abbrev G64:Ctrs:=csm T64 (fun _ _=>[]) (fun _=>false)
def ann64:Ann:=⟨18,[(0,⟨[0],[],[],[],[],[],[]⟩),(1,⟨[0,5,6,7],[],[],[],[],[],[]⟩),(2,⟨[0,5,6,7,8],[],[],[],[],[],[]⟩),(3,⟨[0,4,5,6,7],[4],[],[],[],[],[]⟩),(4,⟨[0,5,6,7,13],[],[],[],[],[],[]⟩),(5,⟨[2],[],[],[],[],[],[]⟩),(6,⟨[0,5,6,7],[],[],[],[],[],[]⟩),(7,⟨[2],[],[],[],[],[],[]⟩)],
  [(2,⟨[0,5,6,7],[],[],[],[],[],[]⟩)],
  [(5,⟨[0,5,6,7,13],[],[],[],[],[],[]⟩)],
  [],[]⟩
def f64_g0 (gates:(Sl Gate)) (t7v0:Int):St:=⟨[(0,.one (.c (.p (.sl gates.len 3 (fun i=>enc_55 (gates.get i)))))),(5,.one (.c (.p (.sl gates.len 3 (fun i=>enc_55 (gates.get i)))))),(6,.one (.c (.p (.int .i64 (gates.len:Int))))),(7,.one (.c (.p (.int .i64 t7v0))))],[],[]⟩
def f64_at0 (K:List PA→Prop) (gates:(Sl Gate)) (t7v0:Int):Prop:=vc Try.prog G64 ann64 (cdF Try.f64 [1,0,1,0]) (blockK 0 (sqK Try.prog G64 ann64 (cdF Try.f64 [1,1]) (bodyK Try.prog Try.f64 K))) (f64_g0 gates t7v0)
def f64_g1 (gates:(Sl Gate)) (t7v1:Int) (t13v1:Bool):St:=⟨[(0,.one (.c (.p (.sl gates.len 3 (fun i=>enc_55 (gates.get i)))))),(5,.one (.c (.p (.sl gates.len 3 (fun i=>enc_55 (gates.get i)))))),(6,.one (.c (.p (.int .i64 (gates.len:Int))))),(7,.one (.c (.p (.int .i64 t7v1)))),(13,.one (.c (.p (.bool t13v1))))],[],[]⟩
def f64_at1 (K:List PA→Prop) (X0:St→Prop) (gates:(Sl Gate)) (t7v1:Int) (t13v1:Bool):Prop:=vc Try.prog G64 ann64 (cdF Try.f64 [1,0,1,0,0,1,1,0,0,1,1]) (blockK 1 (sqK Try.prog G64 ann64 (cdF Try.f64 [1,0,1,0,0,1,1,1]) (loopK Try.prog ann64 2 X0 (blockK 0 (sqK Try.prog G64 ann64 (cdF Try.f64 [1,1]) (bodyK Try.prog Try.f64 K)))))) (f64_g1 gates t7v1 t13v1)
theorem f64_top (gates : (Sl Gate)) (K : List PA → Prop) :
  vcFun Try.prog G64 ann64 64 [.one (.sl gates.len 3 (fun i=>enc_55 (gates.get i)))] K =
  (f64_at0 K gates (0:Int)):=by kernel_rfl
def f64_step0 (K:List PA→Prop) (X0:St→Prop) (gates:(Sl Gate)) (t7v0:Int):Prop :=
  (condP (decide (t7v0 < (gates.len : Int)))
   (((0≤t7v0∧t7v0 < (gates.len:Int))) ∧
   (f64_at1 K X0 gates t7v0 (!(s87 (gates.get t7v0.toNat)))))
   (K [.one (.bool (s74 (gates.len:Int) (1:Int) (24:Int)))]))
theorem f64_stepeq0 (K : List PA → Prop) (X0 : St → Prop) (gates : (Sl Gate)) (t7v0 : Int) :
  vc Try.prog G64 ann64 (cd (cdF Try.f64 [1,0,1,0]) [0]) (loopK Try.prog ann64 2 X0 (blockK 0 (sqK Try.prog G64 ann64 (cdF Try.f64 [1,1]) (bodyK Try.prog Try.f64 K)))) (f64_g0 gates t7v0) =
  f64_step0 K X0 gates t7v0:=by kernel_rfl
theorem f64_loop0 (K : List PA → Prop) (gates : (Sl Gate)) (t7v0 : Int)
  (h:∀ X0:St→Prop,(∀ (t7v0:Int),f64_step0 K X0 gates t7v0→X0 (f64_g0 gates t7v0))→X0 (f64_g0 gates t7v0)) :
  f64_at0 K gates t7v0:=by
  have e:f64_at0 K gates t7v0=(∀ X:St→Prop,(∀ s,vc Try.prog G64 ann64 (cd (cdF Try.f64 [1,0,1,0]) [0]) (loopK Try.prog ann64 2 X (blockK 0 (sqK Try.prog G64 ann64 (cdF Try.f64 [1,1]) (bodyK Try.prog Try.f64 K)))) s→X s)→X (f64_g0 gates t7v0)):=by kernel_rfl
  refine ofEq e ?_
  intro X hX
  refine h X ?_
  intro t7v0 hs
  refine hX _ ?_
  have e2:=f64_stepeq0 K X gates t7v0
  rw [e2]
  exact hs
theorem f64_eq1 (K : List PA → Prop) (X0 : St → Prop) (gates : (Sl Gate)) (t7v1 : Int) (t13v1 : Bool) :
  f64_at1 K X0 gates t7v1 t13v1 =
  (condP t13v1
   (K [.one (.bool false)])
   (X0 (f64_g0 gates (w64 (t7v1+(1:Int)))))):=by kernel_rfl
abbrev e64 (r:Bool):List PA:=[.one (.bool r)]
attribute [irreducible] f64_at0 f64_at1
def s64_at1 (S0:Int→Bool) (gates:(Sl Gate)) (t7v1:Int) (t13v1:Bool):Bool :=
  (cond t13v1
   false
   (S0 (w64 (t7v1+(1:Int)))))
def p64_at1 (P0:Int→Bool) (gates:(Sl Gate)) (t7v1:Int) (t13v1:Bool):Bool :=
  (cond t13v1
   true
   (P0 (w64 (t7v1+(1:Int)))))
theorem q64_at1 (K : List PA → Prop) (gates : (Sl Gate))
  (X0:St→Prop) (P0:Int→Bool) (S0:Int→Bool)
  (hX0:∀ (t7v0:Int),P0 t7v0=true→K (e64 (S0 t7v0))→X0 (f64_g0 gates t7v0)) (t7v1:Int) (t13v1:Bool) (hs:p64_at1 P0 gates t7v1 t13v1=true) (hk:K (e64 (s64_at1 S0 gates t7v1 t13v1))):f64_at1 K X0 gates t7v1 t13v1:=by
  refine ofEq (f64_eq1 K X0 gates t7v1 t13v1) ?_
  unfold p64_at1 at hs
  unfold s64_at1 at hk
  exact (condB_go (K := fun r => K (e64 r))
   (fun hs hk=>hk)
   (fun hs hk=>(hX0 (w64 (t7v1+(1:Int))) hs hk)) hs hk)
def s64_st0 (gates:(Sl Gate)) (S0:Int→Bool) (t7v0:Int):Bool :=
  (cond (decide (t7v0 < (gates.len : Int)))
   (s64_at1 S0 gates t7v0 (!(s87 (gates.get t7v0.toNat))))
   (s74 (gates.len:Int) (1:Int) (24:Int)))
def p64_st0 (gates:(Sl Gate)) (P0:Int→Bool) (t7v0:Int):Bool :=
  (cond (decide (t7v0 < (gates.len : Int)))
   (decide ((0≤t7v0∧t7v0 < (gates.len:Int))) &&
   (p64_at1 P0 gates t7v0 (!(s87 (gates.get t7v0.toNat)))))
   true)
def s64_lp0 (gates : (Sl Gate)) : Nat → Int → Bool
  | 0=>fun _=>default
  | k+1=>s64_st0 gates (s64_lp0 gates k)
def p64_lp0 (gates : (Sl Gate)) : Nat → Int → Bool
  | 0=>fun _=>false
  | k+1=>p64_st0 gates (p64_lp0 gates k)
def s64_at0 (gates:(Sl Gate)) (t7v0:Int):Bool:=s64_lp0 gates Fuel t7v0
def p64_at0 (gates:(Sl Gate)) (t7v0:Int):Bool:=p64_lp0 gates Fuel t7v0
theorem q64_at0 (K:List PA→Prop) (gates:(Sl Gate)) (t7v0:Int) (hs:p64_at0 gates t7v0=true) (hk:K (e64 (s64_at0 gates t7v0))):f64_at0 K gates t7v0:=by
  refine f64_loop0 K gates t7v0 ?_
  intro X0 hstep
  have key:∀ (k:Nat) (t7v0:Int),p64_lp0 gates k t7v0=true→K (e64 (s64_lp0 gates k t7v0))→X0 (f64_g0 gates t7v0):=by
    intro k
    induction k with
    | zero=>intro t7v0 hs;exact absurd hs Bool.false_ne_true
    | succ k ih =>
      intro t7v0 hs hk
      refine hstep t7v0 ?_
      have hs:p64_st0 gates (p64_lp0 gates k) t7v0=true:=hs
      have hk:K (e64 (s64_st0 gates (s64_lp0 gates k) t7v0)):=hk
      unfold p64_st0 at hs
      unfold s64_st0 at hk
      generalize s64_lp0 gates k=S0 at hk ih
      generalize p64_lp0 gates k=P0 at hs ih
      have hX0:=ih
      exact (condB_go (K := fun r => K (e64 r))
       (fun hs hk=>(andK hs fun hc hs=>⟨hc,(q64_at1 K gates X0 P0 S0 hX0 t7v0 (!(s87 (gates.get t7v0.toNat))) hs hk)⟩))
       (fun hs hk=>hk) hs hk)
  exact key _ t7v0 hs hk
def s64 (gates:(Sl Gate)):Bool :=
  (s64_at0 gates (0:Int))
def p64 (gates:(Sl Gate)):Bool :=
  (p64_at0 gates (0:Int))
theorem q64 (gates:(Sl Gate)) (K:List PA→Prop) (hs:p64 gates=true) (hk:K (e64 (s64 gates))):vcFun Try.prog G64 ann64 64 [.one (.sl gates.len 3 (fun i=>enc_55 (gates.get i)))] K:=by
  refine ofEq (f64_top gates K) ?_
  unfold p64 at hs
  unfold s64 at hk
  exact (q64_at0 K gates (0:Int) hs hk)
def ctr64 : List PA → COut
  | [.one (.sl a0_n a0_s a0_g)]=>.det (IsE enc_55 3 a0_s a0_g∧p64 (⟨a0_n,decF_55 a0_g⟩:(Sl Gate))=true) [.one (.bool (s64 (⟨a0_n,decF_55 a0_g⟩:(Sl Gate))))]
  | _=>.no
theorem call64:Callable Try.prog 64:=⟨_,rfl,rfl,by kernel_rfl⟩
theorem ok64:Ok Try.prog 64 ctr64:=ok_tab okT64 call64 fun args K h=>by
  unfold ctr64 at h
  split at h
  · rename_i a0_n a0_s a0_g
    obtain ⟨⟨⟨rfl,a0_f,rfl⟩,hs⟩,hk⟩:=h
    try rw [decF_enc_55 a0_f] at hs
    try rw [decF_enc_55 a0_f] at hk
    exact ⟨(fun _ _=>[]),(fun _=>false),ann64,q64 (⟨a0_n,a0_f⟩:(Sl Gate)) K hs hk⟩
  · exact h.elim
abbrev T100:Tabs:=Tabs.nil
theorem okT100:TabsOk Try.prog T100:=TabsOk.nil
abbrev G100:Ctrs:=csm T100 (fun _ _=>[]) (fun _=>false)
def ann100:Ann:=⟨12,[(0,⟨[1,2],[2],[],[],[],[],[]⟩),(1,⟨[3],[],[],[],[],[],[]⟩)],
  [],
  [],
  [],[]⟩
theorem f100_top (c0 : list) (g : Gate) (K : List PA → Prop) :
  vcFun Try.prog G100 ann100 100 [.agg [.int .i64 g.Z,.int .i64 g.Low,.int .i64 g.High],.one (.fp (enc_101 c0) 0)] K =
  (((0≤(0:Int)∧(0:Int) < (c0.Gates.len:Int))) ∧
  (K [.one (.bool (g.Z != (c0.Gates.get 0).Z))])):=by kernel_rfl
abbrev e100 (r:Bool):List PA:=[.one (.bool r)]
def s100 (c0:list) (g:Gate):Bool :=
  (g.Z != (c0.Gates.get 0).Z)
def p100 (c0:list) (g:Gate):Bool :=
  (decide ((0≤(0:Int)∧(0:Int) < (c0.Gates.len:Int))) &&
  true)
theorem q100 (c0:list) (g:Gate) (K:List PA→Prop) (hs:p100 c0 g=true) (hk:K (e100 (s100 c0 g))):vcFun Try.prog G100 ann100 100 [.agg [.int .i64 g.Z,.int .i64 g.Low,.int .i64 g.High],.one (.fp (enc_101 c0) 0)] K:=by
  refine ofEq (f100_top c0 g K) ?_
  unfold p100 at hs
  unfold s100 at hk
  exact (andK hs fun hc hs=>⟨hc,hk⟩)
def ctr100 : List PA → COut
  | [.agg [.int .i64 a0_Z,.int .i64 a0_Low,.int .i64 a0_High],.one (.fp [.sl c0_Gates_n c0_Gates_s c0_Gates_g] 0)]=>.det (IsE enc_55 3 c0_Gates_s c0_Gates_g∧p100 (⟨(⟨c0_Gates_n,decF_55 c0_Gates_g⟩:(Sl Gate))⟩:list) (⟨a0_Z,a0_Low,a0_High⟩:Gate)=true) [.one (.bool (s100 (⟨(⟨c0_Gates_n,decF_55 c0_Gates_g⟩:(Sl Gate))⟩:list) (⟨a0_Z,a0_Low,a0_High⟩:Gate)))]
  | _=>.no
theorem call100:Callable Try.prog 100:=⟨_,rfl,rfl,by kernel_rfl⟩
theorem ok100:Ok Try.prog 100 ctr100:=ok_tab okT100 call100 fun args K h=>by
  unfold ctr100 at h
  split at h
  · rename_i a0_Z a0_Low a0_High c0_Gates_n c0_Gates_s c0_Gates_g
    obtain ⟨⟨⟨rfl,c0_Gates_f,rfl⟩,hs⟩,hk⟩:=h
    try rw [decF_enc_55 c0_Gates_f] at hs
    try rw [decF_enc_55 c0_Gates_f] at hk
    exact ⟨(fun _ _=>[]),(fun _=>false),ann100,q100 (⟨(⟨c0_Gates_n,c0_Gates_f⟩:(Sl Gate))⟩:list) (⟨a0_Z,a0_Low,a0_High⟩:Gate) K hs hk⟩
  · exact h.elim
abbrev T118:Tabs:=(Tabs.nil.addF 74 ctr74)
theorem okT118:TabsOk Try.prog T118:=(TabsOk.nil.addF ok74)
abbrev G118:Ctrs:=csm T118 (fun _ _=>[]) (fun _=>false)
def ann118:Ann:=⟨24,[(0,⟨[2,3],[2,3],[],[],[],[],[]⟩),(1,⟨[4],[],[],[],[],[],[]⟩)],
  [],
  [],
  [],[]⟩
theorem f118_top (s : straight) (g : Gate) (K : List PA → Prop) :
  vcFun Try.prog G118 ann118 118 [.agg [.int .i64 s.slope,.int .i64 s.start,.int .i64 s.den],.agg [.int .i64 g.Z,.int .i64 g.Low,.int .i64 g.High]] K =
  (K [.one (.bool (s74 (w64 (s.start+(w64 (s.slope * g.Z)))) (w64 (g.Low * s.den)) (w64 (g.High * s.den))))]):=by kernel_rfl
abbrev e118 (r:Bool):List PA:=[.one (.bool r)]
def s118 (s:straight) (g:Gate):Bool :=
  (s74 (w64 (s.start+(w64 (s.slope * g.Z)))) (w64 (g.Low * s.den)) (w64 (g.High * s.den)))
theorem q118 (s:straight) (g:Gate) (K:List PA→Prop) (hk:K (e118 (s118 s g))):vcFun Try.prog G118 ann118 118 [.agg [.int .i64 s.slope,.int .i64 s.start,.int .i64 s.den],.agg [.int .i64 g.Z,.int .i64 g.Low,.int .i64 g.High]] K:=by
  refine ofEq (f118_top s g K) ?_
  unfold s118 at hk
  exact hk
def ctr118 : List PA → COut
  | [.agg [.int .i64 a0_slope,.int .i64 a0_start,.int .i64 a0_den],.agg [.int .i64 a1_Z,.int .i64 a1_Low,.int .i64 a1_High]]=>.tot [.one (.bool (s118 (⟨a0_slope,a0_start,a0_den⟩:straight) (⟨a1_Z,a1_Low,a1_High⟩:Gate)))]
  | _=>.no
theorem call118:Callable Try.prog 118:=⟨_,rfl,rfl,by kernel_rfl⟩
theorem ok118:Ok Try.prog 118 ctr118:=ok_tab okT118 call118 fun args K h=>by
  unfold ctr118 at h
  split at h
  · rename_i a0_slope a0_start a0_den a1_Z a1_Low a1_High
    have hk:=h
    exact ⟨(fun _ _=>[]),(fun _=>false),ann118,q118 (⟨a0_slope,a0_start,a0_den⟩:straight) (⟨a1_Z,a1_Low,a1_High⟩:Gate) K hk⟩
  · exact h.elim
abbrev T117:Tabs:=(Tabs.nil.addF 118 ctr118)
theorem okT117:TabsOk Try.prog T117:=(TabsOk.nil.addF ok118)
abbrev G117:Ctrs:=csm T117 (fun _ _=>[]) (fun _=>false)
def ann117:Ann:=⟨8,[(0,⟨[1,2],[2],[],[],[],[],[]⟩),(1,⟨[3],[],[],[],[],[],[]⟩)],
  [],
  [],
  [],[]⟩
theorem f117_top (c0 : straight) (g : Gate) (K : List PA → Prop) :
  vcFun Try.prog G117 ann117 117 [.agg [.int .i64 g.Z,.int .i64 g.Low,.int .i64 g.High],.one (.fp (enc_118 c0) 0)] K =
  (K [.one (.bool (!(s118 c0 g)))]):=by kernel_rfl
abbrev e117 (r:Bool):List PA:=[.one (.bool r)]
def s117 (c0:straight) (g:Gate):Bool :=
  (!(s118 c0 g))
theorem q117 (c0:straight) (g:Gate) (K:List PA→Prop) (hk:K (e117 (s117 c0 g))):vcFun Try.prog G117 ann117 117 [.agg [.int .i64 g.Z,.int .i64 g.Low,.int .i64 g.High],.one (.fp (enc_118 c0) 0)] K:=by
  refine ofEq (f117_top c0 g K) ?_
  unfold s117 at hk
  exact hk
def ctr117 : List PA → COut
  | [.agg [.int .i64 a0_Z,.int .i64 a0_Low,.int .i64 a0_High],.one (.fp [.int .i64 c0_slope,.int .i64 c0_start,.int .i64 c0_den] 0)]=>.tot [.one (.bool (s117 (⟨c0_slope,c0_start,c0_den⟩:straight) (⟨a0_Z,a0_Low,a0_High⟩:Gate)))]
  | _=>.no
theorem call117:Callable Try.prog 117:=⟨_,rfl,rfl,by kernel_rfl⟩
theorem ok117:Ok Try.prog 117 ctr117:=ok_tab okT117 call117 fun args K h=>by
  unfold ctr117 at h
  split at h
  · rename_i a0_Z a0_Low a0_High c0_slope c0_start c0_den
    have hk:=h
    exact ⟨(fun _ _=>[]),(fun _=>false),ann117,q117 (⟨c0_slope,c0_start,c0_den⟩:straight) (⟨a0_Z,a0_Low,a0_High⟩:Gate) K hk⟩
  · exact h.elim
abbrev T123:Tabs:=Tabs.nil
theorem okT123:TabsOk Try.prog T123:=TabsOk.nil
abbrev G123:Ctrs:=csm T123 (fun _ _=>[]) (fun _=>false)
def ann123:Ann:=⟨18,[(0,⟨[1,2],[2],[],[],[],[],[]⟩),(1,⟨[3],[],[],[],[],[],[]⟩)],
  [],
  [],
  [],[]⟩
theorem f123_top (c0 : straight) (g : Gate) (K : List PA → Prop) :
  vcFun Try.prog G123 ann123 123 [.agg [.int .i64 g.Z,.int .i64 g.Low,.int .i64 g.High],.one (.fp (enc_118 c0) 0)] K =
  (K [.one (.bool ((w64 (c0.start+(w64 (c0.slope * g.Z)))) == (w64 (g.Low * c0.den))))]):=by kernel_rfl
abbrev e123 (r:Bool):List PA:=[.one (.bool r)]
def s123 (c0:straight) (g:Gate):Bool :=
  ((w64 (c0.start+(w64 (c0.slope * g.Z)))) == (w64 (g.Low * c0.den)))
theorem q123 (c0:straight) (g:Gate) (K:List PA→Prop) (hk:K (e123 (s123 c0 g))):vcFun Try.prog G123 ann123 123 [.agg [.int .i64 g.Z,.int .i64 g.Low,.int .i64 g.High],.one (.fp (enc_118 c0) 0)] K:=by
  refine ofEq (f123_top c0 g K) ?_
  unfold s123 at hk
  exact hk
def ctr123 : List PA → COut
  | [.agg [.int .i64 a0_Z,.int .i64 a0_Low,.int .i64 a0_High],.one (.fp [.int .i64 c0_slope,.int .i64 c0_start,.int .i64 c0_den] 0)]=>.tot [.one (.bool (s123 (⟨c0_slope,c0_start,c0_den⟩:straight) (⟨a0_Z,a0_Low,a0_High⟩:Gate)))]
  | _=>.no
theorem call123:Callable Try.prog 123:=⟨_,rfl,rfl,by kernel_rfl⟩
theorem ok123:Ok Try.prog 123 ctr123:=ok_tab okT123 call123 fun args K h=>by
  unfold ctr123 at h
  split at h
  · rename_i a0_Z a0_Low a0_High c0_slope c0_start c0_den
    have hk:=h
    exact ⟨(fun _ _=>[]),(fun _=>false),ann123,q123 (⟨c0_slope,c0_start,c0_den⟩:straight) (⟨a0_Z,a0_Low,a0_High⟩:Gate) K hk⟩
  · exact h.elim
abbrev T119:Tabs:=(((Tabs.nil.addF 100 ctr100).addF 117 ctr117).addF 123 ctr123)
theorem okT119:TabsOk Try.prog T119:=(((TabsOk.nil.addF ok100).addF ok117).addF ok123)
abbrev G119:Ctrs:=csm T119 (fun _ _=>[]) (fun _=>false)
def ann119:Ann:=⟨19,[(0,⟨[0,1],[],[],[],[],[],[]⟩),(1,⟨[0,1,7,8],[],[],[],[],[],[]⟩),(2,⟨[0,1,7,8,9],[],[],[],[],[],[]⟩),(3,⟨[0,1,5,7,8],[],[],[],[],[],[]⟩),(4,⟨[0,1,5,7,8,16],[],[],[],[],[],[]⟩),(5,⟨[4],[],[],[],[],[],[]⟩),(6,⟨[0,1,7,8],[],[],[],[],[],[]⟩),(7,⟨[4],[],[],[],[],[],[]⟩)],
  [(2,⟨[0,1,7,8],[],[],[],[],[],[]⟩)],
  [(5,⟨[0,1,5,7,8,16],[],[],[],[],[],[]⟩)],
  [],[]⟩
def f119_g0 (c0:list) (sv0_n:Nat) (sv0_g:Nat→List PV) (t7v0:Int) (t8v0:Int):St:=⟨[(0,.one (.c (.p (.sl sv0_n 3 sv0_g)))),(1,.one (.c (.p (.fn 100 [] [.fp (enc_101 c0) 0])))),(7,.one (.c (.p (.int .i64 t7v0)))),(8,.one (.c (.p (.int .i64 t8v0))))],[],[]⟩
def f119_at0 (K:List PA→Prop) (c0:list) (sv0_n:Nat) (sv0_g:Nat→List PV) (t7v0:Int) (t8v0:Int):Prop:=vc Try.prog G119 ann119 (cdF Try.f119 [1,0,1,0]) (blockK 0 (sqK Try.prog G119 ann119 (cdF Try.f119 [1,1]) (bodyK Try.prog Try.f119 K))) (f119_g0 c0 sv0_n sv0_g t7v0 t8v0)
def f119_g1 (c0:list) (sv1_n:Nat) (sv1_g:Nat→List PV) (iv1:Int) (t7v1:Int) (t8v1:Int) (t16v1:Bool):St:=⟨[(0,.one (.c (.p (.sl sv1_n 3 sv1_g)))),(1,.one (.c (.p (.fn 100 [] [.fp (enc_101 c0) 0])))),(5,.one (.c (.p (.int .i64 iv1)))),(7,.one (.c (.p (.int .i64 t7v1)))),(8,.one (.c (.p (.int .i64 t8v1)))),(16,.one (.c (.p (.bool t16v1))))],[],[]⟩
def f119_at1 (K:List PA→Prop) (X0:St→Prop) (c0:list) (sv1_n:Nat) (sv1_g:Nat→List PV) (iv1:Int) (t7v1:Int) (t8v1:Int) (t16v1:Bool):Prop:=vc Try.prog G119 ann119 (cdF Try.f119 [1,0,1,0,0,1,1,0,0,1,1]) (blockK 1 (sqK Try.prog G119 ann119 (cdF Try.f119 [1,0,1,0,0,1,1,1]) (loopK Try.prog ann119 2 X0 (blockK 0 (sqK Try.prog G119 ann119 (cdF Try.f119 [1,1]) (bodyK Try.prog Try.f119 K)))))) (f119_g1 c0 sv1_n sv1_g iv1 t7v1 t8v1 t16v1)
theorem f119_top (c0 : list) (s : (Sl Gate)) (K : List PA → Prop) :
  vcFun Try.prog G119 ann119 119 [.one (.sl s.len 3 (fun i=>enc_55 (s.get i))),.one (.fn 100 [] [.fp (enc_101 c0) 0])] K =
  (f119_at0 K c0 s.len (fun i=>enc_55 (s.get i)) (s.len:Int) (0:Int)):=by kernel_rfl
def f119_step0 (K:List PA→Prop) (X0:St→Prop) (c0:list) (sv0:(Sl Gate)) (t7v0:Int) (t8v0:Int):Prop :=
  (condP (decide (t8v0 < t7v0))
   (((0≤t8v0∧t8v0 < (sv0.len:Int))) ∧
   ((IsE enc_55 3 3 (fun i=>enc_55 (c0.Gates.get i))∧(p100 c0 (sv0.get t8v0.toNat)=true)) ∧
   (f119_at1 K X0 c0 sv0.len (fun i=>enc_55 (sv0.get i)) t8v0 t7v0 t8v0 (s100 c0 (sv0.get t8v0.toNat)))))
   (K [.one (.int .i64 (-1:Int))]))
theorem f119_stepeq0 (K : List PA → Prop) (X0 : St → Prop) (c0 : list) (sv0 : (Sl Gate)) (t7v0 : Int) (t8v0 : Int) :
  vc Try.prog G119 ann119 (cd (cdF Try.f119 [1,0,1,0]) [0]) (loopK Try.prog ann119 2 X0 (blockK 0 (sqK Try.prog G119 ann119 (cdF Try.f119 [1,1]) (bodyK Try.prog Try.f119 K)))) (f119_g0 c0 sv0.len (fun i=>enc_55 (sv0.get i)) t7v0 t8v0) =
  f119_step0 K X0 c0 sv0 t7v0 t8v0:=by kernel_rfl
theorem f119_loop0 (K : List PA → Prop) (c0 : list) (sv0_n : Nat) (sv0_g : Nat → List PV) (t7v0 : Int) (t8v0 : Int)
  (h:∀ X0:St→Prop,(∀ (sv0:(Sl Gate)) (t7v0:Int) (t8v0:Int),f119_step0 K X0 c0 sv0 t7v0 t8v0→X0 (f119_g0 c0 sv0.len (fun i=>enc_55 (sv0.get i)) t7v0 t8v0))→X0 (f119_g0 c0 sv0_n sv0_g t7v0 t8v0)) :
  f119_at0 K c0 sv0_n sv0_g t7v0 t8v0:=by
  have e:f119_at0 K c0 sv0_n sv0_g t7v0 t8v0=(∀ X:St→Prop,(∀ s,vc Try.prog G119 ann119 (cd (cdF Try.f119 [1,0,1,0]) [0]) (loopK Try.prog ann119 2 X (blockK 0 (sqK Try.prog G119 ann119 (cdF Try.f119 [1,1]) (bodyK Try.prog Try.f119 K)))) s→X s)→X (f119_g0 c0 sv0_n sv0_g t7v0 t8v0)):=by kernel_rfl
  refine ofEq e ?_
  intro X hX
  refine h X ?_
  intro sv0 t7v0 t8v0 hs
  refine hX _ ?_
  have e2:=f119_stepeq0 K X c0 sv0 t7v0 t8v0
  rw [e2]
  exact hs
theorem f119_eq1 (K : List PA → Prop) (X0 : St → Prop) (c0 : list) (sv1 : (Sl Gate)) (iv1 : Int) (t7v1 : Int) (t8v1 : Int) (t16v1 : Bool) :
  f119_at1 K X0 c0 sv1.len (fun i=>enc_55 (sv1.get i)) iv1 t7v1 t8v1 t16v1 =
  (condP t16v1
   (K [.one (.int .i64 iv1)])
   (X0 (f119_g0 c0 sv1.len (fun i=>enc_55 (sv1.get i)) t7v1 (w64 (t8v1+(1:Int)))))):=by kernel_rfl
abbrev e119 (r:Int):List PA:=[.one (.int .i64 r)]
attribute [irreducible] f119_at0 f119_at1
def s119_at1 (S0:(Sl Gate)→Int→Int→Int) (c0:list) (sv1:(Sl Gate)) (iv1:Int) (t7v1:Int) (t8v1:Int) (t16v1:Bool):Int :=
  (cond t16v1
   iv1
   (S0 sv1 t7v1 (w64 (t8v1+(1:Int)))))
def p119_at1 (P0:(Sl Gate)→Int→Int→Bool) (c0:list) (sv1:(Sl Gate)) (iv1:Int) (t7v1:Int) (t8v1:Int) (t16v1:Bool):Bool :=
  (cond t16v1
   true
   (P0 sv1 t7v1 (w64 (t8v1+(1:Int)))))
theorem q119_at1 (K : List PA → Prop) (c0 : list)
  (X0:St→Prop) (P0:(Sl Gate)→Int→Int→Bool) (S0:(Sl Gate)→Int→Int→Int)
  (hX0:∀ (sv0:(Sl Gate)) (t7v0:Int) (t8v0:Int) (sv0_g:Nat→List PV) (sv0_h:sv0_g=fun i=>enc_55 (sv0.get i)),P0 sv0 t7v0 t8v0=true→K (e119 (S0 sv0 t7v0 t8v0))→X0 (f119_g0 c0 sv0.len sv0_g t7v0 t8v0)) (sv1:(Sl Gate)) (iv1:Int) (t7v1:Int) (t8v1:Int) (t16v1:Bool) (sv1_g:Nat→List PV) (sv1_h:sv1_g=fun i=>enc_55 (sv1.get i)) (hs:p119_at1 P0 c0 sv1 iv1 t7v1 t8v1 t16v1=true) (hk:K (e119 (s119_at1 S0 c0 sv1 iv1 t7v1 t8v1 t16v1))):f119_at1 K X0 c0 sv1.len sv1_g iv1 t7v1 t8v1 t16v1:=by
  subst sv1_h
  refine ofEq (f119_eq1 K X0 c0 sv1 iv1 t7v1 t8v1 t16v1) ?_
  unfold p119_at1 at hs
  unfold s119_at1 at hk
  exact (condB_go (K := fun r => K (e119 r))
   (fun hs hk=>hk)
   (fun hs hk=>(hX0 sv1 t7v1 (w64 (t8v1+(1:Int))) (fun i=>enc_55 (sv1.get i)) rfl hs hk)) hs hk)
def s119_st0 (c0:list) (S0:(Sl Gate)→Int→Int→Int) (sv0:(Sl Gate)) (t7v0:Int) (t8v0:Int):Int :=
  (cond (decide (t8v0 < t7v0))
   (s119_at1 S0 c0 sv0 t8v0 t7v0 t8v0 (s100 c0 (sv0.get t8v0.toNat)))
   (-1:Int))
def p119_st0 (c0:list) (P0:(Sl Gate)→Int→Int→Bool) (sv0:(Sl Gate)) (t7v0:Int) (t8v0:Int):Bool :=
  (cond (decide (t8v0 < t7v0))
   (decide ((0≤t8v0∧t8v0 < (sv0.len:Int))) &&
   (decide ((p100 c0 (sv0.get t8v0.toNat)=true)) &&
   (p119_at1 P0 c0 sv0 t8v0 t7v0 t8v0 (s100 c0 (sv0.get t8v0.toNat)))))
   true)
def s119_lp0 (c0 : list) : Nat → (Sl Gate) → Int → Int → Int
  | 0=>fun _ _ _=>default
  | k+1=>s119_st0 c0 (s119_lp0 c0 k)
def p119_lp0 (c0 : list) : Nat → (Sl Gate) → Int → Int → Bool
  | 0=>fun _ _ _=>false
  | k+1=>p119_st0 c0 (p119_lp0 c0 k)
def s119_at0 (c0:list) (sv0:(Sl Gate)) (t7v0:Int) (t8v0:Int):Int:=s119_lp0 c0 Fuel sv0 t7v0 t8v0
def p119_at0 (c0:list) (sv0:(Sl Gate)) (t7v0:Int) (t8v0:Int):Bool:=p119_lp0 c0 Fuel sv0 t7v0 t8v0
theorem q119_at0 (K:List PA→Prop) (c0:list) (sv0:(Sl Gate)) (t7v0:Int) (t8v0:Int) (sv0_g:Nat→List PV) (sv0_h:sv0_g=fun i=>enc_55 (sv0.get i)) (hs:p119_at0 c0 sv0 t7v0 t8v0=true) (hk:K (e119 (s119_at0 c0 sv0 t7v0 t8v0))):f119_at0 K c0 sv0.len sv0_g t7v0 t8v0:=by
  refine f119_loop0 K c0 sv0.len sv0_g t7v0 t8v0 ?_
  intro X0 hstep
  have key:∀ (k:Nat) (sv0:(Sl Gate)) (t7v0:Int) (t8v0:Int) (sv0_g:Nat→List PV) (sv0_h:sv0_g=fun i=>enc_55 (sv0.get i)),p119_lp0 c0 k sv0 t7v0 t8v0=true→K (e119 (s119_lp0 c0 k sv0 t7v0 t8v0))→X0 (f119_g0 c0 sv0.len sv0_g t7v0 t8v0):=by
    intro k
    induction k with
    | zero=>intro sv0 t7v0 t8v0 sv0_g sv0_h hs;exact absurd hs Bool.false_ne_true
    | succ k ih =>
      intro sv0 t7v0 t8v0 sv0_g sv0_h hs hk
      subst sv0_h
      refine hstep sv0 t7v0 t8v0 ?_
      have hs:p119_st0 c0 (p119_lp0 c0 k) sv0 t7v0 t8v0=true:=hs
      have hk:K (e119 (s119_st0 c0 (s119_lp0 c0 k) sv0 t7v0 t8v0)):=hk
      unfold p119_st0 at hs
      unfold s119_st0 at hk
      generalize s119_lp0 c0 k=S0 at hk ih
      generalize p119_lp0 c0 k=P0 at hs ih
      have hX0:=ih
      exact (condB_go (K := fun r => K (e119 r))
       (fun hs hk=>(andK hs fun hc hs=>⟨hc,(andK hs fun hc hs=>⟨⟨isE,hc⟩,(q119_at1 K c0 X0 P0 S0 hX0 sv0 t8v0 t7v0 t8v0 (s100 c0 (sv0.get t8v0.toNat)) (fun i=>enc_55 (sv0.get i)) rfl hs hk)⟩)⟩))
       (fun hs hk=>hk) hs hk)
  exact key _ sv0 t7v0 t8v0 sv0_g sv0_h hs hk
def s119 (c0:list) (s:(Sl Gate)):Int :=
  (s119_at0 c0 s (s.len:Int) (0:Int))
def p119 (c0:list) (s:(Sl Gate)):Bool :=
  (p119_at0 c0 s (s.len:Int) (0:Int))
theorem q119 (c0:list) (s:(Sl Gate)) (K:List PA→Prop) (hs:p119 c0 s=true) (hk:K (e119 (s119 c0 s))):vcFun Try.prog G119 ann119 119 [.one (.sl s.len 3 (fun i=>enc_55 (s.get i))),.one (.fn 100 [] [.fp (enc_101 c0) 0])] K:=by
  refine ofEq (f119_top c0 s K) ?_
  unfold p119 at hs
  unfold s119 at hk
  exact (q119_at0 K c0 s (s.len:Int) (0:Int) (fun i=>enc_55 (s.get i)) rfl hs hk)
abbrev G119a:Ctrs:=csm T119 (fun _ _=>[]) (fun _=>false)
def ann119a:Ann:=⟨19,[(0,⟨[0,1],[],[],[],[],[],[]⟩),(1,⟨[0,1,7,8],[],[],[],[],[],[]⟩),(2,⟨[0,1,7,8,9],[],[],[],[],[],[]⟩),(3,⟨[0,1,5,7,8],[],[],[],[],[],[]⟩),(4,⟨[0,1,5,7,8,16],[],[],[],[],[],[]⟩),(5,⟨[4],[],[],[],[],[],[]⟩),(6,⟨[0,1,7,8],[],[],[],[],[],[]⟩),(7,⟨[4],[],[],[],[],[],[]⟩)],
  [(2,⟨[0,1,7,8],[],[],[],[],[],[]⟩)],
  [(5,⟨[0,1,5,7,8,16],[],[],[],[],[],[]⟩)],
  [],[]⟩
def f119a_g0 (c0:straight) (sv0_n:Nat) (sv0_g:Nat→List PV) (t7v0:Int) (t8v0:Int):St:=⟨[(0,.one (.c (.p (.sl sv0_n 3 sv0_g)))),(1,.one (.c (.p (.fn 117 [] [.fp (enc_118 c0) 0])))),(7,.one (.c (.p (.int .i64 t7v0)))),(8,.one (.c (.p (.int .i64 t8v0))))],[],[]⟩
def f119a_at0 (K:List PA→Prop) (c0:straight) (sv0_n:Nat) (sv0_g:Nat→List PV) (t7v0:Int) (t8v0:Int):Prop:=vc Try.prog G119a ann119a (cdF Try.f119 [1,0,1,0]) (blockK 0 (sqK Try.prog G119a ann119a (cdF Try.f119 [1,1]) (bodyK Try.prog Try.f119 K))) (f119a_g0 c0 sv0_n sv0_g t7v0 t8v0)
def f119a_g1 (c0:straight) (sv1_n:Nat) (sv1_g:Nat→List PV) (iv1:Int) (t7v1:Int) (t8v1:Int) (t16v1:Bool):St:=⟨[(0,.one (.c (.p (.sl sv1_n 3 sv1_g)))),(1,.one (.c (.p (.fn 117 [] [.fp (enc_118 c0) 0])))),(5,.one (.c (.p (.int .i64 iv1)))),(7,.one (.c (.p (.int .i64 t7v1)))),(8,.one (.c (.p (.int .i64 t8v1)))),(16,.one (.c (.p (.bool t16v1))))],[],[]⟩
def f119a_at1 (K:List PA→Prop) (X0:St→Prop) (c0:straight) (sv1_n:Nat) (sv1_g:Nat→List PV) (iv1:Int) (t7v1:Int) (t8v1:Int) (t16v1:Bool):Prop:=vc Try.prog G119a ann119a (cdF Try.f119 [1,0,1,0,0,1,1,0,0,1,1]) (blockK 1 (sqK Try.prog G119a ann119a (cdF Try.f119 [1,0,1,0,0,1,1,1]) (loopK Try.prog ann119a 2 X0 (blockK 0 (sqK Try.prog G119a ann119a (cdF Try.f119 [1,1]) (bodyK Try.prog Try.f119 K)))))) (f119a_g1 c0 sv1_n sv1_g iv1 t7v1 t8v1 t16v1)
theorem f119a_top (c0 : straight) (s : (Sl Gate)) (K : List PA → Prop) :
  vcFun Try.prog G119a ann119a 119 [.one (.sl s.len 3 (fun i=>enc_55 (s.get i))),.one (.fn 117 [] [.fp (enc_118 c0) 0])] K =
  (f119a_at0 K c0 s.len (fun i=>enc_55 (s.get i)) (s.len:Int) (0:Int)):=by kernel_rfl
def f119a_step0 (K:List PA→Prop) (X0:St→Prop) (c0:straight) (sv0:(Sl Gate)) (t7v0:Int) (t8v0:Int):Prop :=
  (condP (decide (t8v0 < t7v0))
   (((0≤t8v0∧t8v0 < (sv0.len:Int))) ∧
   (f119a_at1 K X0 c0 sv0.len (fun i=>enc_55 (sv0.get i)) t8v0 t7v0 t8v0 (s117 c0 (sv0.get t8v0.toNat))))
   (K [.one (.int .i64 (-1:Int))]))
theorem f119a_stepeq0 (K : List PA → Prop) (X0 : St → Prop) (c0 : straight) (sv0 : (Sl Gate)) (t7v0 : Int) (t8v0 : Int) :
  vc Try.prog G119a ann119a (cd (cdF Try.f119 [1,0,1,0]) [0]) (loopK Try.prog ann119a 2 X0 (blockK 0 (sqK Try.prog G119a ann119a (cdF Try.f119 [1,1]) (bodyK Try.prog Try.f119 K)))) (f119a_g0 c0 sv0.len (fun i=>enc_55 (sv0.get i)) t7v0 t8v0) =
  f119a_step0 K X0 c0 sv0 t7v0 t8v0:=by kernel_rfl
theorem f119a_loop0 (K : List PA → Prop) (c0 : straight) (sv0_n : Nat) (sv0_g : Nat → List PV) (t7v0 : Int) (t8v0 : Int)
  (h:∀ X0:St→Prop,(∀ (sv0:(Sl Gate)) (t7v0:Int) (t8v0:Int),f119a_step0 K X0 c0 sv0 t7v0 t8v0→X0 (f119a_g0 c0 sv0.len (fun i=>enc_55 (sv0.get i)) t7v0 t8v0))→X0 (f119a_g0 c0 sv0_n sv0_g t7v0 t8v0)) :
  f119a_at0 K c0 sv0_n sv0_g t7v0 t8v0:=by
  have e:f119a_at0 K c0 sv0_n sv0_g t7v0 t8v0=(∀ X:St→Prop,(∀ s,vc Try.prog G119a ann119a (cd (cdF Try.f119 [1,0,1,0]) [0]) (loopK Try.prog ann119a 2 X (blockK 0 (sqK Try.prog G119a ann119a (cdF Try.f119 [1,1]) (bodyK Try.prog Try.f119 K)))) s→X s)→X (f119a_g0 c0 sv0_n sv0_g t7v0 t8v0)):=by kernel_rfl
  refine ofEq e ?_
  intro X hX
  refine h X ?_
  intro sv0 t7v0 t8v0 hs
  refine hX _ ?_
  have e2:=f119a_stepeq0 K X c0 sv0 t7v0 t8v0
  rw [e2]
  exact hs
theorem f119a_eq1 (K : List PA → Prop) (X0 : St → Prop) (c0 : straight) (sv1 : (Sl Gate)) (iv1 : Int) (t7v1 : Int) (t8v1 : Int) (t16v1 : Bool) :
  f119a_at1 K X0 c0 sv1.len (fun i=>enc_55 (sv1.get i)) iv1 t7v1 t8v1 t16v1 =
  (condP t16v1
   (K [.one (.int .i64 iv1)])
   (X0 (f119a_g0 c0 sv1.len (fun i=>enc_55 (sv1.get i)) t7v1 (w64 (t8v1+(1:Int)))))):=by kernel_rfl
abbrev e119a (r:Int):List PA:=[.one (.int .i64 r)]
attribute [irreducible] f119a_at0 f119a_at1
def s119a_at1 (S0:(Sl Gate)→Int→Int→Int) (c0:straight) (sv1:(Sl Gate)) (iv1:Int) (t7v1:Int) (t8v1:Int) (t16v1:Bool):Int :=
  (cond t16v1
   iv1
   (S0 sv1 t7v1 (w64 (t8v1+(1:Int)))))
def p119a_at1 (P0:(Sl Gate)→Int→Int→Bool) (c0:straight) (sv1:(Sl Gate)) (iv1:Int) (t7v1:Int) (t8v1:Int) (t16v1:Bool):Bool :=
  (cond t16v1
   true
   (P0 sv1 t7v1 (w64 (t8v1+(1:Int)))))
theorem q119a_at1 (K : List PA → Prop) (c0 : straight)
  (X0:St→Prop) (P0:(Sl Gate)→Int→Int→Bool) (S0:(Sl Gate)→Int→Int→Int)
  (hX0:∀ (sv0:(Sl Gate)) (t7v0:Int) (t8v0:Int) (sv0_g:Nat→List PV) (sv0_h:sv0_g=fun i=>enc_55 (sv0.get i)),P0 sv0 t7v0 t8v0=true→K (e119a (S0 sv0 t7v0 t8v0))→X0 (f119a_g0 c0 sv0.len sv0_g t7v0 t8v0)) (sv1:(Sl Gate)) (iv1:Int) (t7v1:Int) (t8v1:Int) (t16v1:Bool) (sv1_g:Nat→List PV) (sv1_h:sv1_g=fun i=>enc_55 (sv1.get i)) (hs:p119a_at1 P0 c0 sv1 iv1 t7v1 t8v1 t16v1=true) (hk:K (e119a (s119a_at1 S0 c0 sv1 iv1 t7v1 t8v1 t16v1))):f119a_at1 K X0 c0 sv1.len sv1_g iv1 t7v1 t8v1 t16v1:=by
  subst sv1_h
  refine ofEq (f119a_eq1 K X0 c0 sv1 iv1 t7v1 t8v1 t16v1) ?_
  unfold p119a_at1 at hs
  unfold s119a_at1 at hk
  exact (condB_go (K := fun r => K (e119a r))
   (fun hs hk=>hk)
   (fun hs hk=>(hX0 sv1 t7v1 (w64 (t8v1+(1:Int))) (fun i=>enc_55 (sv1.get i)) rfl hs hk)) hs hk)
def s119a_st0 (c0:straight) (S0:(Sl Gate)→Int→Int→Int) (sv0:(Sl Gate)) (t7v0:Int) (t8v0:Int):Int :=
  (cond (decide (t8v0 < t7v0))
   (s119a_at1 S0 c0 sv0 t8v0 t7v0 t8v0 (s117 c0 (sv0.get t8v0.toNat)))
   (-1:Int))
def p119a_st0 (c0:straight) (P0:(Sl Gate)→Int→Int→Bool) (sv0:(Sl Gate)) (t7v0:Int) (t8v0:Int):Bool :=
  (cond (decide (t8v0 < t7v0))
   (decide ((0≤t8v0∧t8v0 < (sv0.len:Int))) &&
   (p119a_at1 P0 c0 sv0 t8v0 t7v0 t8v0 (s117 c0 (sv0.get t8v0.toNat))))
   true)
def s119a_lp0 (c0 : straight) : Nat → (Sl Gate) → Int → Int → Int
  | 0=>fun _ _ _=>default
  | k+1=>s119a_st0 c0 (s119a_lp0 c0 k)
def p119a_lp0 (c0 : straight) : Nat → (Sl Gate) → Int → Int → Bool
  | 0=>fun _ _ _=>false
  | k+1=>p119a_st0 c0 (p119a_lp0 c0 k)
def s119a_at0 (c0:straight) (sv0:(Sl Gate)) (t7v0:Int) (t8v0:Int):Int:=s119a_lp0 c0 Fuel sv0 t7v0 t8v0
def p119a_at0 (c0:straight) (sv0:(Sl Gate)) (t7v0:Int) (t8v0:Int):Bool:=p119a_lp0 c0 Fuel sv0 t7v0 t8v0
theorem q119a_at0 (K:List PA→Prop) (c0:straight) (sv0:(Sl Gate)) (t7v0:Int) (t8v0:Int) (sv0_g:Nat→List PV) (sv0_h:sv0_g=fun i=>enc_55 (sv0.get i)) (hs:p119a_at0 c0 sv0 t7v0 t8v0=true) (hk:K (e119a (s119a_at0 c0 sv0 t7v0 t8v0))):f119a_at0 K c0 sv0.len sv0_g t7v0 t8v0:=by
  refine f119a_loop0 K c0 sv0.len sv0_g t7v0 t8v0 ?_
  intro X0 hstep
  have key:∀ (k:Nat) (sv0:(Sl Gate)) (t7v0:Int) (t8v0:Int) (sv0_g:Nat→List PV) (sv0_h:sv0_g=fun i=>enc_55 (sv0.get i)),p119a_lp0 c0 k sv0 t7v0 t8v0=true→K (e119a (s119a_lp0 c0 k sv0 t7v0 t8v0))→X0 (f119a_g0 c0 sv0.len sv0_g t7v0 t8v0):=by
    intro k
    induction k with
    | zero=>intro sv0 t7v0 t8v0 sv0_g sv0_h hs;exact absurd hs Bool.false_ne_true
    | succ k ih =>
      intro sv0 t7v0 t8v0 sv0_g sv0_h hs hk
      subst sv0_h
      refine hstep sv0 t7v0 t8v0 ?_
      have hs:p119a_st0 c0 (p119a_lp0 c0 k) sv0 t7v0 t8v0=true:=hs
      have hk:K (e119a (s119a_st0 c0 (s119a_lp0 c0 k) sv0 t7v0 t8v0)):=hk
      unfold p119a_st0 at hs
      unfold s119a_st0 at hk
      generalize s119a_lp0 c0 k=S0 at hk ih
      generalize p119a_lp0 c0 k=P0 at hs ih
      have hX0:=ih
      exact (condB_go (K := fun r => K (e119a r))
       (fun hs hk=>(andK hs fun hc hs=>⟨hc,(q119a_at1 K c0 X0 P0 S0 hX0 sv0 t8v0 t7v0 t8v0 (s117 c0 (sv0.get t8v0.toNat)) (fun i=>enc_55 (sv0.get i)) rfl hs hk)⟩))
       (fun hs hk=>hk) hs hk)
  exact key _ sv0 t7v0 t8v0 sv0_g sv0_h hs hk
def s119a (c0:straight) (s:(Sl Gate)):Int :=
  (s119a_at0 c0 s (s.len:Int) (0:Int))
def p119a (c0:straight) (s:(Sl Gate)):Bool :=
  (p119a_at0 c0 s (s.len:Int) (0:Int))
theorem q119a (c0:straight) (s:(Sl Gate)) (K:List PA→Prop) (hs:p119a c0 s=true) (hk:K (e119a (s119a c0 s))):vcFun Try.prog G119a ann119a 119 [.one (.sl s.len 3 (fun i=>enc_55 (s.get i))),.one (.fn 117 [] [.fp (enc_118 c0) 0])] K:=by
  refine ofEq (f119a_top c0 s K) ?_
  unfold p119a at hs
  unfold s119a at hk
  exact (q119a_at0 K c0 s (s.len:Int) (0:Int) (fun i=>enc_55 (s.get i)) rfl hs hk)
abbrev G119b:Ctrs:=csm T119 (fun _ _=>[]) (fun _=>false)
def ann119b:Ann:=⟨19,[(0,⟨[0,1],[],[],[],[],[],[]⟩),(1,⟨[0,1,7,8],[],[],[],[],[],[]⟩),(2,⟨[0,1,7,8,9],[],[],[],[],[],[]⟩),(3,⟨[0,1,5,7,8],[],[],[],[],[],[]⟩),(4,⟨[0,1,5,7,8,16],[],[],[],[],[],[]⟩),(5,⟨[4],[],[],[],[],[],[]⟩),(6,⟨[0,1,7,8],[],[],[],[],[],[]⟩),(7,⟨[4],[],[],[],[],[],[]⟩)],
  [(2,⟨[0,1,7,8],[],[],[],[],[],[]⟩)],
  [(5,⟨[0,1,5,7,8,16],[],[],[],[],[],[]⟩)],
  [],[]⟩
def f119b_g0 (c0:straight) (sv0_n:Nat) (sv0_g:Nat→List PV) (t7v0:Int) (t8v0:Int):St:=⟨[(0,.one (.c (.p (.sl sv0_n 3 sv0_g)))),(1,.one (.c (.p (.fn 123 [] [.fp (enc_118 c0) 0])))),(7,.one (.c (.p (.int .i64 t7v0)))),(8,.one (.c (.p (.int .i64 t8v0))))],[],[]⟩
def f119b_at0 (K:List PA→Prop) (c0:straight) (sv0_n:Nat) (sv0_g:Nat→List PV) (t7v0:Int) (t8v0:Int):Prop:=vc Try.prog G119b ann119b (cdF Try.f119 [1,0,1,0]) (blockK 0 (sqK Try.prog G119b ann119b (cdF Try.f119 [1,1]) (bodyK Try.prog Try.f119 K))) (f119b_g0 c0 sv0_n sv0_g t7v0 t8v0)
def f119b_g1 (c0:straight) (sv1_n:Nat) (sv1_g:Nat→List PV) (iv1:Int) (t7v1:Int) (t8v1:Int) (t16v1:Bool):St:=⟨[(0,.one (.c (.p (.sl sv1_n 3 sv1_g)))),(1,.one (.c (.p (.fn 123 [] [.fp (enc_118 c0) 0])))),(5,.one (.c (.p (.int .i64 iv1)))),(7,.one (.c (.p (.int .i64 t7v1)))),(8,.one (.c (.p (.int .i64 t8v1)))),(16,.one (.c (.p (.bool t16v1))))],[],[]⟩
def f119b_at1 (K:List PA→Prop) (X0:St→Prop) (c0:straight) (sv1_n:Nat) (sv1_g:Nat→List PV) (iv1:Int) (t7v1:Int) (t8v1:Int) (t16v1:Bool):Prop:=vc Try.prog G119b ann119b (cdF Try.f119 [1,0,1,0,0,1,1,0,0,1,1]) (blockK 1 (sqK Try.prog G119b ann119b (cdF Try.f119 [1,0,1,0,0,1,1,1]) (loopK Try.prog ann119b 2 X0 (blockK 0 (sqK Try.prog G119b ann119b (cdF Try.f119 [1,1]) (bodyK Try.prog Try.f119 K)))))) (f119b_g1 c0 sv1_n sv1_g iv1 t7v1 t8v1 t16v1)
theorem f119b_top (c0 : straight) (s : (Sl Gate)) (K : List PA → Prop) :
  vcFun Try.prog G119b ann119b 119 [.one (.sl s.len 3 (fun i=>enc_55 (s.get i))),.one (.fn 123 [] [.fp (enc_118 c0) 0])] K =
  (f119b_at0 K c0 s.len (fun i=>enc_55 (s.get i)) (s.len:Int) (0:Int)):=by kernel_rfl
def f119b_step0 (K:List PA→Prop) (X0:St→Prop) (c0:straight) (sv0:(Sl Gate)) (t7v0:Int) (t8v0:Int):Prop :=
  (condP (decide (t8v0 < t7v0))
   (((0≤t8v0∧t8v0 < (sv0.len:Int))) ∧
   (f119b_at1 K X0 c0 sv0.len (fun i=>enc_55 (sv0.get i)) t8v0 t7v0 t8v0 (s123 c0 (sv0.get t8v0.toNat))))
   (K [.one (.int .i64 (-1:Int))]))
theorem f119b_stepeq0 (K : List PA → Prop) (X0 : St → Prop) (c0 : straight) (sv0 : (Sl Gate)) (t7v0 : Int) (t8v0 : Int) :
  vc Try.prog G119b ann119b (cd (cdF Try.f119 [1,0,1,0]) [0]) (loopK Try.prog ann119b 2 X0 (blockK 0 (sqK Try.prog G119b ann119b (cdF Try.f119 [1,1]) (bodyK Try.prog Try.f119 K)))) (f119b_g0 c0 sv0.len (fun i=>enc_55 (sv0.get i)) t7v0 t8v0) =
  f119b_step0 K X0 c0 sv0 t7v0 t8v0:=by kernel_rfl
theorem f119b_loop0 (K : List PA → Prop) (c0 : straight) (sv0_n : Nat) (sv0_g : Nat → List PV) (t7v0 : Int) (t8v0 : Int)
  (h:∀ X0:St→Prop,(∀ (sv0:(Sl Gate)) (t7v0:Int) (t8v0:Int),f119b_step0 K X0 c0 sv0 t7v0 t8v0→X0 (f119b_g0 c0 sv0.len (fun i=>enc_55 (sv0.get i)) t7v0 t8v0))→X0 (f119b_g0 c0 sv0_n sv0_g t7v0 t8v0)) :
  f119b_at0 K c0 sv0_n sv0_g t7v0 t8v0:=by
  have e:f119b_at0 K c0 sv0_n sv0_g t7v0 t8v0=(∀ X:St→Prop,(∀ s,vc Try.prog G119b ann119b (cd (cdF Try.f119 [1,0,1,0]) [0]) (loopK Try.prog ann119b 2 X (blockK 0 (sqK Try.prog G119b ann119b (cdF Try.f119 [1,1]) (bodyK Try.prog Try.f119 K)))) s→X s)→X (f119b_g0 c0 sv0_n sv0_g t7v0 t8v0)):=by kernel_rfl
  refine ofEq e ?_
  intro X hX
  refine h X ?_
  intro sv0 t7v0 t8v0 hs
  refine hX _ ?_
  have e2:=f119b_stepeq0 K X c0 sv0 t7v0 t8v0
  rw [e2]
  exact hs
theorem f119b_eq1 (K : List PA → Prop) (X0 : St → Prop) (c0 : straight) (sv1 : (Sl Gate)) (iv1 : Int) (t7v1 : Int) (t8v1 : Int) (t16v1 : Bool) :
  f119b_at1 K X0 c0 sv1.len (fun i=>enc_55 (sv1.get i)) iv1 t7v1 t8v1 t16v1 =
  (condP t16v1
   (K [.one (.int .i64 iv1)])
   (X0 (f119b_g0 c0 sv1.len (fun i=>enc_55 (sv1.get i)) t7v1 (w64 (t8v1+(1:Int)))))):=by kernel_rfl
abbrev e119b (r:Int):List PA:=[.one (.int .i64 r)]
attribute [irreducible] f119b_at0 f119b_at1
def s119b_at1 (S0:(Sl Gate)→Int→Int→Int) (c0:straight) (sv1:(Sl Gate)) (iv1:Int) (t7v1:Int) (t8v1:Int) (t16v1:Bool):Int :=
  (cond t16v1
   iv1
   (S0 sv1 t7v1 (w64 (t8v1+(1:Int)))))
def p119b_at1 (P0:(Sl Gate)→Int→Int→Bool) (c0:straight) (sv1:(Sl Gate)) (iv1:Int) (t7v1:Int) (t8v1:Int) (t16v1:Bool):Bool :=
  (cond t16v1
   true
   (P0 sv1 t7v1 (w64 (t8v1+(1:Int)))))
theorem q119b_at1 (K : List PA → Prop) (c0 : straight)
  (X0:St→Prop) (P0:(Sl Gate)→Int→Int→Bool) (S0:(Sl Gate)→Int→Int→Int)
  (hX0:∀ (sv0:(Sl Gate)) (t7v0:Int) (t8v0:Int) (sv0_g:Nat→List PV) (sv0_h:sv0_g=fun i=>enc_55 (sv0.get i)),P0 sv0 t7v0 t8v0=true→K (e119b (S0 sv0 t7v0 t8v0))→X0 (f119b_g0 c0 sv0.len sv0_g t7v0 t8v0)) (sv1:(Sl Gate)) (iv1:Int) (t7v1:Int) (t8v1:Int) (t16v1:Bool) (sv1_g:Nat→List PV) (sv1_h:sv1_g=fun i=>enc_55 (sv1.get i)) (hs:p119b_at1 P0 c0 sv1 iv1 t7v1 t8v1 t16v1=true) (hk:K (e119b (s119b_at1 S0 c0 sv1 iv1 t7v1 t8v1 t16v1))):f119b_at1 K X0 c0 sv1.len sv1_g iv1 t7v1 t8v1 t16v1:=by
  subst sv1_h
  refine ofEq (f119b_eq1 K X0 c0 sv1 iv1 t7v1 t8v1 t16v1) ?_
  unfold p119b_at1 at hs
  unfold s119b_at1 at hk
  exact (condB_go (K := fun r => K (e119b r))
   (fun hs hk=>hk)
   (fun hs hk=>(hX0 sv1 t7v1 (w64 (t8v1+(1:Int))) (fun i=>enc_55 (sv1.get i)) rfl hs hk)) hs hk)
def s119b_st0 (c0:straight) (S0:(Sl Gate)→Int→Int→Int) (sv0:(Sl Gate)) (t7v0:Int) (t8v0:Int):Int :=
  (cond (decide (t8v0 < t7v0))
   (s119b_at1 S0 c0 sv0 t8v0 t7v0 t8v0 (s123 c0 (sv0.get t8v0.toNat)))
   (-1:Int))
def p119b_st0 (c0:straight) (P0:(Sl Gate)→Int→Int→Bool) (sv0:(Sl Gate)) (t7v0:Int) (t8v0:Int):Bool :=
  (cond (decide (t8v0 < t7v0))
   (decide ((0≤t8v0∧t8v0 < (sv0.len:Int))) &&
   (p119b_at1 P0 c0 sv0 t8v0 t7v0 t8v0 (s123 c0 (sv0.get t8v0.toNat))))
   true)
def s119b_lp0 (c0 : straight) : Nat → (Sl Gate) → Int → Int → Int
  | 0=>fun _ _ _=>default
  | k+1=>s119b_st0 c0 (s119b_lp0 c0 k)
def p119b_lp0 (c0 : straight) : Nat → (Sl Gate) → Int → Int → Bool
  | 0=>fun _ _ _=>false
  | k+1=>p119b_st0 c0 (p119b_lp0 c0 k)
def s119b_at0 (c0:straight) (sv0:(Sl Gate)) (t7v0:Int) (t8v0:Int):Int:=s119b_lp0 c0 Fuel sv0 t7v0 t8v0
def p119b_at0 (c0:straight) (sv0:(Sl Gate)) (t7v0:Int) (t8v0:Int):Bool:=p119b_lp0 c0 Fuel sv0 t7v0 t8v0
theorem q119b_at0 (K:List PA→Prop) (c0:straight) (sv0:(Sl Gate)) (t7v0:Int) (t8v0:Int) (sv0_g:Nat→List PV) (sv0_h:sv0_g=fun i=>enc_55 (sv0.get i)) (hs:p119b_at0 c0 sv0 t7v0 t8v0=true) (hk:K (e119b (s119b_at0 c0 sv0 t7v0 t8v0))):f119b_at0 K c0 sv0.len sv0_g t7v0 t8v0:=by
  refine f119b_loop0 K c0 sv0.len sv0_g t7v0 t8v0 ?_
  intro X0 hstep
  have key:∀ (k:Nat) (sv0:(Sl Gate)) (t7v0:Int) (t8v0:Int) (sv0_g:Nat→List PV) (sv0_h:sv0_g=fun i=>enc_55 (sv0.get i)),p119b_lp0 c0 k sv0 t7v0 t8v0=true→K (e119b (s119b_lp0 c0 k sv0 t7v0 t8v0))→X0 (f119b_g0 c0 sv0.len sv0_g t7v0 t8v0):=by
    intro k
    induction k with
    | zero=>intro sv0 t7v0 t8v0 sv0_g sv0_h hs;exact absurd hs Bool.false_ne_true
    | succ k ih =>
      intro sv0 t7v0 t8v0 sv0_g sv0_h hs hk
      subst sv0_h
      refine hstep sv0 t7v0 t8v0 ?_
      have hs:p119b_st0 c0 (p119b_lp0 c0 k) sv0 t7v0 t8v0=true:=hs
      have hk:K (e119b (s119b_st0 c0 (s119b_lp0 c0 k) sv0 t7v0 t8v0)):=hk
      unfold p119b_st0 at hs
      unfold s119b_st0 at hk
      generalize s119b_lp0 c0 k=S0 at hk ih
      generalize p119b_lp0 c0 k=P0 at hs ih
      have hX0:=ih
      exact (condB_go (K := fun r => K (e119b r))
       (fun hs hk=>(andK hs fun hc hs=>⟨hc,(q119b_at1 K c0 X0 P0 S0 hX0 sv0 t8v0 t7v0 t8v0 (s123 c0 (sv0.get t8v0.toNat)) (fun i=>enc_55 (sv0.get i)) rfl hs hk)⟩))
       (fun hs hk=>hk) hs hk)
  exact key _ sv0 t7v0 t8v0 sv0_g sv0_h hs hk
def s119b (c0:straight) (s:(Sl Gate)):Int :=
  (s119b_at0 c0 s (s.len:Int) (0:Int))
def p119b (c0:straight) (s:(Sl Gate)):Bool :=
  (p119b_at0 c0 s (s.len:Int) (0:Int))
theorem q119b (c0:straight) (s:(Sl Gate)) (K:List PA→Prop) (hs:p119b c0 s=true) (hk:K (e119b (s119b c0 s))):vcFun Try.prog G119b ann119b 119 [.one (.sl s.len 3 (fun i=>enc_55 (s.get i))),.one (.fn 123 [] [.fp (enc_118 c0) 0])] K:=by
  refine ofEq (f119b_top c0 s K) ?_
  unfold p119b at hs
  unfold s119b at hk
  exact (q119b_at0 K c0 s (s.len:Int) (0:Int) (fun i=>enc_55 (s.get i)) rfl hs hk)
def ctr119 : List PA → COut
  | [.one (.sl a0_n a0_s a0_g),.one (.fn 100 [] [.fp [.sl c0_Gates_n c0_Gates_s c0_Gates_g] 0])]=>.det (IsE enc_55 3 a0_s a0_g∧IsE enc_55 3 c0_Gates_s c0_Gates_g∧p119 (⟨(⟨c0_Gates_n,decF_55 c0_Gates_g⟩:(Sl Gate))⟩:list) (⟨a0_n,decF_55 a0_g⟩:(Sl Gate))=true) [.one (.int .i64 (s119 (⟨(⟨c0_Gates_n,decF_55 c0_Gates_g⟩:(Sl Gate))⟩:list) (⟨a0_n,decF_55 a0_g⟩:(Sl Gate))))]
  | [.one (.sl a0_n a0_s a0_g),.one (.fn 117 [] [.fp [.int .i64 c0_slope,.int .i64 c0_start,.int .i64 c0_den] 0])]=>.det (IsE enc_55 3 a0_s a0_g∧p119a (⟨c0_slope,c0_start,c0_den⟩:straight) (⟨a0_n,decF_55 a0_g⟩:(Sl Gate))=true) [.one (.int .i64 (s119a (⟨c0_slope,c0_start,c0_den⟩:straight) (⟨a0_n,decF_55 a0_g⟩:(Sl Gate))))]
  | [.one (.sl a0_n a0_s a0_g),.one (.fn 123 [] [.fp [.int .i64 c0_slope,.int .i64 c0_start,.int .i64 c0_den] 0])]=>.det (IsE enc_55 3 a0_s a0_g∧p119b (⟨c0_slope,c0_start,c0_den⟩:straight) (⟨a0_n,decF_55 a0_g⟩:(Sl Gate))=true) [.one (.int .i64 (s119b (⟨c0_slope,c0_start,c0_den⟩:straight) (⟨a0_n,decF_55 a0_g⟩:(Sl Gate))))]
  | _=>.no
theorem call119:Callable Try.prog 119:=⟨_,rfl,rfl,by kernel_rfl⟩
theorem ok119:Ok Try.prog 119 ctr119:=ok_tab okT119 call119 fun args K h=>by
  unfold ctr119 at h
  split at h
  · rename_i a0_n a0_s a0_g c0_Gates_n c0_Gates_s c0_Gates_g
    obtain ⟨⟨⟨rfl,a0_f,rfl⟩,⟨rfl,c0_Gates_f,rfl⟩,hs⟩,hk⟩:=h
    try rw [decF_enc_55 a0_f] at hs
    try rw [decF_enc_55 a0_f] at hk
    try rw [decF_enc_55 c0_Gates_f] at hs
    try rw [decF_enc_55 c0_Gates_f] at hk
    exact ⟨(fun _ _=>[]),(fun _=>false),ann119,q119 (⟨(⟨c0_Gates_n,c0_Gates_f⟩:(Sl Gate))⟩:list) (⟨a0_n,a0_f⟩:(Sl Gate)) K hs hk⟩
  · rename_i a0_n a0_s a0_g c0_slope c0_start c0_den
    obtain ⟨⟨⟨rfl,a0_f,rfl⟩,hs⟩,hk⟩:=h
    try rw [decF_enc_55 a0_f] at hs
    try rw [decF_enc_55 a0_f] at hk
    exact ⟨(fun _ _=>[]),(fun _=>false),ann119a,q119a (⟨c0_slope,c0_start,c0_den⟩:straight) (⟨a0_n,a0_f⟩:(Sl Gate)) K hs hk⟩
  · rename_i a0_n a0_s a0_g c0_slope c0_start c0_den
    obtain ⟨⟨⟨rfl,a0_f,rfl⟩,hs⟩,hk⟩:=h
    try rw [decF_enc_55 a0_f] at hs
    try rw [decF_enc_55 a0_f] at hk
    exact ⟨(fun _ _=>[]),(fun _=>false),ann119b,q119b (⟨c0_slope,c0_start,c0_den⟩:straight) (⟨a0_n,a0_f⟩:(Sl Gate)) K hs hk⟩
  · exact h.elim
abbrev T99:Tabs:=(Tabs.nil.addF 119 ctr119)
theorem okT99:TabsOk Try.prog T99:=(TabsOk.nil.addF ok119)
abbrev G99:Ctrs:=csm T99 (fun _ _=>[]) (fun _=>false)
def ann99:Ann:=⟨9,[(0,⟨[0,1],[],[],[],[],[],[]⟩),(1,⟨[4],[],[],[],[],[],[]⟩)],
  [],
  [],
  [],[]⟩
theorem f99_top (c0 : list) (s : (Sl Gate)) (K : List PA → Prop) :
  vcFun Try.prog G99 ann99 99 [.one (.sl s.len 3 (fun i=>enc_55 (s.get i))),.one (.fn 100 [] [.fp (enc_101 c0) 0])] K =
  ((IsE enc_55 3 3 (fun i=>enc_55 (s.get i))∧IsE enc_55 3 3 (fun i=>enc_55 (c0.Gates.get i))∧(p119 c0 s=true)) ∧
  (K [.one (.bool (decide ((s119 c0 s) ≥ (0:Int))))])):=by kernel_rfl
abbrev e99 (r:Bool):List PA:=[.one (.bool r)]
def s99 (c0:list) (s:(Sl Gate)):Bool :=
  (decide ((s119 c0 s) ≥ (0:Int)))
def p99 (c0:list) (s:(Sl Gate)):Bool :=
  (decide ((p119 c0 s=true)) &&
  true)
theorem q99 (c0:list) (s:(Sl Gate)) (K:List PA→Prop) (hs:p99 c0 s=true) (hk:K (e99 (s99 c0 s))):vcFun Try.prog G99 ann99 99 [.one (.sl s.len 3 (fun i=>enc_55 (s.get i))),.one (.fn 100 [] [.fp (enc_101 c0) 0])] K:=by
  refine ofEq (f99_top c0 s K) ?_
  unfold p99 at hs
  unfold s99 at hk
  exact (andK hs fun hc hs=>⟨⟨isE,isE,hc⟩,hk⟩)
abbrev G99a:Ctrs:=csm T99 (fun _ _=>[]) (fun _=>false)
def ann99a:Ann:=⟨9,[(0,⟨[0,1],[],[],[],[],[],[]⟩),(1,⟨[4],[],[],[],[],[],[]⟩)],
  [],
  [],
  [],[]⟩
theorem f99a_top (c0 : straight) (s : (Sl Gate)) (K : List PA → Prop) :
  vcFun Try.prog G99a ann99a 99 [.one (.sl s.len 3 (fun i=>enc_55 (s.get i))),.one (.fn 117 [] [.fp (enc_118 c0) 0])] K =
  ((IsE enc_55 3 3 (fun i=>enc_55 (s.get i))∧(p119a c0 s=true)) ∧
  (K [.one (.bool (decide ((s119a c0 s) ≥ (0:Int))))])):=by kernel_rfl
abbrev e99a (r:Bool):List PA:=[.one (.bool r)]
def s99a (c0:straight) (s:(Sl Gate)):Bool :=
  (decide ((s119a c0 s) ≥ (0:Int)))
def p99a (c0:straight) (s:(Sl Gate)):Bool :=
  (decide ((p119a c0 s=true)) &&
  true)
theorem q99a (c0:straight) (s:(Sl Gate)) (K:List PA→Prop) (hs:p99a c0 s=true) (hk:K (e99a (s99a c0 s))):vcFun Try.prog G99a ann99a 99 [.one (.sl s.len 3 (fun i=>enc_55 (s.get i))),.one (.fn 117 [] [.fp (enc_118 c0) 0])] K:=by
  refine ofEq (f99a_top c0 s K) ?_
  unfold p99a at hs
  unfold s99a at hk
  exact (andK hs fun hc hs=>⟨⟨isE,hc⟩,hk⟩)
abbrev G99b:Ctrs:=csm T99 (fun _ _=>[]) (fun _=>false)
def ann99b:Ann:=⟨9,[(0,⟨[0,1],[],[],[],[],[],[]⟩),(1,⟨[4],[],[],[],[],[],[]⟩)],
  [],
  [],
  [],[]⟩
theorem f99b_top (c0 : straight) (s : (Sl Gate)) (K : List PA → Prop) :
  vcFun Try.prog G99b ann99b 99 [.one (.sl s.len 3 (fun i=>enc_55 (s.get i))),.one (.fn 123 [] [.fp (enc_118 c0) 0])] K =
  ((IsE enc_55 3 3 (fun i=>enc_55 (s.get i))∧(p119b c0 s=true)) ∧
  (K [.one (.bool (decide ((s119b c0 s) ≥ (0:Int))))])):=by kernel_rfl
abbrev e99b (r:Bool):List PA:=[.one (.bool r)]
def s99b (c0:straight) (s:(Sl Gate)):Bool :=
  (decide ((s119b c0 s) ≥ (0:Int)))
def p99b (c0:straight) (s:(Sl Gate)):Bool :=
  (decide ((p119b c0 s=true)) &&
  true)
theorem q99b (c0:straight) (s:(Sl Gate)) (K:List PA→Prop) (hs:p99b c0 s=true) (hk:K (e99b (s99b c0 s))):vcFun Try.prog G99b ann99b 99 [.one (.sl s.len 3 (fun i=>enc_55 (s.get i))),.one (.fn 123 [] [.fp (enc_118 c0) 0])] K:=by
  refine ofEq (f99b_top c0 s K) ?_
  unfold p99b at hs
  unfold s99b at hk
  exact (andK hs fun hc hs=>⟨⟨isE,hc⟩,hk⟩)
def ctr99 : List PA → COut
  | [.one (.sl a0_n a0_s a0_g),.one (.fn 100 [] [.fp [.sl c0_Gates_n c0_Gates_s c0_Gates_g] 0])]=>.det (IsE enc_55 3 a0_s a0_g∧IsE enc_55 3 c0_Gates_s c0_Gates_g∧p99 (⟨(⟨c0_Gates_n,decF_55 c0_Gates_g⟩:(Sl Gate))⟩:list) (⟨a0_n,decF_55 a0_g⟩:(Sl Gate))=true) [.one (.bool (s99 (⟨(⟨c0_Gates_n,decF_55 c0_Gates_g⟩:(Sl Gate))⟩:list) (⟨a0_n,decF_55 a0_g⟩:(Sl Gate))))]
  | [.one (.sl a0_n a0_s a0_g),.one (.fn 117 [] [.fp [.int .i64 c0_slope,.int .i64 c0_start,.int .i64 c0_den] 0])]=>.det (IsE enc_55 3 a0_s a0_g∧p99a (⟨c0_slope,c0_start,c0_den⟩:straight) (⟨a0_n,decF_55 a0_g⟩:(Sl Gate))=true) [.one (.bool (s99a (⟨c0_slope,c0_start,c0_den⟩:straight) (⟨a0_n,decF_55 a0_g⟩:(Sl Gate))))]
  | [.one (.sl a0_n a0_s a0_g),.one (.fn 123 [] [.fp [.int .i64 c0_slope,.int .i64 c0_start,.int .i64 c0_den] 0])]=>.det (IsE enc_55 3 a0_s a0_g∧p99b (⟨c0_slope,c0_start,c0_den⟩:straight) (⟨a0_n,decF_55 a0_g⟩:(Sl Gate))=true) [.one (.bool (s99b (⟨c0_slope,c0_start,c0_den⟩:straight) (⟨a0_n,decF_55 a0_g⟩:(Sl Gate))))]
  | _=>.no
theorem call99:Callable Try.prog 99:=⟨_,rfl,rfl,by kernel_rfl⟩
theorem ok99:Ok Try.prog 99 ctr99:=ok_tab okT99 call99 fun args K h=>by
  unfold ctr99 at h
  split at h
  · rename_i a0_n a0_s a0_g c0_Gates_n c0_Gates_s c0_Gates_g
    obtain ⟨⟨⟨rfl,a0_f,rfl⟩,⟨rfl,c0_Gates_f,rfl⟩,hs⟩,hk⟩:=h
    try rw [decF_enc_55 a0_f] at hs
    try rw [decF_enc_55 a0_f] at hk
    try rw [decF_enc_55 c0_Gates_f] at hs
    try rw [decF_enc_55 c0_Gates_f] at hk
    exact ⟨(fun _ _=>[]),(fun _=>false),ann99,q99 (⟨(⟨c0_Gates_n,c0_Gates_f⟩:(Sl Gate))⟩:list) (⟨a0_n,a0_f⟩:(Sl Gate)) K hs hk⟩
  · rename_i a0_n a0_s a0_g c0_slope c0_start c0_den
    obtain ⟨⟨⟨rfl,a0_f,rfl⟩,hs⟩,hk⟩:=h
    try rw [decF_enc_55 a0_f] at hs
    try rw [decF_enc_55 a0_f] at hk
    exact ⟨(fun _ _=>[]),(fun _=>false),ann99a,q99a (⟨c0_slope,c0_start,c0_den⟩:straight) (⟨a0_n,a0_f⟩:(Sl Gate)) K hs hk⟩
  · rename_i a0_n a0_s a0_g c0_slope c0_start c0_den
    obtain ⟨⟨⟨rfl,a0_f,rfl⟩,hs⟩,hk⟩:=h
    try rw [decF_enc_55 a0_f] at hs
    try rw [decF_enc_55 a0_f] at hk
    exact ⟨(fun _ _=>[]),(fun _=>false),ann99b,q99b (⟨c0_slope,c0_start,c0_den⟩:straight) (⟨a0_n,a0_f⟩:(Sl Gate)) K hs hk⟩
  · exact h.elim
abbrev T67:Tabs:=(Tabs.nil.addF 99 ctr99)
theorem okT67:TabsOk Try.prog T67:=(TabsOk.nil.addF ok99)
abbrev G67:Ctrs:=csm T67 (fun _ _=>[]) (fun _=>false)
def ann67:Ann:=⟨8,[(0,⟨[1],[1],[],[],[],[],[]⟩),(1,⟨[2],[],[],[],[],[],[]⟩)],
  [],
  [],
  [],[]⟩
theorem f67_top (l_a0 : list) (K : List PA → Prop) :
  vcFun Try.prog G67 ann67 67 [.agg [.sl l_a0.Gates.len 3 (fun i=>enc_55 (l_a0.Gates.get i))]] K =
  ((IsE enc_55 3 3 (fun i=>enc_55 (l_a0.Gates.get i))∧IsE enc_55 3 3 (fun i=>enc_55 (l_a0.Gates.get i))∧(p99 l_a0 l_a0.Gates=true)) ∧
  (K [.one (.bool (!(s99 l_a0 l_a0.Gates)))])):=by kernel_rfl
abbrev e67 (r:Bool):List PA:=[.one (.bool r)]
def s67 (l_a0:list):Bool :=
  (!(s99 l_a0 l_a0.Gates))
def p67 (l_a0:list):Bool :=
  (decide ((p99 l_a0 l_a0.Gates=true)) &&
  true)
theorem q67 (l_a0:list) (K:List PA→Prop) (hs:p67 l_a0=true) (hk:K (e67 (s67 l_a0))):vcFun Try.prog G67 ann67 67 [.agg [.sl l_a0.Gates.len 3 (fun i=>enc_55 (l_a0.Gates.get i))]] K:=by
  refine ofEq (f67_top l_a0 K) ?_
  unfold p67 at hs
  unfold s67 at hk
  exact (andK hs fun hc hs=>⟨⟨isE,isE,hc⟩,hk⟩)
def ctr67 : List PA → COut
  | [.agg [.sl a0_Gates_n a0_Gates_s a0_Gates_g]]=>.det (IsE enc_55 3 a0_Gates_s a0_Gates_g∧p67 (⟨(⟨a0_Gates_n,decF_55 a0_Gates_g⟩:(Sl Gate))⟩:list)=true) [.one (.bool (s67 (⟨(⟨a0_Gates_n,decF_55 a0_Gates_g⟩:(Sl Gate))⟩:list)))]
  | _=>.no
theorem call67:Callable Try.prog 67:=⟨_,rfl,rfl,by kernel_rfl⟩
theorem ok67:Ok Try.prog 67 ctr67:=ok_tab okT67 call67 fun args K h=>by
  unfold ctr67 at h
  split at h
  · rename_i a0_Gates_n a0_Gates_s a0_Gates_g
    obtain ⟨⟨⟨rfl,a0_Gates_f,rfl⟩,hs⟩,hk⟩:=h
    try rw [decF_enc_55 a0_Gates_f] at hs
    try rw [decF_enc_55 a0_Gates_f] at hk
    exact ⟨(fun _ _=>[]),(fun _=>false),ann67,q67 (⟨(⟨a0_Gates_n,a0_Gates_f⟩:(Sl Gate))⟩:list) K hs hk⟩
  · exact h.elim
end Go.Proofs
namespace Go.Proofs
open Go Go.Pm
set_option maxRecDepth 100000
set_option linter.unusedVariables false
attribute [local irreducible] Go.Pm.vcFun Go.Pm.vc Go.Pm.vcIter
abbrev T114:Tabs:=Tabs.nil
theorem okT114:TabsOk Try.prog T114:=TabsOk.nil
abbrev G114:Ctrs:=csm T114 (fun _ _=>[]) (fun _=>false)
def ann114:Ann:=⟨12,[(0,⟨[0,1],[],[],[],[],[],[]⟩),(1,⟨[0,1,6],[],[],[],[],[],[]⟩),(2,⟨[0,1],[],[],[],[],[],[]⟩),(3,⟨[4],[],[],[],[],[],[]⟩)],
  [(1,⟨[0,1],[],[],[],[],[],[]⟩)],
  [],
  [],[]⟩
def f114_g0 (av0:Int) (bv0:Int):St:=⟨[(0,.one (.c (.p (.int .i64 av0)))),(1,.one (.c (.p (.int .i64 bv0))))],[],[]⟩
def f114_at0 (K:List PA→Prop) (av0:Int) (bv0:Int):Prop:=vc Try.prog G114 ann114 (cdF Try.f114 [1,0,0]) (blockK 0 (sqK Try.prog G114 ann114 (cdF Try.f114 [1,1]) (bodyK Try.prog Try.f114 K))) (f114_g0 av0 bv0)
theorem f114_top (a : Int) (b : Int) (K : List PA → Prop) :
  vcFun Try.prog G114 ann114 114 [.one (.int .i64 a),.one (.int .i64 b)] K =
  (f114_at0 K a b):=by kernel_rfl
def f114_step0 (K:List PA→Prop) (X0:St→Prop) (av0:Int) (bv0:Int):Prop :=
  (condP (decide (bv0 > (0:Int)))
   (((bv0 ≠ 0)) ∧
   (X0 (f114_g0 bv0 (av0.tmod bv0))))
   (K [.one (.int .i64 av0)]))
theorem f114_stepeq0 (K : List PA → Prop) (X0 : St → Prop) (av0 : Int) (bv0 : Int) :
  vc Try.prog G114 ann114 (cd (cdF Try.f114 [1,0,0]) [0]) (loopK Try.prog ann114 1 X0 (blockK 0 (sqK Try.prog G114 ann114 (cdF Try.f114 [1,1]) (bodyK Try.prog Try.f114 K)))) (f114_g0 av0 bv0) =
  f114_step0 K X0 av0 bv0:=by kernel_rfl
theorem f114_loop0 (K : List PA → Prop) (av0 : Int) (bv0 : Int)
  (h:∀ X0:St→Prop,(∀ (av0:Int) (bv0:Int),f114_step0 K X0 av0 bv0→X0 (f114_g0 av0 bv0))→X0 (f114_g0 av0 bv0)) :
  f114_at0 K av0 bv0:=by
  have e:f114_at0 K av0 bv0=(∀ X:St→Prop,(∀ s,vc Try.prog G114 ann114 (cd (cdF Try.f114 [1,0,0]) [0]) (loopK Try.prog ann114 1 X (blockK 0 (sqK Try.prog G114 ann114 (cdF Try.f114 [1,1]) (bodyK Try.prog Try.f114 K)))) s→X s)→X (f114_g0 av0 bv0)):=by kernel_rfl
  refine ofEq e ?_
  intro X hX
  refine h X ?_
  intro av0 bv0 hs
  refine hX _ ?_
  have e2:=f114_stepeq0 K X av0 bv0
  rw [e2]
  exact hs
abbrev e114 (r:Int):List PA:=[.one (.int .i64 r)]
attribute [irreducible] f114_at0
def s114_st0 (S0:Int→Int→Int) (av0:Int) (bv0:Int):Int :=
  (cond (decide (bv0 > (0:Int)))
   (S0 bv0 (av0.tmod bv0))
   av0)
def p114_st0 (P0:Int→Int→Bool) (av0:Int) (bv0:Int):Bool :=
  (cond (decide (bv0 > (0:Int)))
   (decide ((bv0 ≠ 0)) &&
   (P0 bv0 (av0.tmod bv0)))
   true)
def s114_lp0 : Nat → Int → Int → Int
  | 0=>fun _ _=>default
  | k+1=>s114_st0 (s114_lp0 k)
def p114_lp0 : Nat → Int → Int → Bool
  | 0=>fun _ _=>false
  | k+1=>p114_st0 (p114_lp0 k)
def s114_at0 (av0:Int) (bv0:Int):Int:=s114_lp0 Fuel av0 bv0
def p114_at0 (av0:Int) (bv0:Int):Bool:=p114_lp0 Fuel av0 bv0
theorem q114_at0 (K:List PA→Prop) (av0:Int) (bv0:Int) (hs:p114_at0 av0 bv0=true) (hk:K (e114 (s114_at0 av0 bv0))):f114_at0 K av0 bv0:=by
  refine f114_loop0 K av0 bv0 ?_
  intro X0 hstep
  have key:∀ (k:Nat) (av0:Int) (bv0:Int),p114_lp0 k av0 bv0=true→K (e114 (s114_lp0 k av0 bv0))→X0 (f114_g0 av0 bv0):=by
    intro k
    induction k with
    | zero=>intro av0 bv0 hs;exact absurd hs Bool.false_ne_true
    | succ k ih =>
      intro av0 bv0 hs hk
      refine hstep av0 bv0 ?_
      have hs:p114_st0 (p114_lp0 k) av0 bv0=true:=hs
      have hk:K (e114 (s114_st0 (s114_lp0 k) av0 bv0)):=hk
      unfold p114_st0 at hs
      unfold s114_st0 at hk
      generalize s114_lp0 k=S0 at hk ih
      generalize p114_lp0 k=P0 at hs ih
      have hX0:=ih
      exact (condB_go (K := fun r => K (e114 r))
       (fun hs hk=>(andK hs fun hc hs=>⟨hc,(hX0 bv0 (av0.tmod bv0) hs hk)⟩))
       (fun hs hk=>hk) hs hk)
  exact key _ av0 bv0 hs hk
def s114 (a:Int) (b:Int):Int :=
  (s114_at0 a b)
def p114 (a:Int) (b:Int):Bool :=
  (p114_at0 a b)
theorem q114 (a:Int) (b:Int) (K:List PA→Prop) (hs:p114 a b=true) (hk:K (e114 (s114 a b))):vcFun Try.prog G114 ann114 114 [.one (.int .i64 a),.one (.int .i64 b)] K:=by
  refine ofEq (f114_top a b K) ?_
  unfold p114 at hs
  unfold s114 at hk
  exact (q114_at0 K a b hs hk)
def ctr114 : List PA → COut
  | [.one (.int .i64 a0),.one (.int .i64 a1)]=>.det (p114 a0 a1=true) [.one (.int .i64 (s114 a0 a1))]
  | _=>.no
theorem call114:Callable Try.prog 114:=⟨_,rfl,rfl,by kernel_rfl⟩
theorem ok114:Ok Try.prog 114 ctr114:=ok_tab okT114 call114 fun args K h=>by
  unfold ctr114 at h
  split at h
  · rename_i a0 a1
    obtain ⟨hs,hk⟩:=h
    exact ⟨(fun _ _=>[]),(fun _=>false),ann114,q114 a0 a1 K hs hk⟩
  · exact h.elim
abbrev T89:Tabs:=(Tabs.nil.addF 114 ctr114)
theorem okT89:TabsOk Try.prog T89:=(TabsOk.nil.addF ok114)
abbrev G89:Ctrs:=csm T89 (fun _ _=>[]) (fun _=>false)
def ann89:Ann:=⟨19,[(0,⟨[0,1,4],[4],[],[],[],[],[]⟩),(1,⟨[0,1,4,5],[4],[],[],[],[],[]⟩),(2,⟨[4],[4],[],[],[],[],[]⟩)],
  [],
  [],
  [],[]⟩
theorem f89_top (num : Int) (den : Int) (K : List PA → Prop) :
  vcFun Try.prog G89 ann89 89 [.one (.int .i64 num),.one (.int .i64 den)] K =
  (((p114 (if (w64 (0 - num)) > num then (w64 (0 - num)) else num) den=true)) ∧
  ((((s114 (if (w64 (0 - num)) > num then (w64 (0 - num)) else num) den) ≠ 0)) ∧
  ((((s114 (if (w64 (0 - num)) > num then (w64 (0 - num)) else num) den) ≠ 0)) ∧
  (K [.agg [.int .i64 (w64 (num.tdiv (s114 (if (w64 (0 - num)) > num then (w64 (0 - num)) else num) den))),.int .i64 (w64 (den.tdiv (s114 (if (w64 (0 - num)) > num then (w64 (0 - num)) else num) den)))]])))):=by kernel_rfl
abbrev e89 (r:Frac):List PA:=[.agg [.int .i64 r.Num,.int .i64 r.Den]]
def s89 (num:Int) (den:Int):Frac :=
  (⟨(w64 (num.tdiv (s114 (if (w64 (0 - num)) > num then (w64 (0 - num)) else num) den))),(w64 (den.tdiv (s114 (if (w64 (0 - num)) > num then (w64 (0 - num)) else num) den)))⟩:Frac)
def p89 (num:Int) (den:Int):Bool :=
  (decide ((p114 (if (w64 (0 - num)) > num then (w64 (0 - num)) else num) den=true)) &&
  (decide (((s114 (if (w64 (0 - num)) > num then (w64 (0 - num)) else num) den) ≠ 0)) &&
  (decide (((s114 (if (w64 (0 - num)) > num then (w64 (0 - num)) else num) den) ≠ 0)) &&
  true)))
theorem q89 (num:Int) (den:Int) (K:List PA→Prop) (hs:p89 num den=true) (hk:K (e89 (s89 num den))):vcFun Try.prog G89 ann89 89 [.one (.int .i64 num),.one (.int .i64 den)] K:=by
  refine ofEq (f89_top num den K) ?_
  unfold p89 at hs
  unfold s89 at hk
  exact (andK hs fun hc hs=>⟨hc,(andK hs fun hc hs=>⟨hc,(andK hs fun hc hs=>⟨hc,hk⟩)⟩)⟩)
def ctr89 : List PA → COut
  | [.one (.int .i64 a0),.one (.int .i64 a1)]=>.det (p89 a0 a1=true) [.agg [.int .i64 ((s89 a0 a1).Num),.int .i64 ((s89 a0 a1).Den)]]
  | _=>.no
theorem call89:Callable Try.prog 89:=⟨_,rfl,rfl,by kernel_rfl⟩
theorem ok89:Ok Try.prog 89 ctr89:=ok_tab okT89 call89 fun args K h=>by
  unfold ctr89 at h
  split at h
  · rename_i a0 a1
    obtain ⟨hs,hk⟩:=h
    exact ⟨(fun _ _=>[]),(fun _=>false),ann89,q89 a0 a1 K hs hk⟩
  · exact h.elim
abbrev T79:Tabs:=(Tabs.nil.addF 89 ctr89)
theorem okT79:TabsOk Try.prog T79:=(TabsOk.nil.addF ok89)
abbrev G79:Ctrs:=csm T79 (fun _ _=>[]) (fun _=>false)
def ann79:Ann:=⟨14,[(0,⟨[1,2],[1,2],[],[],[],[],[]⟩),(1,⟨[2],[2],[],[],[],[],[]⟩)],
  [],
  [],
  [],[]⟩
theorem f79_top (s : straight) (K : List PA → Prop) :
  vcFun Try.prog G79 ann79 79 [.agg [.int .i64 s.slope,.int .i64 s.start,.int .i64 s.den]] K =
  (((p89 s.slope s.den=true)) ∧
  (((p89 s.start s.den=true)) ∧
  (K [.agg [.int .i64 ((s89 s.slope s.den).Num),.int .i64 ((s89 s.slope s.den).Den),.int .i64 ((s89 s.start s.den).Num),.int .i64 ((s89 s.start s.den).Den)]]))):=by kernel_rfl
abbrev e79 (r:Line):List PA:=[.agg [.int .i64 r.Slope.Num,.int .i64 r.Slope.Den,.int .i64 r.Start.Num,.int .i64 r.Start.Den]]
def s79 (s:straight):Line :=
  (⟨(s89 s.slope s.den),(s89 s.start s.den)⟩:Line)
def p79 (s:straight):Bool :=
  (decide ((p89 s.slope s.den=true)) &&
  (decide ((p89 s.start s.den=true)) &&
  true))
theorem q79 (s:straight) (K:List PA→Prop) (hs:p79 s=true) (hk:K (e79 (s79 s))):vcFun Try.prog G79 ann79 79 [.agg [.int .i64 s.slope,.int .i64 s.start,.int .i64 s.den]] K:=by
  refine ofEq (f79_top s K) ?_
  unfold p79 at hs
  unfold s79 at hk
  exact (andK hs fun hc hs=>⟨hc,(andK hs fun hc hs=>⟨hc,hk⟩)⟩)
def ctr79 : List PA → COut
  | [.agg [.int .i64 a0_slope,.int .i64 a0_start,.int .i64 a0_den]]=>.det (p79 (⟨a0_slope,a0_start,a0_den⟩:straight)=true) [.agg [.int .i64 ((s79 (⟨a0_slope,a0_start,a0_den⟩:straight)).Slope.Num),.int .i64 ((s79 (⟨a0_slope,a0_start,a0_den⟩:straight)).Slope.Den),.int .i64 ((s79 (⟨a0_slope,a0_start,a0_den⟩:straight)).Start.Num),.int .i64 ((s79 (⟨a0_slope,a0_start,a0_den⟩:straight)).Start.Den)]]
  | _=>.no
theorem call79:Callable Try.prog 79:=⟨_,rfl,rfl,by kernel_rfl⟩
theorem ok79:Ok Try.prog 79 ctr79:=ok_tab okT79 call79 fun args K h=>by
  unfold ctr79 at h
  split at h
  · rename_i a0_slope a0_start a0_den
    obtain ⟨hs,hk⟩:=h
    exact ⟨(fun _ _=>[]),(fun _=>false),ann79,q79 (⟨a0_slope,a0_start,a0_den⟩:straight) K hs hk⟩
  · exact h.elim
abbrev T96:Tabs:=Tabs.nil
theorem okT96:TabsOk Try.prog T96:=TabsOk.nil
abbrev G96:Ctrs:=csm T96 (fun _ _=>[]) (fun _=>false)
def ann96:Ann:=⟨4,[(0,⟨[1],[1],[],[],[],[],[]⟩),(1,⟨[2],[],[],[],[],[],[]⟩)],
  [],
  [],
  [],[]⟩
theorem f96_top (l_a0 : list) (K : List PA → Prop) :
  vcFun Try.prog G96 ann96 96 [.agg [.sl l_a0.Gates.len 3 (fun i=>enc_55 (l_a0.Gates.get i))]] K =
  (K [.one (.fn 115 [] [.fp (enc_101 l_a0) 0])]):=by kernel_rfl
theorem q96 (l_a0:list) (K:List PA→Prop) (hk:K [.one (.fn 115 [] [.fp (enc_101 l_a0) 0])]):vcFun Try.prog G96 ann96 96 [.agg [.sl l_a0.Gates.len 3 (fun i=>enc_55 (l_a0.Gates.get i))]] K:=ofEq (f96_top l_a0 K) hk
def ctr96 : List PA → COut
  | [.agg [.sl a0_Gates_n a0_Gates_s a0_Gates_g]]=>.det (IsE enc_55 3 a0_Gates_s a0_Gates_g) [.one (.fn 115 [] [.fp (enc_101 (⟨(⟨a0_Gates_n,decF_55 a0_Gates_g⟩:(Sl Gate))⟩:list)) 0])]
  | _=>.no
theorem call96:Callable Try.prog 96:=⟨_,rfl,rfl,by kernel_rfl⟩
theorem ok96:Ok Try.prog 96 ctr96:=ok_tab okT96 call96 fun args K h=>by
  unfold ctr96 at h
  split at h
  · rename_i a0_Gates_n a0_Gates_s a0_Gates_g
    obtain ⟨⟨rfl,a0_Gates_f,rfl⟩,hk⟩:=h
    try rw [decF_enc_55 a0_Gates_f] at hk
    exact ⟨fun _ _=>[],fun _=>false,ann96,q96 (⟨(⟨a0_Gates_n,a0_Gates_f⟩:(Sl Gate))⟩:list) K hk⟩
  · exact h.elim
abbrev T97:Tabs:=(Tabs.nil.addF 99 ctr99)
theorem okT97:TabsOk Try.prog T97:=(TabsOk.nil.addF ok99)
abbrev G97:Ctrs:=csm T97 (fun _ _=>[]) (fun _=>false)
def ann97:Ann:=⟨11,[(0,⟨[2,3],[2,3],[],[],[],[],[]⟩),(1,⟨[4],[],[],[],[],[],[]⟩)],
  [],
  [],
  [],[]⟩
theorem f97_top (s : set) (x : straight) (K : List PA → Prop) :
  vcFun Try.prog G97 ann97 97 [.agg [.sl s.list.Gates.len 3 (fun i=>enc_55 (s.list.Gates.get i)),.sl s.corners.len 3 (fun i=>enc_118 (s.corners.get i))],.agg [.int .i64 x.slope,.int .i64 x.start,.int .i64 x.den]] K =
  ((IsE enc_55 3 3 (fun i=>enc_55 (s.list.Gates.get i))∧(p99a x s.list.Gates=true)) ∧
  (K [.one (.bool (!(s99a x s.list.Gates)))])):=by kernel_rfl
abbrev e97 (r:Bool):List PA:=[.one (.bool r)]
def s97 (s:set) (x:straight):Bool :=
  (!(s99a x s.list.Gates))
def p97 (s:set) (x:straight):Bool :=
  (decide ((p99a x s.list.Gates=true)) &&
  true)
theorem q97 (s:set) (x:straight) (K:List PA→Prop) (hs:p97 s x=true) (hk:K (e97 (s97 s x))):vcFun Try.prog G97 ann97 97 [.agg [.sl s.list.Gates.len 3 (fun i=>enc_55 (s.list.Gates.get i)),.sl s.corners.len 3 (fun i=>enc_118 (s.corners.get i))],.agg [.int .i64 x.slope,.int .i64 x.start,.int .i64 x.den]] K:=by
  refine ofEq (f97_top s x K) ?_
  unfold p97 at hs
  unfold s97 at hk
  exact (andK hs fun hc hs=>⟨⟨isE,hc⟩,hk⟩)
def ctr97 : List PA → COut
  | [.agg [.sl a0_list_Gates_n a0_list_Gates_s a0_list_Gates_g,.sl a0_corners_n a0_corners_s a0_corners_g],.agg [.int .i64 a1_slope,.int .i64 a1_start,.int .i64 a1_den]]=>.det (IsE enc_55 3 a0_list_Gates_s a0_list_Gates_g∧IsE enc_118 3 a0_corners_s a0_corners_g∧p97 (⟨(⟨(⟨a0_list_Gates_n,decF_55 a0_list_Gates_g⟩:(Sl Gate))⟩:list),(⟨a0_corners_n,decF_118 a0_corners_g⟩:(Sl straight))⟩:set) (⟨a1_slope,a1_start,a1_den⟩:straight)=true) [.one (.bool (s97 (⟨(⟨(⟨a0_list_Gates_n,decF_55 a0_list_Gates_g⟩:(Sl Gate))⟩:list),(⟨a0_corners_n,decF_118 a0_corners_g⟩:(Sl straight))⟩:set) (⟨a1_slope,a1_start,a1_den⟩:straight)))]
  | [.agg [.sl a0_list_Gates_n a0_list_Gates_s a0_list_Gates_g,.nils],.agg [.int .i64 a1_slope,.int .i64 a1_start,.int .i64 a1_den]]=>.det (IsE enc_55 3 a0_list_Gates_s a0_list_Gates_g∧p97 (⟨(⟨(⟨a0_list_Gates_n,decF_55 a0_list_Gates_g⟩:(Sl Gate))⟩:list),(⟨0,fun _=>default⟩:(Sl straight))⟩:set) (⟨a1_slope,a1_start,a1_den⟩:straight)=true) [.one (.bool (s97 (⟨(⟨(⟨a0_list_Gates_n,decF_55 a0_list_Gates_g⟩:(Sl Gate))⟩:list),(⟨0,fun _=>default⟩:(Sl straight))⟩:set) (⟨a1_slope,a1_start,a1_den⟩:straight)))]
  | _=>.no
theorem call97:Callable Try.prog 97:=⟨_,rfl,rfl,by kernel_rfl⟩
theorem ok97:Ok Try.prog 97 ctr97:=ok_tabW okT97 call97 fun args K h=>by
  unfold ctr97 at h
  split at h
  · rename_i a0_list_Gates_n a0_list_Gates_s a0_list_Gates_g a0_corners_n a0_corners_s a0_corners_g a1_slope a1_start a1_den
    obtain ⟨⟨⟨rfl,a0_list_Gates_f,rfl⟩,⟨rfl,a0_corners_f,rfl⟩,hs⟩,hk⟩:=h
    try rw [decF_enc_55 a0_list_Gates_f] at hs
    try rw [decF_enc_55 a0_list_Gates_f] at hk
    try rw [decF_enc_118 a0_corners_f] at hs
    try rw [decF_enc_118 a0_corners_f] at hk
    exact ⟨_,rl_rfl pa_rfl _,(fun _ _=>[]),(fun _=>false),ann97,q97 (⟨(⟨(⟨a0_list_Gates_n,a0_list_Gates_f⟩:(Sl Gate))⟩:list),(⟨a0_corners_n,a0_corners_f⟩:(Sl straight))⟩:set) (⟨a1_slope,a1_start,a1_den⟩:straight) (Wk K) hs (wk_rfl hk)⟩
  · rename_i a0_list_Gates_n a0_list_Gates_s a0_list_Gates_g a1_slope a1_start a1_den
    obtain ⟨⟨⟨rfl,a0_list_Gates_f,rfl⟩,hs⟩,hk⟩:=h
    try rw [decF_enc_55 a0_list_Gates_f] at hs
    try rw [decF_enc_55 a0_list_Gates_f] at hk
    exact ⟨_,(rl_c (.agg (rl_c (.rfl _) (rl_c (.nil _ _) rl_n))) (rl_c (pa_rfl _) rl_n)),(fun _ _=>[]),(fun _=>false),ann97,q97 (⟨(⟨(⟨a0_list_Gates_n,a0_list_Gates_f⟩:(Sl Gate))⟩:list),(⟨0,fun _=>default⟩:(Sl straight))⟩:set) (⟨a1_slope,a1_start,a1_den⟩:straight) (Wk K) hs (wk_rfl hk)⟩
  · exact h.elim
abbrev T116:Tabs:=Tabs.nil
theorem okT116:TabsOk Try.prog T116:=TabsOk.nil
abbrev G116:Ctrs:=csm T116 (fun _ _=>[]) (fun _=>false)
def ann116:Ann:=⟨30,[(0,⟨[0,1,2,3,8],[8],[],[],[],[],[]⟩),(1,⟨[0,1,2,3,8,11],[8],[],[],[],[],[]⟩),(2,⟨[0,1,2,3,8],[8],[],[],[],[],[]⟩),(3,⟨[8],[8],[],[],[],[],[]⟩)],
  [],
  [(3,⟨[0,1,2,3,8],[8],[],[],[],[],[]⟩)],
  [],[]⟩
def f116_g0 (zv0:Int) (pv0:Int) (yv0:Int) (qv0:Int):St:=⟨[(0,.one (.c (.p (.int .i64 zv0)))),(1,.one (.c (.p (.int .i64 pv0)))),(2,.one (.c (.p (.int .i64 yv0)))),(3,.one (.c (.p (.int .i64 qv0)))),(8,.one (.c (.ptr 8 0)))],[(8,.box 118 [.p (.int .i64 (0:Int)),.p (.int .i64 (0:Int)),.p (.int .i64 (0:Int))])],[]⟩
def f116_at0 (K:List PA→Prop) (zv0:Int) (pv0:Int) (yv0:Int) (qv0:Int):Prop:=vc Try.prog G116 ann116 (cdF Try.f116 [1,1]) (bodyK Try.prog Try.f116 K) (f116_g0 zv0 pv0 yv0 qv0)
theorem f116_top (z : Int) (p : Int) (y_a2 : Int) (q : Int) (K : List PA → Prop) :
  vcFun Try.prog G116 ann116 116 [.one (.int .i64 z),.one (.int .i64 p),.one (.int .i64 y_a2),.one (.int .i64 q)] K =
  (condP (decide (z > y_a2))
   (f116_at0 K y_a2 q z p)
   (f116_at0 K z p y_a2 q)):=by kernel_rfl
theorem f116_eq0 (K : List PA → Prop) (zv0 : Int) (pv0 : Int) (yv0 : Int) (qv0 : Int) :
  f116_at0 K zv0 pv0 yv0 qv0 =
  (K [.agg [.int .i64 (w64 (qv0 - pv0)),.int .i64 (w64 ((w64 (pv0 * yv0)) - (w64 (qv0 * zv0)))),.int .i64 (w64 (yv0 - zv0))]]):=by kernel_rfl
abbrev e116 (r:straight):List PA:=[.agg [.int .i64 r.slope,.int .i64 r.start,.int .i64 r.den]]
attribute [irreducible] f116_at0
def s116_at0 (zv0:Int) (pv0:Int) (yv0:Int) (qv0:Int):straight :=
  (⟨(w64 (qv0 - pv0)),(w64 ((w64 (pv0 * yv0)) - (w64 (qv0 * zv0)))),(w64 (yv0 - zv0))⟩:straight)
theorem q116_at0 (K:List PA→Prop) (zv0:Int) (pv0:Int) (yv0:Int) (qv0:Int) (hk:K (e116 (s116_at0 zv0 pv0 yv0 qv0))):f116_at0 K zv0 pv0 yv0 qv0:=by
  refine ofEq (f116_eq0 K zv0 pv0 yv0 qv0) ?_
  unfold s116_at0 at hk
  exact hk
def s116 (z:Int) (p:Int) (y_a2:Int) (q:Int):straight :=
  (cond (decide (z > y_a2))
   (s116_at0 y_a2 q z p)
   (s116_at0 z p y_a2 q))
theorem q116 (z:Int) (p:Int) (y_a2:Int) (q:Int) (K:List PA→Prop) (hk:K (e116 (s116 z p y_a2 q))):vcFun Try.prog G116 ann116 116 [.one (.int .i64 z),.one (.int .i64 p),.one (.int .i64 y_a2),.one (.int .i64 q)] K:=by
  refine ofEq (f116_top z p y_a2 q K) ?_
  unfold s116 at hk
  exact (condP_gt (K := fun r => K (e116 r))
   (fun hk=>(q116_at0 K y_a2 q z p hk))
   (fun hk=>(q116_at0 K z p y_a2 q hk)) hk)
def ctr116 : List PA → COut
  | [.one (.int .i64 a0),.one (.int .i64 a1),.one (.int .i64 a2),.one (.int .i64 a3)]=>.tot [.agg [.int .i64 ((s116 a0 a1 a2 a3).slope),.int .i64 ((s116 a0 a1 a2 a3).start),.int .i64 ((s116 a0 a1 a2 a3).den)]]
  | _=>.no
theorem call116:Callable Try.prog 116:=⟨_,rfl,rfl,by kernel_rfl⟩
theorem ok116:Ok Try.prog 116 ctr116:=ok_tab okT116 call116 fun args K h=>by
  unfold ctr116 at h
  split at h
  · rename_i a0 a1 a2 a3
    have hk:=h
    exact ⟨(fun _ _=>[]),(fun _=>false),ann116,q116 a0 a1 a2 a3 K hk⟩
  · exact h.elim
abbrev T115:Tabs:=(Tabs.nil.addF 116 ctr116)
theorem okT115:TabsOk Try.prog T115:=(TabsOk.nil.addF ok116)
abbrev G115:Ctrs:=csm T115 (fun _ _=>[]) (fun _=>false)
def ann115:Ann:=⟨64,[(0,⟨[0,1,12,13,14],[],[],[],[],[],[]⟩),(1,⟨[0,1,12,13,14,15],[],[],[],[],[],[]⟩),(2,⟨[0,1,3,4,12,13,14],[4],[],[],[],[],[]⟩),(3,⟨[0,1,4,12,13,14,23,24,25],[4],[],[],[],[],[]⟩),(4,⟨[0,1,4,12,13,14,23,24,25,26],[4],[],[],[],[],[]⟩),(5,⟨[0,1,4,6,12,13,14,23,24,25],[4,6],[],[],[],[],[]⟩),(6,⟨[0,1,4,6,12,13,14,23,24,25,33],[4,6],[],[],[],[],[]⟩),(7,⟨[0,1,4,6,12,13,14,23,24,25,38,39],[4,6],[],[],[],[],[]⟩),(8,⟨[0,1,4,6,12,13,14,23,24,25,38,39,40],[4,6],[],[],[],[],[]⟩),(9,⟨[0,1,4,6,8,12,13,14,23,24,25,38,39],[4,6],[],[],[],[],[]⟩),(10,⟨[0,1,4,6,8,12,13,14,23,24,25,38,39,46,47],[4,6],[],[],[],[],[]⟩),(11,⟨[0,1,4,6,8,12,13,14,23,24,25,38,39,46,47,48],[4,6],[],[],[],[],[]⟩),(12,⟨[0,1,4,6,8,10,12,13,14,23,24,25,38,39,46,47],[4,6],[],[],[],[],[]⟩),(13,⟨[0,1,4,6,8,12,13,14,23,24,25,38,39,46,47,59],[4,6],[],[],[],[],[]⟩),(14,⟨[0,1,4,6,8,12,13,14,23,24,25,38,39,46,47],[4,6],[],[],[],[],[]⟩),(15,⟨[0,1,4,6,12,13,14,23,24,25,38,39],[4,6],[],[],[],[],[]⟩),(16,⟨[0,1,4,12,13,14,23,24,25],[4],[],[],[],[],[]⟩),(17,⟨[0,1,12,13,14],[],[],[],[],[],[]⟩)],
  [(1,⟨[0,1,12,13,14],[],[],[],[],[],[]⟩),(4,⟨[0,1,4,12,13,14,23,24,25],[4],[],[],[],[4],[]⟩)],
  [],
  [(8,3,⟨[0,1,4,6,12,13,14,23,24,25,38,39],[4,6],[],[],[],[],[]⟩),(11,3,⟨[0,1,4,6,8,12,13,14,23,24,25,38,39,46,47],[4,6],[],[],[],[],[]⟩)],[13]⟩
def f115_g0 (l:Nat) (a:list) (t14v0:Int):St:=⟨[(0,.one (.c (.p (.yl l)))),(1,.one (.c (.p (.fp (enc_101 a) 0)))),(12,.one (.c (.p (.sl a.Gates.len 3 (fun i=>enc_55 (a.Gates.get i)))))),(13,.one (.c (.p (.int .i64 (a.Gates.len:Int))))),(14,.one (.c (.p (.int .i64 t14v0))))],[],[]⟩
def f115_at0 (l:Nat) (ys:List (List PA)) (a:list) (t14v0:Int):Prop:=vcY Try.prog G115 ann115 l (cdF Try.f115 [1,0]) (blockY 0 bodyY) ys false (f115_g0 l a t14v0)
def f115_g1 (l:Nat) (a:list) (t14v1:Int) (t23v1_n:Nat) (t23v1_g:Nat→List PV) (t24v1:Int) (t25v1:Int) (a_0v1:Int) (a_1v1:Int) (a_2v1:Int):St:=⟨[(0,.one (.c (.p (.yl l)))),(1,.one (.c (.p (.fp (enc_101 a) 0)))),(4,.one (.c (.ptr 4 0))),(12,.one (.c (.p (.sl a.Gates.len 3 (fun i=>enc_55 (a.Gates.get i)))))),(13,.one (.c (.p (.int .i64 (a.Gates.len:Int))))),(14,.one (.c (.p (.int .i64 t14v1)))),(23,.one (.c (.p (.sl t23v1_n 3 t23v1_g)))),(24,.one (.c (.p (.int .i64 t24v1)))),(25,.one (.c (.p (.int .i64 t25v1))))],[(4,.fbox [.int .i64 a_0v1,.int .i64 a_1v1,.int .i64 a_2v1])],[]⟩
def f115_at1 (l:Nat) (X0:List (List PA)→Bool→St→Prop) (ys:List (List PA)) (a:list) (t14v1:Int) (t23v1_n:Nat) (t23v1_g:Nat→List PV) (t24v1:Int) (t25v1:Int) (a_0v1:Int) (a_1v1:Int) (a_2v1:Int):Prop:=vcY Try.prog G115 ann115 l (cdF Try.f115 [1,0,0,1,1,0,0,1,1,0]) (blockY 2 (blockY 1 (seqY (cutY Try.prog ann115 17 (vcY Try.prog G115 ann115 l (cdF Try.f115 [1,0,0,1,1,1]) (loopY Try.prog ann115 1 X0 (blockY 0 bodyY)))) (loopY Try.prog ann115 1 X0 (blockY 0 bodyY))))) ys false (f115_g1 l a t14v1 t23v1_n t23v1_g t24v1 t25v1 a_0v1 a_1v1 a_2v1)
theorem f115_top (l : Nat) (a : list) (ys : List (List PA)) :
  vcIter Try.prog G115 ann115 115 l [.one (.fp (enc_101 a) 0)] ys =
  (f115_at0 l ys a (0:Int)):=by kernel_rfl
def f115_step0 (l:Nat) (X0:List (List PA)→Bool→St→Prop) (ys:List (List PA)) (a:list) (t14v0:Int):Prop :=
  (condP (decide (t14v0 < (a.Gates.len : Int)))
   (((0≤t14v0∧t14v0 < (a.Gates.len:Int))) ∧
   (((0≤(w64 (t14v0+(1:Int)))∧(w64 (t14v0+(1:Int)))≤(a.Gates.len:Int)∧(a.Gates.len:Int)≤(a.Gates.len:Int))) ∧
   (f115_at1 l  X0 ys a t14v0 (((a.Gates.len:Int) - (w64 (t14v0+(1:Int)))).toNat) (slG (fun i=>enc_55 (a.Gates.get i)) ((w64 (t14v0+(1:Int))).toNat)) (((a.Gates.len:Int) - (w64 (t14v0+(1:Int)))).toNat:Int) (0:Int) ((a.Gates.get t14v0.toNat).Z) ((a.Gates.get t14v0.toNat).Low) ((a.Gates.get t14v0.toNat).High))))
   (ys=[]))
theorem f115_stepeq0 (l : Nat) (X0 : List (List PA) → Bool → St → Prop) (ys : List (List PA)) (a : list) (t14v0 : Int) :
  vcY Try.prog G115 ann115 l (cd (cdF Try.f115 [1,0]) [0]) (loopY Try.prog ann115 1 X0 (blockY 0 bodyY)) ys false (f115_g0 l a t14v0) =
  f115_step0 l X0 ys a t14v0:=by kernel_rfl
theorem f115_loop0 (l : Nat) (ys : List (List PA)) (a : list) (t14v0 : Int)
  (h:∀ X0:List (List PA)→Bool→St→Prop,(∀ (ys:List (List PA)) (t14v0:Int),f115_step0 l X0 ys a t14v0→X0 ys false (f115_g0 l a t14v0))→X0 ys false (f115_g0 l a t14v0)) :
  f115_at0 l ys a t14v0:=by
  have e:f115_at0 l ys a t14v0=(∀ X:List (List PA)→Bool→St→Prop,(∀ ys q s,vcY Try.prog G115 ann115 l (cd (cdF Try.f115 [1,0]) [0]) (loopY Try.prog ann115 1 X (blockY 0 bodyY)) ys q s→X ys q s)→X ys false (f115_g0 l a t14v0)):=by kernel_rfl
  refine ofEq e ?_
  intro X hX
  refine h X ?_
  intro ys t14v0 hs
  refine hX _ _ _ ?_
  have e2:=f115_stepeq0 l X ys a t14v0
  rw [e2]
  exact hs
def f115_step1 (l:Nat) (X0:List (List PA)→Bool→St→Prop) (X1:List (List PA)→Bool→St→Prop) (ys:List (List PA)) (a:list) (t14v1:Int) (t23v1:(Sl Gate)) (t24v1:Int) (t25v1:Int) (a_0v1:Int) (a_1v1:Int) (a_2v1:Int):Prop :=
  (condP (decide (t25v1 < t24v1))
   (((0≤t25v1∧t25v1 < (t23v1.len:Int))) ∧
   (condP (a_0v1 == (t23v1.get t25v1.toNat).Z)
    (X1 ys false (f115_g1 l a t14v1 t23v1.len (fun i=>enc_55 (t23v1.get i)) t24v1 (w64 (t25v1+(1:Int))) a_0v1 a_1v1 a_2v1))
    (l=l∧∃ r1,ys=[.agg [.int .i64 ((s116 a_0v1 a_1v1 ((t23v1.get t25v1.toNat).Z) ((t23v1.get t25v1.toNat).Low)).slope),.int .i64 ((s116 a_0v1 a_1v1 ((t23v1.get t25v1.toNat).Z) ((t23v1.get t25v1.toNat).Low)).start),.int .i64 ((s116 a_0v1 a_1v1 ((t23v1.get t25v1.toNat).Z) ((t23v1.get t25v1.toNat).Low)).den)]] :: r1 ∧
    (l=l∧∃ r2,r1=[.agg [.int .i64 ((s116 a_0v1 a_1v1 ((t23v1.get t25v1.toNat).Z) ((t23v1.get t25v1.toNat).High)).slope),.int .i64 ((s116 a_0v1 a_1v1 ((t23v1.get t25v1.toNat).Z) ((t23v1.get t25v1.toNat).High)).start),.int .i64 ((s116 a_0v1 a_1v1 ((t23v1.get t25v1.toNat).Z) ((t23v1.get t25v1.toNat).High)).den)]] :: r2 ∧
    (l=l∧∃ r3,r2=[.agg [.int .i64 ((s116 a_0v1 a_2v1 ((t23v1.get t25v1.toNat).Z) ((t23v1.get t25v1.toNat).Low)).slope),.int .i64 ((s116 a_0v1 a_2v1 ((t23v1.get t25v1.toNat).Z) ((t23v1.get t25v1.toNat).Low)).start),.int .i64 ((s116 a_0v1 a_2v1 ((t23v1.get t25v1.toNat).Z) ((t23v1.get t25v1.toNat).Low)).den)]] :: r3 ∧
    (l=l∧∃ r4,r3=[.agg [.int .i64 ((s116 a_0v1 a_2v1 ((t23v1.get t25v1.toNat).Z) ((t23v1.get t25v1.toNat).High)).slope),.int .i64 ((s116 a_0v1 a_2v1 ((t23v1.get t25v1.toNat).Z) ((t23v1.get t25v1.toNat).High)).start),.int .i64 ((s116 a_0v1 a_2v1 ((t23v1.get t25v1.toNat).Z) ((t23v1.get t25v1.toNat).High)).den)]] :: r4 ∧
    (X1 r4 false (f115_g1 l a t14v1 t23v1.len (fun i=>enc_55 (t23v1.get i)) t24v1 (w64 (t25v1+(1:Int))) a_0v1 a_1v1 a_2v1))∧True)∧True)∧True)∧True)))
   (X0 ys false (f115_g0 l a (w64 (t14v1+(1:Int))))))
theorem f115_stepeq1 (l : Nat) (X0 : List (List PA) → Bool → St → Prop) (X1 : List (List PA) → Bool → St → Prop) (ys : List (List PA)) (a : list) (t14v1 : Int) (t23v1 : (Sl Gate)) (t24v1 : Int) (t25v1 : Int) (a_0v1 : Int) (a_1v1 : Int) (a_2v1 : Int) :
  vcY Try.prog G115 ann115 l (cd (cdF Try.f115 [1,0,0,1,1,0,0,1,1,0]) [0]) (loopY Try.prog ann115 4 X1 (blockY 2 (blockY 1 (seqY (cutY Try.prog ann115 17 (vcY Try.prog G115 ann115 l (cdF Try.f115 [1,0,0,1,1,1]) (loopY Try.prog ann115 1 X0 (blockY 0 bodyY)))) (loopY Try.prog ann115 1 X0 (blockY 0 bodyY)))))) ys false (f115_g1 l a t14v1 t23v1.len (fun i=>enc_55 (t23v1.get i)) t24v1 t25v1 a_0v1 a_1v1 a_2v1) =
  f115_step1 l  X0 X1 ys a t14v1 t23v1 t24v1 t25v1 a_0v1 a_1v1 a_2v1:=by kernel_rfl
theorem f115_loop1 (l : Nat) (X0 : List (List PA) → Bool → St → Prop) (ys : List (List PA)) (a : list) (t14v1 : Int) (t23v1_n : Nat) (t23v1_g : Nat → List PV) (t24v1 : Int) (t25v1 : Int) (a_0v1 : Int) (a_1v1 : Int) (a_2v1 : Int)
  (h:∀ X1:List (List PA)→Bool→St→Prop,(∀ (ys:List (List PA)) (t14v1:Int) (t23v1:(Sl Gate)) (t24v1:Int) (t25v1:Int) (a_0v1:Int) (a_1v1:Int) (a_2v1:Int),f115_step1 l  X0 X1 ys a t14v1 t23v1 t24v1 t25v1 a_0v1 a_1v1 a_2v1→X1 ys false (f115_g1 l a t14v1 t23v1.len (fun i=>enc_55 (t23v1.get i)) t24v1 t25v1 a_0v1 a_1v1 a_2v1))→X1 ys false (f115_g1 l a t14v1 t23v1_n t23v1_g t24v1 t25v1 a_0v1 a_1v1 a_2v1)) :
  f115_at1 l  X0 ys a t14v1 t23v1_n t23v1_g t24v1 t25v1 a_0v1 a_1v1 a_2v1:=by
  have e:f115_at1 l  X0 ys a t14v1 t23v1_n t23v1_g t24v1 t25v1 a_0v1 a_1v1 a_2v1=(∀ X:List (List PA)→Bool→St→Prop,(∀ ys q s,vcY Try.prog G115 ann115 l (cd (cdF Try.f115 [1,0,0,1,1,0,0,1,1,0]) [0]) (loopY Try.prog ann115 4 X (blockY 2 (blockY 1 (seqY (cutY Try.prog ann115 17 (vcY Try.prog G115 ann115 l (cdF Try.f115 [1,0,0,1,1,1]) (loopY Try.prog ann115 1 X0 (blockY 0 bodyY)))) (loopY Try.prog ann115 1 X0 (blockY 0 bodyY)))))) ys q s→X ys q s)→X ys false (f115_g1 l a t14v1 t23v1_n t23v1_g t24v1 t25v1 a_0v1 a_1v1 a_2v1)):=by kernel_rfl
  refine ofEq e ?_
  intro X hX
  refine h X ?_
  intro ys t14v1 t23v1 t24v1 t25v1 a_0v1 a_1v1 a_2v1 hs
  refine hX _ _ _ ?_
  have e2:=f115_stepeq1 l  X0 X ys a t14v1 t23v1 t24v1 t25v1 a_0v1 a_1v1 a_2v1
  rw [e2]
  exact hs
attribute [irreducible] f115_at0 f115_at1
def s115_st1 (S0:Int→List straight) (a:list) (S1:Int→(Sl Gate)→Int→Int→Int→Int→Int→List straight) (t14v1:Int) (t23v1:(Sl Gate)) (t24v1:Int) (t25v1:Int) (a_0v1:Int) (a_1v1:Int) (a_2v1:Int):List straight :=
  (cond (decide (t25v1 < t24v1))
   (cond (a_0v1 == (t23v1.get t25v1.toNat).Z)
    (S1 t14v1 t23v1 t24v1 (w64 (t25v1+(1:Int))) a_0v1 a_1v1 a_2v1)
    ((s116 a_0v1 a_1v1 ((t23v1.get t25v1.toNat).Z) ((t23v1.get t25v1.toNat).Low)) :: ((s116 a_0v1 a_1v1 ((t23v1.get t25v1.toNat).Z) ((t23v1.get t25v1.toNat).High)) :: ((s116 a_0v1 a_2v1 ((t23v1.get t25v1.toNat).Z) ((t23v1.get t25v1.toNat).Low)) :: ((s116 a_0v1 a_2v1 ((t23v1.get t25v1.toNat).Z) ((t23v1.get t25v1.toNat).High)) :: (S1 t14v1 t23v1 t24v1 (w64 (t25v1+(1:Int))) a_0v1 a_1v1 a_2v1))))))
   (S0 (w64 (t14v1+(1:Int)))))
def p115_st1 (P0:Int→Bool) (a:list) (P1:Int→(Sl Gate)→Int→Int→Int→Int→Int→Bool) (t14v1:Int) (t23v1:(Sl Gate)) (t24v1:Int) (t25v1:Int) (a_0v1:Int) (a_1v1:Int) (a_2v1:Int):Bool :=
  (cond (decide (t25v1 < t24v1))
   (decide ((0≤t25v1∧t25v1 < (t23v1.len:Int))) &&
   (cond (a_0v1 == (t23v1.get t25v1.toNat).Z)
    (P1 t14v1 t23v1 t24v1 (w64 (t25v1+(1:Int))) a_0v1 a_1v1 a_2v1)
    (P1 t14v1 t23v1 t24v1 (w64 (t25v1+(1:Int))) a_0v1 a_1v1 a_2v1)))
   (P0 (w64 (t14v1+(1:Int)))))
def s115_lp1 (S0 : Int → List straight) (a : list) : Nat → Int → (Sl Gate) → Int → Int → Int → Int → Int → List straight
  | 0=>fun _ _ _ _ _ _ _=>[]
  | k+1=>s115_st1 S0 a (s115_lp1 S0 a k)
def p115_lp1 (P0 : Int → Bool) (a : list) : Nat → Int → (Sl Gate) → Int → Int → Int → Int → Int → Bool
  | 0=>fun _ _ _ _ _ _ _=>false
  | k+1=>p115_st1 P0 a (p115_lp1 P0 a k)
def s115_at1 (S0:Int→List straight) (a:list) (t14v1:Int) (t23v1:(Sl Gate)) (t24v1:Int) (t25v1:Int) (a_0v1:Int) (a_1v1:Int) (a_2v1:Int):List straight:=s115_lp1 S0 a Fuel t14v1 t23v1 t24v1 t25v1 a_0v1 a_1v1 a_2v1
def p115_at1 (P0:Int→Bool) (a:list) (t14v1:Int) (t23v1:(Sl Gate)) (t24v1:Int) (t25v1:Int) (a_0v1:Int) (a_1v1:Int) (a_2v1:Int):Bool:=p115_lp1 P0 a Fuel t14v1 t23v1 t24v1 t25v1 a_0v1 a_1v1 a_2v1
theorem q115_at1 (l : Nat) (a : list)
  (X0:List (List PA)→Bool→St→Prop) (P0:Int→Bool) (S0:Int→List straight)
  (hX0:∀ (ys:List (List PA)) (t14v0:Int),P0 t14v0=true→ys=(S0 t14v0).map (fun y=>[.agg (enc_118 y)])→X0 ys false (f115_g0 l a t14v0)) (ys:List (List PA)) (t14v1:Int) (t23v1:(Sl Gate)) (t24v1:Int) (t25v1:Int) (a_0v1:Int) (a_1v1:Int) (a_2v1:Int) (t23v1_g:Nat→List PV) (t23v1_h:t23v1_g=fun i=>enc_55 (t23v1.get i)) (hs:p115_at1 P0 a t14v1 t23v1 t24v1 t25v1 a_0v1 a_1v1 a_2v1=true) (hk:ys=(s115_at1 S0 a t14v1 t23v1 t24v1 t25v1 a_0v1 a_1v1 a_2v1).map (fun y=>[.agg (enc_118 y)])):f115_at1 l  X0 ys a t14v1 t23v1.len t23v1_g t24v1 t25v1 a_0v1 a_1v1 a_2v1:=by
  refine f115_loop1 l  X0 ys a t14v1 t23v1.len t23v1_g t24v1 t25v1 a_0v1 a_1v1 a_2v1 ?_
  intro X1 hstep
  have key:∀ (k:Nat) (ys:List (List PA)) (t14v1:Int) (t23v1:(Sl Gate)) (t24v1:Int) (t25v1:Int) (a_0v1:Int) (a_1v1:Int) (a_2v1:Int) (t23v1_g:Nat→List PV) (t23v1_h:t23v1_g=fun i=>enc_55 (t23v1.get i)),p115_lp1 P0 a k t14v1 t23v1 t24v1 t25v1 a_0v1 a_1v1 a_2v1=true→ys=(s115_lp1 S0 a k t14v1 t23v1 t24v1 t25v1 a_0v1 a_1v1 a_2v1).map (fun y=>[.agg (enc_118 y)])→X1 ys false (f115_g1 l a t14v1 t23v1.len t23v1_g t24v1 t25v1 a_0v1 a_1v1 a_2v1):=by
    intro k
    induction k with
    | zero=>intro ys t14v1 t23v1 t24v1 t25v1 a_0v1 a_1v1 a_2v1 t23v1_g t23v1_h hs;exact absurd hs Bool.false_ne_true
    | succ k ih =>
      intro ys t14v1 t23v1 t24v1 t25v1 a_0v1 a_1v1 a_2v1 t23v1_g t23v1_h hs hk
      subst t23v1_h
      refine hstep ys t14v1 t23v1 t24v1 t25v1 a_0v1 a_1v1 a_2v1 ?_
      have hs:p115_st1 P0 a (p115_lp1 P0 a k) t14v1 t23v1 t24v1 t25v1 a_0v1 a_1v1 a_2v1=true:=hs
      have hk:ys=(s115_st1 S0 a (s115_lp1 S0 a k) t14v1 t23v1 t24v1 t25v1 a_0v1 a_1v1 a_2v1).map (fun y=>[.agg (enc_118 y)]):=hk
      unfold p115_st1 at hs
      unfold s115_st1 at hk
      generalize s115_lp1 S0 a k=S1 at hk ih
      generalize p115_lp1 P0 a k=P1 at hs ih
      have hX1:=ih
      exact (condB_it hs hk
       (fun hs hk => (andK hs fun hc hs => ⟨hc, (condB_it hs hk
        (fun hs hk=>(hX1 _ t14v1 t23v1 t24v1 (w64 (t25v1+(1:Int))) a_0v1 a_1v1 a_2v1 (fun i=>enc_55 (t23v1.get i)) rfl hs hk))
        (fun hs hk=>(itY hk rfl (fun _ hk=>(itY hk rfl (fun _ hk=>(itY hk rfl (fun _ hk=>(itY hk rfl (fun _ hk=>(hX1 _ t14v1 t23v1 t24v1 (w64 (t25v1+(1:Int))) a_0v1 a_1v1 a_2v1 (fun i=>enc_55 (t23v1.get i)) rfl hs hk)))))))))))⟩))
       (fun hs hk=>(hX0 _ (w64 (t14v1+(1:Int))) hs hk)))
  exact key _ _ t14v1 t23v1 t24v1 t25v1 a_0v1 a_1v1 a_2v1 t23v1_g t23v1_h hs hk
def s115_st0 (a:list) (S0:Int→List straight) (t14v0:Int):List straight :=
  (cond (decide (t14v0 < (a.Gates.len : Int)))
   (s115_at1 S0 a t14v0 (⟨((a.Gates.len:Int) - (w64 (t14v0+(1:Int)))).toNat,(fun i=>a.Gates.get (i+((w64 (t14v0+(1:Int))).toNat)))⟩:Sl Gate) (((a.Gates.len:Int) - (w64 (t14v0+(1:Int)))).toNat:Int) (0:Int) ((a.Gates.get t14v0.toNat).Z) ((a.Gates.get t14v0.toNat).Low) ((a.Gates.get t14v0.toNat).High))
   [])
def p115_st0 (a:list) (P0:Int→Bool) (t14v0:Int):Bool :=
  (cond (decide (t14v0 < (a.Gates.len : Int)))
   (decide ((0≤t14v0∧t14v0 < (a.Gates.len:Int))) &&
   (decide ((0≤(w64 (t14v0+(1:Int)))∧(w64 (t14v0+(1:Int)))≤(a.Gates.len:Int)∧(a.Gates.len:Int)≤(a.Gates.len:Int))) &&
   (p115_at1 P0 a t14v0 (⟨((a.Gates.len:Int) - (w64 (t14v0+(1:Int)))).toNat,(fun i=>a.Gates.get (i+((w64 (t14v0+(1:Int))).toNat)))⟩:Sl Gate) (((a.Gates.len:Int) - (w64 (t14v0+(1:Int)))).toNat:Int) (0:Int) ((a.Gates.get t14v0.toNat).Z) ((a.Gates.get t14v0.toNat).Low) ((a.Gates.get t14v0.toNat).High))))
   true)
def s115_lp0 (a : list) : Nat → Int → List straight
  | 0=>fun _=>[]
  | k+1=>s115_st0 a (s115_lp0 a k)
def p115_lp0 (a : list) : Nat → Int → Bool
  | 0=>fun _=>false
  | k+1=>p115_st0 a (p115_lp0 a k)
def s115_at0 (a:list) (t14v0:Int):List straight:=s115_lp0 a Fuel t14v0
def p115_at0 (a:list) (t14v0:Int):Bool:=p115_lp0 a Fuel t14v0
theorem q115_at0 (l:Nat) (a:list) (ys:List (List PA)) (t14v0:Int) (hs:p115_at0 a t14v0=true) (hk:ys=(s115_at0 a t14v0).map (fun y=>[.agg (enc_118 y)])):f115_at0 l ys a t14v0:=by
  refine f115_loop0 l ys a t14v0 ?_
  intro X0 hstep
  have key:∀ (k:Nat) (ys:List (List PA)) (t14v0:Int),p115_lp0 a k t14v0=true→ys=(s115_lp0 a k t14v0).map (fun y=>[.agg (enc_118 y)])→X0 ys false (f115_g0 l a t14v0):=by
    intro k
    induction k with
    | zero=>intro ys t14v0 hs;exact absurd hs Bool.false_ne_true
    | succ k ih =>
      intro ys t14v0 hs hk
      refine hstep ys t14v0 ?_
      have hs:p115_st0 a (p115_lp0 a k) t14v0=true:=hs
      have hk:ys=(s115_st0 a (s115_lp0 a k) t14v0).map (fun y=>[.agg (enc_118 y)]):=hk
      unfold p115_st0 at hs
      unfold s115_st0 at hk
      generalize s115_lp0 a k=S0 at hk ih
      generalize p115_lp0 a k=P0 at hs ih
      have hX0:=ih
      exact (condB_it hs hk
       (fun hs hk=>(andK hs fun hc hs=>⟨hc,(andK hs fun hc hs=>⟨hc,(q115_at1 l a X0 P0 S0 hX0 _ t14v0 (⟨((a.Gates.len:Int) - (w64 (t14v0+(1:Int)))).toNat,(fun i=>a.Gates.get (i+((w64 (t14v0+(1:Int))).toNat)))⟩:Sl Gate) (((a.Gates.len:Int) - (w64 (t14v0+(1:Int)))).toNat:Int) (0:Int) ((a.Gates.get t14v0.toNat).Z) ((a.Gates.get t14v0.toNat).Low) ((a.Gates.get t14v0.toNat).High) (slG (fun i=>enc_55 (a.Gates.get i)) ((w64 (t14v0+(1:Int))).toNat)) rfl hs hk)⟩)⟩))
       (fun hs hk=>hk))
  exact key _ _ t14v0 hs hk
def s115 (a:list):List straight :=
  (s115_at0 a (0:Int))
def p115 (a:list):Bool :=
  (p115_at0 a (0:Int))
theorem q115 (l:Nat) (a:list) (ys:List (List PA)) (hs:p115 a=true) (hk:ys=(s115 a).map (fun y=>[.agg (enc_118 y)])):vcIter Try.prog G115 ann115 115 l [.one (.fp (enc_101 a) 0)] ys:=by
  refine ofEq (f115_top l a ys) ?_
  unfold p115 at hs
  unfold s115 at hk
  exact (q115_at0 l a _ (0:Int) hs hk)
def it115 : List PA → Option (Prop × List (List PA))
  | [.one (.fp [.sl a_Gates_n a_Gates_s a_Gates_g] 0)]=>some (IsE enc_55 3 a_Gates_s a_Gates_g∧p115 (⟨(⟨a_Gates_n,decF_55 a_Gates_g⟩:(Sl Gate))⟩:list)=true,(s115 (⟨(⟨a_Gates_n,decF_55 a_Gates_g⟩:(Sl Gate))⟩:list)).map fun y=>[.agg (enc_118 y)])
  | _=>none
theorem call115:Callable Try.prog 115:=⟨_,rfl,rfl,by kernel_rfl⟩
theorem ok115:ItOk Try.prog 115 it115:=it_tab okT115 call115 fun l caps safe ys h hs=>by
  unfold it115 at h
  split at h
  · rename_i a_Gates_n a_Gates_s a_Gates_g
    cases h
    obtain ⟨⟨rfl,a_Gates_f,rfl⟩,hs⟩:=hs
    try rw [decF_enc_55 a_Gates_f] at hs
    try rw [decF_enc_55 a_Gates_f]
    exact ⟨fun _ _=>[],fun _=>false,ann115,q115 l (⟨(⟨a_Gates_n,a_Gates_f⟩:(Sl Gate))⟩:list) _ hs rfl⟩
  · cases h
abbrev T65:Tabs:=(((((Tabs.nil.addF 67 ctr67).addF 79 ctr79).addF 96 ctr96).addF 97 ctr97).addI 115 it115)
theorem okT65:TabsOk Try.prog T65:=(((((TabsOk.nil.addF ok67).addF ok79).addF ok96).addF ok97).addI ok115)
abbrev G65:Ctrs:=csm T65 (fun _ _=>[]) (fun l=>Nat.beq l 14)
def ann65:Ann:=⟨39,[(0,⟨[0,2],[2],[],[],[],[],[]⟩),(1,⟨[2,3],[2,3],[],[],[],[],[]⟩),(2,⟨[2,3,12],[2,3],[],[],[],[],[]⟩),(3,⟨[2],[2],[],[],[],[],[]⟩),(4,⟨[2,3,4],[2,3,4,14],[],[],[],[],[]⟩),(5,⟨[2,3,4,17],[2,3,4,14],[],[],[],[],[]⟩),(6,⟨[2,3,4,5,17],[2,3,4,5,14,36],[],[],[],[],[]⟩),(7,⟨[2,3,4,5,6,17],[2,3,4,5,6,14,36],[],[],[],[],[]⟩),(8,⟨[2,3,4,5,6,17,29],[2,3,4,5,6,14,36],[],[],[],[],[]⟩),(9,⟨[2,3,4,5,17],[2,3,4,5,14,36],[],[],[],[],[]⟩),(10,⟨[2,3,4,17],[2,3,4,14,36],[],[],[],[],[]⟩),(11,⟨[2],[2,36],[],[],[],[],[]⟩)],
  [(6,⟨[2,3,4,17],[2,3,4,14,36],[],[(3,1,36,118,fun _=>enc_118 default)],[],[],[]⟩)],
  [(3,⟨[2,3,12],[2,3],[],[],[],[],[]⟩),(4,⟨[2,3],[2,3],[],[],[],[],[]⟩)],
  [],[]⟩
def f65_g0 (gates:(Sl Gate)) (t12v0:Bool):St:=⟨[(2,.one (.c (.ptr 2 0))),(3,.one (.c (.ptr 3 0))),(12,.one (.c (.p (.bool t12v0))))],[(2,.box 104 [.p (.nils),.p (.nils)]),(3,.box 104 [.p (.sl gates.len 3 (fun i=>enc_55 (gates.get i))),.p (.nils)])],[]⟩
def f65_at0 (K:List PA→Prop) (gates:(Sl Gate)) (t12v0:Bool):Prop:=vc Try.prog G65 ann65 (cdF Try.f65 [1,1,0,1]) (sqK Try.prog G65 ann65 (cdF Try.f65 [1,1,1]) (bodyK Try.prog Try.f65 K)) (f65_g0 gates t12v0)
def f65_g1 (gates:(Sl Gate)):St:=⟨[(2,.one (.c (.ptr 2 0))),(3,.one (.c (.ptr 3 0)))],[(2,.box 104 [.p (.nils),.p (.nils)]),(3,.box 104 [.p (.sl gates.len 3 (fun i=>enc_55 (gates.get i))),.p (.nils)])],[]⟩
def f65_at1 (K:List PA→Prop) (gates:(Sl Gate)):Prop:=vc Try.prog G65 ann65 (cdF Try.f65 [1,1,1]) (bodyK Try.prog Try.f65 K) (f65_g1 gates)
def f65_g2 (gates:(Sl Gate)) (v36v2_n:Nat) (v36v2_g:Nat→List PV) (m14v2_n:Nat) (m14v2_F:(List Int→Option (List Int))):St:=⟨[(2,.one (.c (.ptr 2 0))),(3,.one (.c (.ptr 3 0))),(4,.one (.c (.ptr 4 0))),(17,.one (.c (.p (.fn 115 [] [.fp (enc_101 (⟨gates⟩:list)) 0]))))],[(2,.box 104 [.p (.nils),.p (.nils)]),(3,.box 104 [.p (.sl gates.len 3 (fun i=>enc_55 (gates.get i))),.vec 36]),(4,.box 136 [.mo 14]),(14,.mo 37 4 (true,4,false,[none]) m14v2_n m14v2_F),(36,.vec 118 3 24 v36v2_n v36v2_g)],[]⟩
def f65_at2 (K:List PA→Prop) (gates:(Sl Gate)) (v36v2_n:Nat) (v36v2_g:Nat→List PV) (m14v2_n:Nat) (m14v2_F:(List Int→Option (List Int))):Prop:=vc Try.prog G65 ann65 (cdF Try.f65 [1,1,1,1,0,1,0]) (blockK 0 (sqK Try.prog G65 ann65 (cdF Try.f65 [1,1,1,1,1]) (bodyK Try.prog Try.f65 K))) (f65_g2 gates v36v2_n v36v2_g m14v2_n m14v2_F)
theorem f65_top (gates : (Sl Gate)) (K : List PA → Prop) :
  vcFun Try.prog G65 ann65 65 [.one (.sl gates.len 3 (fun i=>enc_55 (gates.get i)))] K =
  ((IsE enc_55 3 3 (fun i=>enc_55 (gates.get i))∧(p67 (⟨gates⟩:list)=true)) ∧
  (f65_at0 K gates (s67 (⟨gates⟩:list)))):=by kernel_rfl
theorem f65_eq0 (K : List PA → Prop) (gates : (Sl Gate)) (t12v0 : Bool) :
  f65_at0 K gates t12v0 =
  (condP t12v0
   (K [.agg [.sl gates.len 3 (fun i=>enc_55 (gates.get i)),.nils]])
   (f65_at1 K gates)):=by kernel_rfl
theorem f65_eq1 (K : List PA → Prop) (gates : (Sl Gate)) :
  f65_at1 K gates =
  ((IsE enc_55 3 3 (fun i=>enc_55 (gates.get i))) ∧
  (f65_at2 K gates 0 (fun i=>enc_118 ((fun _=>default) i)) 0 (fun _=>none))):=by kernel_rfl
def f65_exit2 (K:List PA→Prop) (gates:(Sl Gate)) (v36v2:(Sl straight)) (m14v2_n:Nat) (m14v2_F:(List Int→Option (List Int))):Prop :=
  (K [.agg [.sl gates.len 3 (fun i=>enc_55 (gates.get i)),.sl v36v2.len 3 (fun i=>enc_118 (v36v2.get i))]])
def f65_step2 (K:List PA→Prop) (X2:List (List PA)→St→Prop) (y2:straight) (rest2:List (List PA)) (gates:(Sl Gate)) (v36v2:(Sl straight)) (m14v2_n:Nat) (m14v2_F:(List Int→Option (List Int))):Prop :=
  (((p79 y2=true)) ∧
  (condP (!((nthO (m14v2_F [(s79 y2).Slope.Num, (s79 y2).Slope.Den, (s79 y2).Start.Num, (s79 y2).Start.Den]) 0) != 0))
   ((IsE enc_55 3 3 (fun i=>enc_55 (gates.get i))∧IsE enc_118 3 3 (fun i=>enc_118 (v36v2.get i))∧(p97 (⟨(⟨gates⟩:list),v36v2⟩:set) y2=true)) ∧
   (condP (s97 (⟨(⟨gates⟩ : list), v36v2⟩ : set) y2)
    ((((v36v2.len+1) * 24≤140737488355328∧v36v2.len+1≤9223372036854775807)) ∧
    (X2 rest2 (f65_g2 gates (v36v2.len+1) (appG v36v2.len (fun i=>enc_118 (v36v2.get i)) (fun _=>(enc_118 y2))) (addN (m14v2_F [(s79 y2).Slope.Num,(s79 y2).Slope.Den,(s79 y2).Start.Num,(s79 y2).Start.Den]) m14v2_n) (setM [(s79 y2).Slope.Num,(s79 y2).Slope.Den,(s79 y2).Start.Num,(s79 y2).Start.Den] [1] m14v2_F))))
    (X2 rest2 (f65_g2 gates v36v2.len (fun i=>enc_118 (v36v2.get i)) m14v2_n m14v2_F))))
   (X2 rest2 (f65_g2 gates v36v2.len (fun i=>enc_118 (v36v2.get i)) m14v2_n m14v2_F))))
theorem f65_exiteq2 (K:List PA→Prop) (gates:(Sl Gate)) (v36v2:(Sl straight)) (m14v2_n:Nat) (m14v2_F:(List Int→Option (List Int))):(blockK 0 (sqK Try.prog G65 ann65 (cdF Try.f65 [1,1,1,1,1]) (bodyK Try.prog Try.f65 K))) .normal (f65_g2 gates v36v2.len (fun i=>enc_118 (v36v2.get i)) m14v2_n m14v2_F)=f65_exit2 K gates v36v2 m14v2_n m14v2_F:=by kernel_rfl
theorem f65_stepeq2 (K : List PA → Prop) (X2 : List (List PA) → St → Prop) (y2 : straight) (rest2 : List (List PA)) (gates : (Sl Gate)) (v36v2 : (Sl straight)) (m14v2_n : Nat) (m14v2_F : (List Int → Option (List Int))) :
  rngB Try.prog G65 ann65 6 [18] (cd (cdF Try.f65 [1,1,1,1,0,1,0]) [0]) (cd (cdF Try.f65 [1,1,1,1,0,1,0]) [1]) X2 (blockK 0 (sqK Try.prog G65 ann65 (cdF Try.f65 [1,1,1,1,1]) (bodyK Try.prog Try.f65 K))) [.agg (enc_118 y2)] rest2 (f65_g2 gates v36v2.len (fun i=>enc_118 (v36v2.get i)) m14v2_n m14v2_F)=f65_step2 K X2 y2 rest2 gates v36v2 m14v2_n m14v2_F:=by kernel_rfl
theorem f65_loop2 (K : List PA → Prop) (gates : (Sl Gate)) (v36v2_n : Nat) (v36v2_g : Nat → List PV) (m14v2_n : Nat) (m14v2_F : (List Int → Option (List Int)))
  (hsafe:IsE enc_55 3 3 (fun i=>enc_55 ((⟨gates⟩:list).Gates.get i))∧(p115 (⟨gates⟩:list)=true)) (h:∀ X2:List (List PA)→St→Prop,(∀ (v36v2:(Sl straight)) (m14v2_n:Nat) (m14v2_F:(List Int→Option (List Int))),f65_exit2 K gates v36v2 m14v2_n m14v2_F→X2 [] (f65_g2 gates v36v2.len (fun i=>enc_118 (v36v2.get i)) m14v2_n m14v2_F))→(∀ (y:straight) (rest:List (List PA)) (v36v2:(Sl straight)) (m14v2_n:Nat) (m14v2_F:(List Int→Option (List Int))),f65_step2 K X2 y rest gates v36v2 m14v2_n m14v2_F→X2 ([.agg (enc_118 y)] :: rest) (f65_g2 gates v36v2.len (fun i=>enc_118 (v36v2.get i)) m14v2_n m14v2_F))→X2 ((s115 (⟨gates⟩:list)).map fun y=>[.agg (enc_118 y)]) (f65_g2 gates v36v2_n v36v2_g m14v2_n m14v2_F)) :
  f65_at2 K gates v36v2_n v36v2_g m14v2_n m14v2_F:=by
  have e:f65_at2 K gates v36v2_n v36v2_g m14v2_n m14v2_F=((IsE enc_55 3 3 (fun i=>enc_55 ((⟨gates⟩:list).Gates.get i))∧(p115 (⟨gates⟩:list)=true))∧∀ X:List (List PA)→St→Prop,(∀ s,(blockK 0 (sqK Try.prog G65 ann65 (cdF Try.f65 [1,1,1,1,1]) (bodyK Try.prog Try.f65 K))) .normal s→X [] s)→(∀ y rest s,rngB Try.prog G65 ann65 6 [18] (cd (cdF Try.f65 [1,1,1,1,0,1,0]) [0]) (cd (cdF Try.f65 [1,1,1,1,0,1,0]) [1]) X (blockK 0 (sqK Try.prog G65 ann65 (cdF Try.f65 [1,1,1,1,1]) (bodyK Try.prog Try.f65 K))) y rest s→X (y :: rest) s)→X ((s115 (⟨gates⟩:list)).map fun y=>[.agg (enc_118 y)]) (f65_g2 gates v36v2_n v36v2_g m14v2_n m14v2_F)):=by kernel_rfl
  refine ofEq e ⟨hsafe,?_⟩
  intro X h0 h1
  refine h X (fun v36v2 m14v2_n m14v2_F hs=>h0 _ ?_) (fun y rest v36v2 m14v2_n m14v2_F hs=>h1 _ rest _ ?_)
  · rw [f65_exiteq2 K gates v36v2 m14v2_n m14v2_F];exact hs
  · have e2 := f65_stepeq2 K X y rest gates v36v2 m14v2_n m14v2_F
    rw [e2];exact hs
abbrev e65 (r:set):List PA:=[.agg [.sl r.list.Gates.len 3 (fun i=>enc_55 (r.list.Gates.get i)),.sl r.corners.len 3 (fun i=>enc_118 (r.corners.get i))]]
attribute [irreducible] f65_at0 f65_at1 f65_at2
def s65_ex2 (gates:(Sl Gate)) (v36v2:(Sl straight)) (m14v2_n:Nat) (m14v2_F:(List Int→Option (List Int))):set :=
  (⟨(⟨gates⟩:list),v36v2⟩:set)
def p65_ex2 (gates:(Sl Gate)) (v36v2:(Sl straight)) (m14v2_n:Nat) (m14v2_F:(List Int→Option (List Int))):Bool :=
  true
def s65_st2 (gates:(Sl Gate)) (y2:straight) (S2:(Sl straight)→Nat→(List Int→Option (List Int))→set) (v36v2:(Sl straight)) (m14v2_n:Nat) (m14v2_F:(List Int→Option (List Int))):set :=
  (cond (!((nthO (m14v2_F [(s79 y2).Slope.Num, (s79 y2).Slope.Den, (s79 y2).Start.Num, (s79 y2).Start.Den]) 0) != 0))
   (cond (s97 (⟨(⟨gates⟩ : list), v36v2⟩ : set) y2)
    (S2 (⟨(v36v2.len+1),(appT v36v2.len v36v2.get (fun _=>y2))⟩:Sl straight) (addN (m14v2_F [(s79 y2).Slope.Num,(s79 y2).Slope.Den,(s79 y2).Start.Num,(s79 y2).Start.Den]) m14v2_n) (setM [(s79 y2).Slope.Num,(s79 y2).Slope.Den,(s79 y2).Start.Num,(s79 y2).Start.Den] [1] m14v2_F))
    (S2 v36v2 m14v2_n m14v2_F))
   (S2 v36v2 m14v2_n m14v2_F))
def p65_st2 (gates:(Sl Gate)) (y2:straight) (P2:(Sl straight)→Nat→(List Int→Option (List Int))→Bool) (v36v2:(Sl straight)) (m14v2_n:Nat) (m14v2_F:(List Int→Option (List Int))):Bool :=
  (decide ((p79 y2=true)) &&
  (cond (!((nthO (m14v2_F [(s79 y2).Slope.Num, (s79 y2).Slope.Den, (s79 y2).Start.Num, (s79 y2).Start.Den]) 0) != 0))
   (decide ((p97 (⟨(⟨gates⟩:list),v36v2⟩:set) y2=true)) &&
   (cond (s97 (⟨(⟨gates⟩ : list), v36v2⟩ : set) y2)
    (decide (((v36v2.len+1) * 24≤140737488355328∧v36v2.len+1≤9223372036854775807)) &&
    (P2 (⟨(v36v2.len+1),(appT v36v2.len v36v2.get (fun _=>y2))⟩:Sl straight) (addN (m14v2_F [(s79 y2).Slope.Num,(s79 y2).Slope.Den,(s79 y2).Start.Num,(s79 y2).Start.Den]) m14v2_n) (setM [(s79 y2).Slope.Num,(s79 y2).Slope.Den,(s79 y2).Start.Num,(s79 y2).Start.Den] [1] m14v2_F)))
    (P2 v36v2 m14v2_n m14v2_F)))
   (P2 v36v2 m14v2_n m14v2_F)))
def s65_lp2 (gates : (Sl Gate)) : List straight → (Sl straight) → Nat → (List Int → Option (List Int)) → set
  | []=>s65_ex2 gates
  | y :: r=>s65_st2 gates y (s65_lp2 gates r)
def p65_lp2 (gates : (Sl Gate)) : List straight → (Sl straight) → Nat → (List Int → Option (List Int)) → Bool
  | []=>p65_ex2 gates
  | y :: r=>p65_st2 gates y (p65_lp2 gates r)
def s65_at2 (gates:(Sl Gate)) (v36v2:(Sl straight)) (m14v2_n:Nat) (m14v2_F:(List Int→Option (List Int))):set:=s65_lp2 gates (s115 (⟨gates⟩:list)) v36v2 m14v2_n m14v2_F
def p65_at2 (gates:(Sl Gate)) (v36v2:(Sl straight)) (m14v2_n:Nat) (m14v2_F:(List Int→Option (List Int))):Bool:=decide ((p115 (⟨gates⟩:list)=true)) && p65_lp2 gates (s115 (⟨gates⟩:list)) v36v2 m14v2_n m14v2_F
theorem q65_at2 (K:List PA→Prop) (gates:(Sl Gate)) (v36v2:(Sl straight)) (m14v2_n:Nat) (m14v2_F:(List Int→Option (List Int))) (v36v2_g:Nat→List PV) (v36v2_h:v36v2_g=fun i=>enc_118 (v36v2.get i)) (hs:p65_at2 gates v36v2 m14v2_n m14v2_F=true) (hk:K (e65 (s65_at2 gates v36v2 m14v2_n m14v2_F))):f65_at2 (Wk K) gates v36v2.len v36v2_g m14v2_n m14v2_F:=by
  unfold p65_at2 at hs
  rw [Bool.and_eq_true] at hs
  obtain ⟨hsf,hs⟩:=hs
  have hc:=of_decide_eq_true hsf
  refine f65_loop2 (Wk K) gates v36v2.len v36v2_g m14v2_n m14v2_F ⟨isE,hc⟩ ?_
  intro X2 hexit hstep
  have key:∀ (l:List straight) (v36v2:(Sl straight)) (m14v2_n:Nat) (m14v2_F:(List Int→Option (List Int))) (v36v2_g:Nat→List PV) (v36v2_h:v36v2_g=fun i=>enc_118 (v36v2.get i)),p65_lp2 gates l v36v2 m14v2_n m14v2_F=true→K (e65 (s65_lp2 gates l v36v2 m14v2_n m14v2_F))→X2 (l.map fun y=>[.agg (enc_118 y)]) (f65_g2 gates v36v2.len v36v2_g m14v2_n m14v2_F):=by
    intro l
    induction l with
    | nil =>
      intro v36v2 m14v2_n m14v2_F v36v2_g v36v2_h hs hk
      subst v36v2_h
      refine hexit v36v2 m14v2_n m14v2_F ?_
      have hs:p65_ex2 gates v36v2 m14v2_n m14v2_F=true:=hs
      have hk:K (e65 (s65_ex2 gates v36v2 m14v2_n m14v2_F)):=hk
      unfold p65_ex2 at hs
      unfold s65_ex2 at hk
      exact (wk_rfl hk)
    | cons y2 l ih =>
      intro v36v2 m14v2_n m14v2_F v36v2_g v36v2_h hs hk
      subst v36v2_h
      refine hstep y2 _ v36v2 m14v2_n m14v2_F ?_
      have hs:p65_st2 gates y2 (p65_lp2 gates l) v36v2 m14v2_n m14v2_F=true:=hs
      have hk:K (e65 (s65_st2 gates y2 (s65_lp2 gates l) v36v2 m14v2_n m14v2_F)):=hk
      unfold p65_st2 at hs
      unfold s65_st2 at hk
      generalize s65_lp2 gates l=S2 at hk ih
      generalize p65_lp2 gates l=P2 at hs ih
      have hX2:=ih
      exact (andK hs fun hc hs => ⟨hc, (condB_go (K := fun r => K (e65 r))
       (fun hs hk => (andK hs fun hc hs => ⟨⟨isE, isE, hc⟩, (condB_go (K := fun r => K (e65 r))
        (fun hs hk=>(andK hs fun hc hs=>⟨hc,(hX2 (⟨(v36v2.len+1),(appT v36v2.len v36v2.get (fun _=>y2))⟩:Sl straight) (addN (m14v2_F [(s79 y2).Slope.Num,(s79 y2).Slope.Den,(s79 y2).Start.Num,(s79 y2).Start.Den]) m14v2_n) (setM [(s79 y2).Slope.Num,(s79 y2).Slope.Den,(s79 y2).Start.Num,(s79 y2).Start.Den] [1] m14v2_F) (appG v36v2.len (fun i=>enc_118 (v36v2.get i)) (fun _=>(enc_118 y2))) (appG_e (enc:=enc_118) (f:=v36v2.get) (h:=(fun _=>y2)) rfl rfl) hs hk)⟩))
        (fun hs hk=>(hX2 v36v2 m14v2_n m14v2_F (fun i=>enc_118 (v36v2.get i)) rfl hs hk)) hs hk)⟩))
       (fun hs hk=>(hX2 v36v2 m14v2_n m14v2_F (fun i=>enc_118 (v36v2.get i)) rfl hs hk)) hs hk)⟩)
  exact key _ v36v2 m14v2_n m14v2_F v36v2_g v36v2_h hs hk
def s65_at1 (gates:(Sl Gate)):set :=
  (s65_at2 gates (⟨0,(fun _=>default)⟩:Sl straight) 0 (fun _=>none))
def p65_at1 (gates:(Sl Gate)):Bool :=
  (p65_at2 gates (⟨0,(fun _=>default)⟩:Sl straight) 0 (fun _=>none))
theorem q65_at1 (K:List PA→Prop) (gates:(Sl Gate)) (hs:p65_at1 gates=true) (hk:K (e65 (s65_at1 gates))):f65_at1 (Wk K) gates:=by
  refine ofEq (f65_eq1 (Wk K) gates) ?_
  unfold p65_at1 at hs
  unfold s65_at1 at hk
  exact ⟨isE,(q65_at2 K gates (⟨0,(fun _=>default)⟩:Sl straight) 0 (fun _=>none) (fun i=>enc_118 ((fun _=>default) i)) rfl hs hk)⟩
def s65_at0 (gates:(Sl Gate)) (t12v0:Bool):set :=
  (cond t12v0
   (⟨(⟨gates⟩:list),(⟨0,fun _=>default⟩:(Sl straight))⟩:set)
   (s65_at1 gates))
def p65_at0 (gates:(Sl Gate)) (t12v0:Bool):Bool :=
  (cond t12v0
   true
   (p65_at1 gates))
theorem q65_at0 (K:List PA→Prop) (gates:(Sl Gate)) (t12v0:Bool) (hs:p65_at0 gates t12v0=true) (hk:K (e65 (s65_at0 gates t12v0))):f65_at0 (Wk K) gates t12v0:=by
  refine ofEq (f65_eq0 (Wk K) gates t12v0) ?_
  unfold p65_at0 at hs
  unfold s65_at0 at hk
  exact (condB_go (K := fun r => K (e65 r))
   (fun hs hk=>(wk hk (rl_c (.agg (rl_c (.rfl _) (rl_c (.nil _ _) rl_n))) rl_n)))
   (fun hs hk=>(q65_at1 K gates hs hk)) hs hk)
def s65 (gates:(Sl Gate)):set :=
  (s65_at0 gates (s67 (⟨gates⟩:list)))
def p65 (gates:(Sl Gate)):Bool :=
  (decide ((p67 (⟨gates⟩:list)=true)) &&
  (p65_at0 gates (s67 (⟨gates⟩:list))))
theorem q65 (gates:(Sl Gate)) (K:List PA→Prop) (hs:p65 gates=true) (hk:K (e65 (s65 gates))):vcFun Try.prog G65 ann65 65 [.one (.sl gates.len 3 (fun i=>enc_55 (gates.get i)))] (Wk K):=by
  refine ofEq (f65_top gates (Wk K)) ?_
  unfold p65 at hs
  unfold s65 at hk
  exact (andK hs fun hc hs=>⟨⟨isE,hc⟩,(q65_at0 K gates (s67 (⟨gates⟩:list)) hs hk)⟩)
def ctr65 : List PA → COut
  | [.one (.sl a0_n a0_s a0_g)]=>.det (IsE enc_55 3 a0_s a0_g∧p65 (⟨a0_n,decF_55 a0_g⟩:(Sl Gate))=true) [.agg [.sl ((s65 (⟨a0_n,decF_55 a0_g⟩:(Sl Gate))).list.Gates.len) 3 (fun i=>enc_55 ((s65 (⟨a0_n,decF_55 a0_g⟩:(Sl Gate))).list.Gates.get i)),.sl ((s65 (⟨a0_n,decF_55 a0_g⟩:(Sl Gate))).corners.len) 3 (fun i=>enc_118 ((s65 (⟨a0_n,decF_55 a0_g⟩:(Sl Gate))).corners.get i))]]
  | _=>.no
theorem call65:Callable Try.prog 65:=⟨_,rfl,rfl,by kernel_rfl⟩
theorem ok65:Ok Try.prog 65 ctr65:=ok_tabW okT65 call65 fun args K h=>by
  unfold ctr65 at h
  split at h
  · rename_i a0_n a0_s a0_g
    obtain ⟨⟨⟨rfl,a0_f,rfl⟩,hs⟩,hk⟩:=h
    try rw [decF_enc_55 a0_f] at hs
    try rw [decF_enc_55 a0_f] at hk
    exact ⟨_,rl_rfl pa_rfl _,(fun _ _=>[]),(fun l=>Nat.beq l 14),ann65,q65 (⟨a0_n,a0_f⟩:(Sl Gate)) K hs hk⟩
  · exact h.elim
end Go.Proofs
namespace Go.Proofs
open Go Go.Pm
set_option maxRecDepth 100000
set_option linter.unusedVariables false
attribute [local irreducible] Go.Pm.vcFun Go.Pm.vc Go.Pm.vcIter
abbrev T98:Tabs:=Tabs.nil
theorem okT98:TabsOk Try.prog T98:=TabsOk.nil
abbrev G98:Ctrs:=csm T98 (fun _ _=>[]) (fun _=>false)
def ann98:Ann:=⟨38,[(0,⟨[1,2],[1,2],[],[],[],[],[]⟩),(1,⟨[1,2,3],[1,2,3],[],[],[],[],[]⟩),(2,⟨[2,3,18,19,20],[2,3],[],[],[],[],[]⟩),(3,⟨[2,3,18,19,20,21],[2,3],[],[],[],[],[]⟩),(4,⟨[2,3,5,18,19,20],[2,3,5],[],[],[],[],[]⟩),(5,⟨[2,3,18,19,20],[2,3],[],[],[],[],[]⟩),(6,⟨[2,3,18,19,20],[2,3],[],[],[],[],[]⟩),(7,⟨[2],[2],[],[],[],[],[]⟩)],
  [(3,⟨[2,3,18,19,20],[2,3],[],[],[],[],[]⟩)],
  [],
  [],[]⟩
def f98_g0 (l_a0:list) (t20v0:Int) (out_0v0:Int) (out_1v0:Int):St:=⟨[(2,.one (.c (.ptr 2 0))),(3,.one (.c (.ptr 3 0))),(18,.one (.c (.p (.sl l_a0.Gates.len 3 (fun i=>enc_55 (l_a0.Gates.get i)))))),(19,.one (.c (.p (.int .i64 (l_a0.Gates.len:Int))))),(20,.one (.c (.p (.int .i64 t20v0))))],[(2,.box 96 [.p (.int .i64 (0:Int)),.p (.int .i64 (0:Int))]),(3,.box 96 [.p (.int .i64 out_0v0),.p (.int .i64 out_1v0)])],[]⟩
def f98_at0 (K:List PA→Prop) (l_a0:list) (t20v0:Int) (out_0v0:Int) (out_1v0:Int):Prop:=vc Try.prog G98 ann98 (cdF Try.f98 [1,1,0,1,0]) (blockK 0 (sqK Try.prog G98 ann98 (cdF Try.f98 [1,1,1]) (bodyK Try.prog Try.f98 K))) (f98_g0 l_a0 t20v0 out_0v0 out_1v0)
theorem f98_top (l_a0 : list) (K : List PA → Prop) :
  vcFun Try.prog G98 ann98 98 [.agg [.sl l_a0.Gates.len 3 (fun i=>enc_55 (l_a0.Gates.get i))]] K =
  (((0≤(0:Int)∧(0:Int) < (l_a0.Gates.len:Int))) ∧
  (((0≤(0:Int)∧(0:Int) < (l_a0.Gates.len:Int))) ∧
  (f98_at0 K l_a0 (0:Int) ((l_a0.Gates.get 0).Low) ((l_a0.Gates.get 0).High)))):=by kernel_rfl
def f98_step0 (K:List PA→Prop) (X0:St→Prop) (l_a0:list) (t20v0:Int) (out_0v0:Int) (out_1v0:Int):Prop :=
  (condP (decide (t20v0 < (l_a0.Gates.len : Int)))
   (((0≤t20v0∧t20v0 < (l_a0.Gates.len:Int))) ∧
   (X0 (f98_g0 l_a0 (w64 (t20v0+(1:Int))) (if (l_a0.Gates.get t20v0.toNat).Low > out_0v0 then (l_a0.Gates.get t20v0.toNat).Low else out_0v0) (if (l_a0.Gates.get t20v0.toNat).High < out_1v0 then (l_a0.Gates.get t20v0.toNat).High else out_1v0))))
   (K [.agg [.int .i64 out_0v0,.int .i64 out_1v0]]))
theorem f98_stepeq0 (K : List PA → Prop) (X0 : St → Prop) (l_a0 : list) (t20v0 : Int) (out_0v0 : Int) (out_1v0 : Int) :
  vc Try.prog G98 ann98 (cd (cdF Try.f98 [1,1,0,1,0]) [0]) (loopK Try.prog ann98 3 X0 (blockK 0 (sqK Try.prog G98 ann98 (cdF Try.f98 [1,1,1]) (bodyK Try.prog Try.f98 K)))) (f98_g0 l_a0 t20v0 out_0v0 out_1v0) =
  f98_step0 K X0 l_a0 t20v0 out_0v0 out_1v0:=by kernel_rfl
theorem f98_loop0 (K : List PA → Prop) (l_a0 : list) (t20v0 : Int) (out_0v0 : Int) (out_1v0 : Int)
  (h:∀ X0:St→Prop,(∀ (t20v0:Int) (out_0v0:Int) (out_1v0:Int),f98_step0 K X0 l_a0 t20v0 out_0v0 out_1v0→X0 (f98_g0 l_a0 t20v0 out_0v0 out_1v0))→X0 (f98_g0 l_a0 t20v0 out_0v0 out_1v0)) :
  f98_at0 K l_a0 t20v0 out_0v0 out_1v0:=by
  have e:f98_at0 K l_a0 t20v0 out_0v0 out_1v0=(∀ X:St→Prop,(∀ s,vc Try.prog G98 ann98 (cd (cdF Try.f98 [1,1,0,1,0]) [0]) (loopK Try.prog ann98 3 X (blockK 0 (sqK Try.prog G98 ann98 (cdF Try.f98 [1,1,1]) (bodyK Try.prog Try.f98 K)))) s→X s)→X (f98_g0 l_a0 t20v0 out_0v0 out_1v0)):=by kernel_rfl
  refine ofEq e ?_
  intro X hX
  refine h X ?_
  intro t20v0 out_0v0 out_1v0 hs
  refine hX _ ?_
  have e2:=f98_stepeq0 K X l_a0 t20v0 out_0v0 out_1v0
  rw [e2]
  exact hs
abbrev e98 (r:Span):List PA:=[.agg [.int .i64 r.Low,.int .i64 r.High]]
attribute [irreducible] f98_at0
def s98_st0 (l_a0:list) (S0:Int→Int→Int→Span) (t20v0:Int) (out_0v0:Int) (out_1v0:Int):Span :=
  (cond (decide (t20v0 < (l_a0.Gates.len : Int)))
   (S0 (w64 (t20v0+(1:Int))) (if (l_a0.Gates.get t20v0.toNat).Low > out_0v0 then (l_a0.Gates.get t20v0.toNat).Low else out_0v0) (if (l_a0.Gates.get t20v0.toNat).High < out_1v0 then (l_a0.Gates.get t20v0.toNat).High else out_1v0))
   (⟨out_0v0,out_1v0⟩:Span))
def p98_st0 (l_a0:list) (P0:Int→Int→Int→Bool) (t20v0:Int) (out_0v0:Int) (out_1v0:Int):Bool :=
  (cond (decide (t20v0 < (l_a0.Gates.len : Int)))
   (decide ((0≤t20v0∧t20v0 < (l_a0.Gates.len:Int))) &&
   (P0 (w64 (t20v0+(1:Int))) (if (l_a0.Gates.get t20v0.toNat).Low > out_0v0 then (l_a0.Gates.get t20v0.toNat).Low else out_0v0) (if (l_a0.Gates.get t20v0.toNat).High < out_1v0 then (l_a0.Gates.get t20v0.toNat).High else out_1v0)))
   true)
def s98_lp0 (l_a0 : list) : Nat → Int → Int → Int → Span
  | 0=>fun _ _ _=>default
  | k+1=>s98_st0 l_a0 (s98_lp0 l_a0 k)
def p98_lp0 (l_a0 : list) : Nat → Int → Int → Int → Bool
  | 0=>fun _ _ _=>false
  | k+1=>p98_st0 l_a0 (p98_lp0 l_a0 k)
def s98_at0 (l_a0:list) (t20v0:Int) (out_0v0:Int) (out_1v0:Int):Span:=s98_lp0 l_a0 Fuel t20v0 out_0v0 out_1v0
def p98_at0 (l_a0:list) (t20v0:Int) (out_0v0:Int) (out_1v0:Int):Bool:=p98_lp0 l_a0 Fuel t20v0 out_0v0 out_1v0
theorem q98_at0 (K:List PA→Prop) (l_a0:list) (t20v0:Int) (out_0v0:Int) (out_1v0:Int) (hs:p98_at0 l_a0 t20v0 out_0v0 out_1v0=true) (hk:K (e98 (s98_at0 l_a0 t20v0 out_0v0 out_1v0))):f98_at0 K l_a0 t20v0 out_0v0 out_1v0:=by
  refine f98_loop0 K l_a0 t20v0 out_0v0 out_1v0 ?_
  intro X0 hstep
  have key:∀ (k:Nat) (t20v0:Int) (out_0v0:Int) (out_1v0:Int),p98_lp0 l_a0 k t20v0 out_0v0 out_1v0=true→K (e98 (s98_lp0 l_a0 k t20v0 out_0v0 out_1v0))→X0 (f98_g0 l_a0 t20v0 out_0v0 out_1v0):=by
    intro k
    induction k with
    | zero=>intro t20v0 out_0v0 out_1v0 hs;exact absurd hs Bool.false_ne_true
    | succ k ih =>
      intro t20v0 out_0v0 out_1v0 hs hk
      refine hstep t20v0 out_0v0 out_1v0 ?_
      have hs:p98_st0 l_a0 (p98_lp0 l_a0 k) t20v0 out_0v0 out_1v0=true:=hs
      have hk:K (e98 (s98_st0 l_a0 (s98_lp0 l_a0 k) t20v0 out_0v0 out_1v0)):=hk
      unfold p98_st0 at hs
      unfold s98_st0 at hk
      generalize s98_lp0 l_a0 k=S0 at hk ih
      generalize p98_lp0 l_a0 k=P0 at hs ih
      have hX0:=ih
      exact (condB_go (K := fun r => K (e98 r))
       (fun hs hk=>(andK hs fun hc hs=>⟨hc,(hX0 (w64 (t20v0+(1:Int))) (if (l_a0.Gates.get t20v0.toNat).Low > out_0v0 then (l_a0.Gates.get t20v0.toNat).Low else out_0v0) (if (l_a0.Gates.get t20v0.toNat).High < out_1v0 then (l_a0.Gates.get t20v0.toNat).High else out_1v0) hs hk)⟩))
       (fun hs hk=>hk) hs hk)
  exact key _ t20v0 out_0v0 out_1v0 hs hk
def s98 (l_a0:list):Span :=
  (s98_at0 l_a0 (0:Int) ((l_a0.Gates.get 0).Low) ((l_a0.Gates.get 0).High))
def p98 (l_a0:list):Bool :=
  (decide ((0≤(0:Int)∧(0:Int) < (l_a0.Gates.len:Int))) &&
  (decide ((0≤(0:Int)∧(0:Int) < (l_a0.Gates.len:Int))) &&
  (p98_at0 l_a0 (0:Int) ((l_a0.Gates.get 0).Low) ((l_a0.Gates.get 0).High))))
theorem q98 (l_a0:list) (K:List PA→Prop) (hs:p98 l_a0=true) (hk:K (e98 (s98 l_a0))):vcFun Try.prog G98 ann98 98 [.agg [.sl l_a0.Gates.len 3 (fun i=>enc_55 (l_a0.Gates.get i))]] K:=by
  refine ofEq (f98_top l_a0 K) ?_
  unfold p98 at hs
  unfold s98 at hk
  exact (andK hs fun hc hs=>⟨hc,(andK hs fun hc hs=>⟨hc,(q98_at0 K l_a0 (0:Int) ((l_a0.Gates.get 0).Low) ((l_a0.Gates.get 0).High) hs hk)⟩)⟩)
def ctr98 : List PA → COut
  | [.agg [.sl a0_Gates_n a0_Gates_s a0_Gates_g]]=>.det (IsE enc_55 3 a0_Gates_s a0_Gates_g∧p98 (⟨(⟨a0_Gates_n,decF_55 a0_Gates_g⟩:(Sl Gate))⟩:list)=true) [.agg [.int .i64 ((s98 (⟨(⟨a0_Gates_n,decF_55 a0_Gates_g⟩:(Sl Gate))⟩:list)).Low),.int .i64 ((s98 (⟨(⟨a0_Gates_n,decF_55 a0_Gates_g⟩:(Sl Gate))⟩:list)).High)]]
  | _=>.no
theorem call98:Callable Try.prog 98:=⟨_,rfl,rfl,by kernel_rfl⟩
theorem ok98:Ok Try.prog 98 ctr98:=ok_tab okT98 call98 fun args K h=>by
  unfold ctr98 at h
  split at h
  · rename_i a0_Gates_n a0_Gates_s a0_Gates_g
    obtain ⟨⟨⟨rfl,a0_Gates_f,rfl⟩,hs⟩,hk⟩:=h
    try rw [decF_enc_55 a0_Gates_f] at hs
    try rw [decF_enc_55 a0_Gates_f] at hk
    exact ⟨(fun _ _=>[]),(fun _=>false),ann98,q98 (⟨(⟨a0_Gates_n,a0_Gates_f⟩:(Sl Gate))⟩:list) K hs hk⟩
  · exact h.elim
abbrev T66:Tabs:=((Tabs.nil.addF 67 ctr67).addF 98 ctr98)
theorem okT66:TabsOk Try.prog T66:=((TabsOk.nil.addF ok67).addF ok98)
abbrev G66:Ctrs:=csm T66 (fun _ _=>[]) (fun _=>false)
def ann66:Ann:=⟨19,[(0,⟨[1],[1],[],[],[],[],[]⟩),(1,⟨[1,3],[1,3],[],[],[],[],[]⟩),(2,⟨[1,3,9],[1,3],[],[],[],[],[]⟩),(3,⟨[2],[],[],[],[],[],[]⟩),(4,⟨[2],[],[],[],[],[],[]⟩)],
  [],
  [],
  [],[]⟩
theorem f66_top (s : set) (K : List PA → Prop) :
  vcFun Try.prog G66 ann66 66 [.agg [.sl s.list.Gates.len 3 (fun i=>enc_55 (s.list.Gates.get i)),.sl s.corners.len 3 (fun i=>enc_118 (s.corners.get i))]] K =
  ((IsE enc_55 3 3 (fun i=>enc_55 (s.list.Gates.get i))∧(p98 s.list=true)) ∧
  ((IsE enc_55 3 3 (fun i=>enc_55 (s.list.Gates.get i))∧(p67 s.list=true)) ∧
  (condP (s67 s.list)
   (K [.one (.bool (decide ((s98 s.list).Low≤(s98 s.list).High)))])
   (K [.one (.bool (decide ((s.corners.len:Int) > (0:Int))))])))):=by kernel_rfl
abbrev e66 (r:Bool):List PA:=[.one (.bool r)]
def s66 (s:set):Bool :=
  (cond (s67 s.list)
   (decide ((s98 s.list).Low≤(s98 s.list).High))
   (decide ((s.corners.len:Int) > (0:Int))))
def p66 (s:set):Bool :=
  (decide ((p98 s.list=true)) &&
  (decide ((p67 s.list=true)) &&
  true))
theorem q66 (s:set) (K:List PA→Prop) (hs:p66 s=true) (hk:K (e66 (s66 s))):vcFun Try.prog G66 ann66 66 [.agg [.sl s.list.Gates.len 3 (fun i=>enc_55 (s.list.Gates.get i)),.sl s.corners.len 3 (fun i=>enc_118 (s.corners.get i))]] K:=by
  refine ofEq (f66_top s K) ?_
  unfold p66 at hs
  unfold s66 at hk
  exact (andK hs fun hc hs => ⟨⟨isE, hc⟩, (andK hs fun hc hs => ⟨⟨isE, hc⟩, (condP_gt (K := fun r => K (e66 r))
   (fun hk=>hk)
   (fun hk=>hk) hk)⟩)⟩)
def ctr66 : List PA → COut
  | [.agg [.sl a0_list_Gates_n a0_list_Gates_s a0_list_Gates_g,.sl a0_corners_n a0_corners_s a0_corners_g]]=>.det (IsE enc_55 3 a0_list_Gates_s a0_list_Gates_g∧IsE enc_118 3 a0_corners_s a0_corners_g∧p66 (⟨(⟨(⟨a0_list_Gates_n,decF_55 a0_list_Gates_g⟩:(Sl Gate))⟩:list),(⟨a0_corners_n,decF_118 a0_corners_g⟩:(Sl straight))⟩:set)=true) [.one (.bool (s66 (⟨(⟨(⟨a0_list_Gates_n,decF_55 a0_list_Gates_g⟩:(Sl Gate))⟩:list),(⟨a0_corners_n,decF_118 a0_corners_g⟩:(Sl straight))⟩:set)))]
  | _=>.no
theorem call66:Callable Try.prog 66:=⟨_,rfl,rfl,by kernel_rfl⟩
theorem ok66:Ok Try.prog 66 ctr66:=ok_tab okT66 call66 fun args K h=>by
  unfold ctr66 at h
  split at h
  · rename_i a0_list_Gates_n a0_list_Gates_s a0_list_Gates_g a0_corners_n a0_corners_s a0_corners_g
    obtain ⟨⟨⟨rfl,a0_list_Gates_f,rfl⟩,⟨rfl,a0_corners_f,rfl⟩,hs⟩,hk⟩:=h
    try rw [decF_enc_55 a0_list_Gates_f] at hs
    try rw [decF_enc_55 a0_list_Gates_f] at hk
    try rw [decF_enc_118 a0_corners_f] at hs
    try rw [decF_enc_118 a0_corners_f] at hk
    exact ⟨(fun _ _=>[]),(fun _=>false),ann66,q66 (⟨(⟨(⟨a0_list_Gates_n,a0_list_Gates_f⟩:(Sl Gate))⟩:list),(⟨a0_corners_n,a0_corners_f⟩:(Sl straight))⟩:set) K hs hk⟩
  · exact h.elim
abbrev T83:Tabs:=Tabs.nil
theorem okT83:TabsOk Try.prog T83:=TabsOk.nil
abbrev G83:Ctrs:=csm T83 (fun _ _=>[]) (fun _=>false)
def ann83:Ann:=⟨8,[(0,⟨[1,2],[1,2],[],[],[],[],[]⟩),(1,⟨[2],[2],[],[],[],[],[]⟩)],
  [],
  [],
  [],[]⟩
theorem f83_top (x : straight) (K : List PA → Prop) :
  vcFun Try.prog G83 ann83 83 [.agg [.int .i64 x.slope,.int .i64 x.start,.int .i64 x.den]] K =
  (K [.agg [.int .i64 x.slope,.int .i64 x.den]]):=by kernel_rfl
abbrev e83 (r:Frac):List PA:=[.agg [.int .i64 r.Num,.int .i64 r.Den]]
def s83 (x:straight):Frac :=
  (⟨x.slope,x.den⟩:Frac)
theorem q83 (x:straight) (K:List PA→Prop) (hk:K (e83 (s83 x))):vcFun Try.prog G83 ann83 83 [.agg [.int .i64 x.slope,.int .i64 x.start,.int .i64 x.den]] K:=by
  refine ofEq (f83_top x K) ?_
  unfold s83 at hk
  exact hk
def ctr83 : List PA → COut
  | [.agg [.int .i64 a0_slope,.int .i64 a0_start,.int .i64 a0_den]]=>.tot [.agg [.int .i64 ((s83 (⟨a0_slope,a0_start,a0_den⟩:straight)).Num),.int .i64 ((s83 (⟨a0_slope,a0_start,a0_den⟩:straight)).Den)]]
  | _=>.no
theorem call83:Callable Try.prog 83:=⟨_,rfl,rfl,by kernel_rfl⟩
theorem ok83:Ok Try.prog 83 ctr83:=ok_tab okT83 call83 fun args K h=>by
  unfold ctr83 at h
  split at h
  · rename_i a0_slope a0_start a0_den
    have hk:=h
    exact ⟨(fun _ _=>[]),(fun _=>false),ann83,q83 (⟨a0_slope,a0_start,a0_den⟩:straight) K hk⟩
  · exact h.elim
abbrev T102:Tabs:=Tabs.nil
theorem okT102:TabsOk Try.prog T102:=TabsOk.nil
abbrev G102:Ctrs:=csm T102 (fun _ _=>[]) (fun _=>false)
def ann102:Ann:=⟨15,[(0,⟨[1,2,4],[2,4],[],[],[],[],[]⟩),(1,⟨[4],[4],[],[],[],[],[]⟩)],
  [],
  [],
  [],[]⟩
theorem f102_top (s : straight) (z : Int) (K : List PA → Prop) :
  vcFun Try.prog G102 ann102 102 [.agg [.int .i64 s.slope,.int .i64 s.start,.int .i64 s.den],.one (.int .i64 z)] K =
  (K [.agg [.int .i64 (w64 (s.start+(w64 (s.slope * z)))),.int .i64 s.den]]):=by kernel_rfl
abbrev e102 (r:Frac):List PA:=[.agg [.int .i64 r.Num,.int .i64 r.Den]]
def s102 (s:straight) (z:Int):Frac :=
  (⟨(w64 (s.start+(w64 (s.slope * z)))),s.den⟩:Frac)
theorem q102 (s:straight) (z:Int) (K:List PA→Prop) (hk:K (e102 (s102 s z))):vcFun Try.prog G102 ann102 102 [.agg [.int .i64 s.slope,.int .i64 s.start,.int .i64 s.den],.one (.int .i64 z)] K:=by
  refine ofEq (f102_top s z K) ?_
  unfold s102 at hk
  exact hk
def ctr102 : List PA → COut
  | [.agg [.int .i64 a0_slope,.int .i64 a0_start,.int .i64 a0_den],.one (.int .i64 a1)]=>.tot [.agg [.int .i64 ((s102 (⟨a0_slope,a0_start,a0_den⟩:straight) a1).Num),.int .i64 ((s102 (⟨a0_slope,a0_start,a0_den⟩:straight) a1).Den)]]
  | _=>.no
theorem call102:Callable Try.prog 102:=⟨_,rfl,rfl,by kernel_rfl⟩
theorem ok102:Ok Try.prog 102 ctr102:=ok_tab okT102 call102 fun args K h=>by
  unfold ctr102 at h
  split at h
  · rename_i a0_slope a0_start a0_den a1
    have hk:=h
    exact ⟨(fun _ _=>[]),(fun _=>false),ann102,q102 (⟨a0_slope,a0_start,a0_den⟩:straight) a1 K hk⟩
  · exact h.elim
abbrev T101:Tabs:=(Tabs.nil.addF 102 ctr102)
theorem okT101:TabsOk Try.prog T101:=(TabsOk.nil.addF ok102)
abbrev G101:Ctrs:=csm T101 (fun _ _=>[]) (fun _=>false)
def ann101:Ann:=⟨7,[(0,⟨[1,2,3],[2,3],[],[],[],[],[]⟩),(1,⟨[3],[3],[],[],[],[],[]⟩)],
  [],
  [],
  [],[]⟩
theorem f101_top (c0 : Int) (x : straight) (K : List PA → Prop) :
  vcFun Try.prog G101 ann101 101 [.agg [.int .i64 x.slope,.int .i64 x.start,.int .i64 x.den],.one (.fp (enc_3 c0) 0)] K =
  (K [.agg [.int .i64 ((s102 x c0).Num),.int .i64 ((s102 x c0).Den)]]):=by kernel_rfl
abbrev e101 (r:Frac):List PA:=[.agg [.int .i64 r.Num,.int .i64 r.Den]]
def s101 (c0:Int) (x:straight):Frac :=
  (s102 x c0)
theorem q101 (c0:Int) (x:straight) (K:List PA→Prop) (hk:K (e101 (s101 c0 x))):vcFun Try.prog G101 ann101 101 [.agg [.int .i64 x.slope,.int .i64 x.start,.int .i64 x.den],.one (.fp (enc_3 c0) 0)] K:=by
  refine ofEq (f101_top c0 x K) ?_
  unfold s101 at hk
  exact hk
def ctr101 : List PA → COut
  | [.agg [.int .i64 a0_slope,.int .i64 a0_start,.int .i64 a0_den],.one (.fp [.int .i64 c0] 0)]=>.tot [.agg [.int .i64 ((s101 c0 (⟨a0_slope,a0_start,a0_den⟩:straight)).Num),.int .i64 ((s101 c0 (⟨a0_slope,a0_start,a0_den⟩:straight)).Den)]]
  | _=>.no
theorem call101:Callable Try.prog 101:=⟨_,rfl,rfl,by kernel_rfl⟩
theorem ok101:Ok Try.prog 101 ctr101:=ok_tab okT101 call101 fun args K h=>by
  unfold ctr101 at h
  split at h
  · rename_i a0_slope a0_start a0_den c0
    have hk:=h
    exact ⟨(fun _ _=>[]),(fun _=>false),ann101,q101 c0 (⟨a0_slope,a0_start,a0_den⟩:straight) K hk⟩
  · exact h.elim
abbrev T120:Tabs:=Tabs.nil
theorem okT120:TabsOk Try.prog T120:=TabsOk.nil
abbrev G120:Ctrs:=csm T120 (fun _ _=>[]) (fun _=>false)
def ann120:Ann:=⟨6,[(0,⟨[0],[],[],[],[],[],[]⟩),(1,⟨[2],[],[],[],[],[],[]⟩)],
  [],
  [],
  [],[]⟩
theorem f120_top (x : Int) (K : List PA → Prop) :
  vcFun Try.prog G120 ann120 120 [.one (.int .i64 x)] K =
  (K [.one (.bool (x != x))]):=by kernel_rfl
abbrev e120 (r:Bool):List PA:=[.one (.bool r)]
def s120 (x:Int):Bool :=
  (x != x)
theorem q120 (x:Int) (K:List PA→Prop) (hk:K (e120 (s120 x))):vcFun Try.prog G120 ann120 120 [.one (.int .i64 x)] K:=by
  refine ofEq (f120_top x K) ?_
  unfold s120 at hk
  exact hk
def ctr120 : List PA → COut
  | [.one (.int .i64 a0)]=>.tot [.one (.bool (s120 a0))]
  | _=>.no
theorem call120:Callable Try.prog 120:=⟨_,rfl,rfl,by kernel_rfl⟩
theorem ok120:Ok Try.prog 120 ctr120:=ok_tab okT120 call120 fun args K h=>by
  unfold ctr120 at h
  split at h
  · rename_i a0
    have hk:=h
    exact ⟨(fun _ _=>[]),(fun _=>false),ann120,q120 a0 K hk⟩
  · exact h.elim
abbrev T103:Tabs:=(Tabs.nil.addF 120 ctr120)
theorem okT103:TabsOk Try.prog T103:=(TabsOk.nil.addF ok120)
abbrev G103:Ctrs:=csm T103 (fun _ _=>[]) (fun _=>false)
def ann103:Ann:=⟨20,[(0,⟨[0,1],[],[],[],[],[],[]⟩),(1,⟨[0,1,5],[],[],[],[],[],[]⟩),(2,⟨[0,1,5,6],[],[],[],[],[],[]⟩),(3,⟨[0,1,6,11],[],[],[],[],[],[]⟩),(4,⟨[12],[],[],[],[],[],[]⟩),(5,⟨[4],[],[],[],[],[],[]⟩),(6,⟨[4],[],[],[],[],[],[]⟩),(7,⟨[0,1,13],[],[],[],[],[],[]⟩),(8,⟨[4],[],[],[],[],[],[]⟩),(9,⟨[0,1,16],[],[],[],[],[],[]⟩),(10,⟨[4],[],[],[],[],[],[]⟩),(11,⟨[19],[],[],[],[],[],[]⟩),(12,⟨[4],[],[],[],[],[],[]⟩),(13,⟨[4],[],[],[],[],[],[]⟩)],
  [],
  [],
  [],[]⟩
theorem f103_top (x : Int) (y_a1 : Int) (K : List PA → Prop) :
  vcFun Try.prog G103 ann103 103 [.one (.int .i64 x),.one (.int .i64 y_a1)] K =
  (condP (s120 x)
   (condP (s120 y_a1)
    (K [.one (.int .i64 (0:Int))])
    (K [.one (.int .i64 (-1:Int))]))
   (condP (s120 y_a1)
    (K [.one (.int .i64 (1:Int))])
    (condP (decide (x < y_a1))
     (K [.one (.int .i64 (-1:Int))])
     (condP (decide (x > y_a1))
      (K [.one (.int .i64 (1:Int))])
      (K [.one (.int .i64 (0:Int))]))))):=by kernel_rfl
abbrev e103 (r:Int):List PA:=[.one (.int .i64 r)]
def s103 (x:Int) (y_a1:Int):Int :=
  (cond (s120 x)
   (cond (s120 y_a1)
    (0:Int)
    (-1:Int))
   (cond (s120 y_a1)
    (1:Int)
    (cond (decide (x < y_a1))
     (-1:Int)
     (cond (decide (x > y_a1))
      (1:Int)
      (0:Int)))))
theorem q103 (x:Int) (y_a1:Int) (K:List PA→Prop) (hk:K (e103 (s103 x y_a1))):vcFun Try.prog G103 ann103 103 [.one (.int .i64 x),.one (.int .i64 y_a1)] K:=by
  refine ofEq (f103_top x y_a1 K) ?_
  unfold s103 at hk
  exact (condP_gt (K := fun r => K (e103 r))
   (fun hk => (condP_gt (K := fun r => K (e103 r))
    (fun hk=>hk)
    (fun hk=>hk) hk))
   (fun hk => (condP_gt (K := fun r => K (e103 r))
    (fun hk=>hk)
    (fun hk => (condP_gt (K := fun r => K (e103 r))
     (fun hk=>hk)
     (fun hk => (condP_gt (K := fun r => K (e103 r))
      (fun hk=>hk)
      (fun hk=>hk) hk)) hk)) hk)) hk)
def ctr103 : List PA → COut
  | [.one (.int .i64 a0),.one (.int .i64 a1)]=>.tot [.one (.int .i64 (s103 a0 a1))]
  | _=>.no
theorem call103:Callable Try.prog 103:=⟨_,rfl,rfl,by kernel_rfl⟩
theorem ok103:Ok Try.prog 103 ctr103:=ok_tab okT103 call103 fun args K h=>by
  unfold ctr103 at h
  split at h
  · rename_i a0 a1
    have hk:=h
    exact ⟨(fun _ _=>[]),(fun _=>false),ann103,q103 a0 a1 K hk⟩
  · exact h.elim
abbrev T69:Tabs:=(Tabs.nil.addF 103 ctr103)
theorem okT69:TabsOk Try.prog T69:=(TabsOk.nil.addF ok103)
abbrev G69:Ctrs:=csm T69 (fun _ _=>[]) (fun _=>false)
def ann69:Ann:=⟨16,[(0,⟨[2,3],[2,3],[],[],[],[],[]⟩),(1,⟨[4],[],[],[],[],[],[]⟩)],
  [],
  [],
  [],[]⟩
theorem f69_top (a : Frac) (b : Frac) (K : List PA → Prop) :
  vcFun Try.prog G69 ann69 69 [.agg [.int .i64 a.Num,.int .i64 a.Den],.agg [.int .i64 b.Num,.int .i64 b.Den]] K =
  (K [.one (.int .i64 (s103 (w64 (a.Num * b.Den)) (w64 (b.Num * a.Den))))]):=by kernel_rfl
abbrev e69 (r:Int):List PA:=[.one (.int .i64 r)]
def s69 (a:Frac) (b:Frac):Int :=
  (s103 (w64 (a.Num * b.Den)) (w64 (b.Num * a.Den)))
theorem q69 (a:Frac) (b:Frac) (K:List PA→Prop) (hk:K (e69 (s69 a b))):vcFun Try.prog G69 ann69 69 [.agg [.int .i64 a.Num,.int .i64 a.Den],.agg [.int .i64 b.Num,.int .i64 b.Den]] K:=by
  refine ofEq (f69_top a b K) ?_
  unfold s69 at hk
  exact hk
def ctr69 : List PA → COut
  | [.agg [.int .i64 a0_Num,.int .i64 a0_Den],.agg [.int .i64 a1_Num,.int .i64 a1_Den]]=>.tot [.one (.int .i64 (s69 (⟨a0_Num,a0_Den⟩:Frac) (⟨a1_Num,a1_Den⟩:Frac)))]
  | _=>.no
theorem call69:Callable Try.prog 69:=⟨_,rfl,rfl,by kernel_rfl⟩
theorem ok69:Ok Try.prog 69 ctr69:=ok_tab okT69 call69 fun args K h=>by
  unfold ctr69 at h
  split at h
  · rename_i a0_Num a0_Den a1_Num a1_Den
    have hk:=h
    exact ⟨(fun _ _=>[]),(fun _=>false),ann69,q69 (⟨a0_Num,a0_Den⟩:Frac) (⟨a1_Num,a1_Den⟩:Frac) K hk⟩
  · exact h.elim
abbrev T112:Tabs:=(Tabs.nil.addF 69 ctr69)
theorem okT112:TabsOk Try.prog T112:=(TabsOk.nil.addF ok69)
abbrev G112:Ctrs:=csm T112 (fun _ _=>[]) (fun _=>false)
def ann112:Ann:=⟨9,[(0,⟨[2,3],[2,3],[],[],[],[],[]⟩),(1,⟨[4],[],[],[],[],[],[]⟩)],
  [],
  [],
  [],[]⟩
theorem f112_top (a : Frac) (b : Frac) (K : List PA → Prop) :
  vcFun Try.prog G112 ann112 112 [.agg [.int .i64 a.Num,.int .i64 a.Den],.agg [.int .i64 b.Num,.int .i64 b.Den]] K =
  (K [.one (.bool (decide ((s69 a b) < (0:Int))))]):=by kernel_rfl
abbrev e112 (r:Bool):List PA:=[.one (.bool r)]
def s112 (a:Frac) (b:Frac):Bool :=
  (decide ((s69 a b) < (0:Int)))
theorem q112 (a:Frac) (b:Frac) (K:List PA→Prop) (hk:K (e112 (s112 a b))):vcFun Try.prog G112 ann112 112 [.agg [.int .i64 a.Num,.int .i64 a.Den],.agg [.int .i64 b.Num,.int .i64 b.Den]] K:=by
  refine ofEq (f112_top a b K) ?_
  unfold s112 at hk
  exact hk
def ctr112 : List PA → COut
  | [.agg [.int .i64 a0_Num,.int .i64 a0_Den],.agg [.int .i64 a1_Num,.int .i64 a1_Den]]=>.tot [.one (.bool (s112 (⟨a0_Num,a0_Den⟩:Frac) (⟨a1_Num,a1_Den⟩:Frac)))]
  | _=>.no
theorem call112:Callable Try.prog 112:=⟨_,rfl,rfl,by kernel_rfl⟩
theorem ok112:Ok Try.prog 112 ctr112:=ok_tab okT112 call112 fun args K h=>by
  unfold ctr112 at h
  split at h
  · rename_i a0_Num a0_Den a1_Num a1_Den
    have hk:=h
    exact ⟨(fun _ _=>[]),(fun _=>false),ann112,q112 (⟨a0_Num,a0_Den⟩:Frac) (⟨a1_Num,a1_Den⟩:Frac) K hk⟩
  · exact h.elim
abbrev T113:Tabs:=(Tabs.nil.addF 69 ctr69)
theorem okT113:TabsOk Try.prog T113:=(TabsOk.nil.addF ok69)
abbrev G113:Ctrs:=csm T113 (fun _ _=>[]) (fun _=>false)
def ann113:Ann:=⟨9,[(0,⟨[2,3],[2,3],[],[],[],[],[]⟩),(1,⟨[4],[],[],[],[],[],[]⟩)],
  [],
  [],
  [],[]⟩
theorem f113_top (a : Frac) (b : Frac) (K : List PA → Prop) :
  vcFun Try.prog G113 ann113 113 [.agg [.int .i64 a.Num,.int .i64 a.Den],.agg [.int .i64 b.Num,.int .i64 b.Den]] K =
  (K [.one (.bool (decide ((s69 a b) > (0:Int))))]):=by kernel_rfl
abbrev e113 (r:Bool):List PA:=[.one (.bool r)]
def s113 (a:Frac) (b:Frac):Bool :=
  (decide ((s69 a b) > (0:Int)))
theorem q113 (a:Frac) (b:Frac) (K:List PA→Prop) (hk:K (e113 (s113 a b))):vcFun Try.prog G113 ann113 113 [.agg [.int .i64 a.Num,.int .i64 a.Den],.agg [.int .i64 b.Num,.int .i64 b.Den]] K:=by
  refine ofEq (f113_top a b K) ?_
  unfold s113 at hk
  exact hk
def ctr113 : List PA → COut
  | [.agg [.int .i64 a0_Num,.int .i64 a0_Den],.agg [.int .i64 a1_Num,.int .i64 a1_Den]]=>.tot [.one (.bool (s113 (⟨a0_Num,a0_Den⟩:Frac) (⟨a1_Num,a1_Den⟩:Frac)))]
  | _=>.no
theorem call113:Callable Try.prog 113:=⟨_,rfl,rfl,by kernel_rfl⟩
theorem ok113:Ok Try.prog 113 ctr113:=ok_tab okT113 call113 fun args K h=>by
  unfold ctr113 at h
  split at h
  · rename_i a0_Num a0_Den a1_Num a1_Den
    have hk:=h
    exact ⟨(fun _ _=>[]),(fun _=>false),ann113,q113 (⟨a0_Num,a0_Den⟩:Frac) (⟨a1_Num,a1_Den⟩:Frac) K hk⟩
  · exact h.elim
abbrev T111:Tabs:=((Tabs.nil.addF 112 ctr112).addF 113 ctr113)
theorem okT111:TabsOk Try.prog T111:=((TabsOk.nil.addF ok112).addF ok113)
abbrev G111:Ctrs:=csm T111 (fun _ _=>[]) (fun _=>false)
def ann111:Ann:=⟨25,[(0,⟨[0,1,4],[4],[],[],[],[],[]⟩),(1,⟨[0,1,4,5],[4,5],[],[],[],[],[]⟩),(2,⟨[1,4,5,12,13,14],[4,5],[],[],[],[],[]⟩),(3,⟨[1,4,5,12,13,14,15],[4,5],[],[],[],[],[]⟩),(4,⟨[1,4,5,7,12,13,14],[4,5,7],[],[],[],[],[]⟩),(5,⟨[1,4,5,7,12,13,14,21],[4,5,7],[],[],[],[],[]⟩),(6,⟨[1,4,5,12,13,14],[4,5],[],[],[],[],[]⟩),(7,⟨[1,4,5,12,13,14],[4,5],[],[],[],[],[]⟩),(8,⟨[4],[4],[],[],[],[],[]⟩)],
  [(3,⟨[1,4,5,12,13,14],[4,5],[],[],[],[],[]⟩)],
  [(6,⟨[1,4,5,7,12,13,14,21],[4,5,7],[],[],[],[],[]⟩)],
  [],[]⟩
def f111_g0 (l_a0:(Sl Frac)) (t12v0_n:Nat) (t12v0_g:Nat→List PV) (t14v0:Int) (out_0v0:Int) (out_1v0:Int):St:=⟨[(1,.one (.c (.p (.fn 112 [] [])))),(4,.one (.c (.ptr 4 0))),(5,.one (.c (.ptr 5 0))),(12,.one (.c (.p (.sl t12v0_n 2 t12v0_g)))),(13,.one (.c (.p (.int .i64 (((l_a0.len:Int) - (1:Int)).toNat:Int))))),(14,.one (.c (.p (.int .i64 t14v0))))],[(4,.box 25 [.p (.int .i64 (0:Int)),.p (.int .i64 (0:Int))]),(5,.box 25 [.p (.int .i64 out_0v0),.p (.int .i64 out_1v0)])],[]⟩
def f111_at0 (K:List PA→Prop) (l_a0:(Sl Frac)) (t12v0_n:Nat) (t12v0_g:Nat→List PV) (t14v0:Int) (out_0v0:Int) (out_1v0:Int):Prop:=vc Try.prog G111 ann111 (cdF Try.f111 [1,1,0,1,0]) (blockK 0 (sqK Try.prog G111 ann111 (cdF Try.f111 [1,1,1]) (bodyK Try.prog Try.f111 K))) (f111_g0 l_a0 t12v0_n t12v0_g t14v0 out_0v0 out_1v0)
def f111_g1 (l_a0:(Sl Frac)) (t12v1_n:Nat) (t12v1_g:Nat→List PV) (t14v1:Int) (t21v1:Bool) (out_0v1:Int) (out_1v1:Int) (x_0v1:Int) (x_1v1:Int):St:=⟨[(1,.one (.c (.p (.fn 112 [] [])))),(4,.one (.c (.ptr 4 0))),(5,.one (.c (.ptr 5 0))),(7,.one (.c (.ptr 7 0))),(12,.one (.c (.p (.sl t12v1_n 2 t12v1_g)))),(13,.one (.c (.p (.int .i64 (((l_a0.len:Int) - (1:Int)).toNat:Int))))),(14,.one (.c (.p (.int .i64 t14v1)))),(21,.one (.c (.p (.bool t21v1))))],[(4,.box 25 [.p (.int .i64 (0:Int)),.p (.int .i64 (0:Int))]),(5,.box 25 [.p (.int .i64 out_0v1),.p (.int .i64 out_1v1)]),(7,.box 25 [.p (.int .i64 x_0v1),.p (.int .i64 x_1v1)])],[]⟩
def f111_at1 (K:List PA→Prop) (X0:St→Prop) (l_a0:(Sl Frac)) (t12v1_n:Nat) (t12v1_g:Nat→List PV) (t14v1:Int) (t21v1:Bool) (out_0v1:Int) (out_1v1:Int) (x_0v1:Int) (x_1v1:Int):Prop:=vc Try.prog G111 ann111 (cdF Try.f111 [1,1,0,1,0,0,1,1,0,0,1,1]) (blockK 1 (sqK Try.prog G111 ann111 (cdF Try.f111 [1,1,0,1,0,0,1,1,1]) (loopK Try.prog ann111 3 X0 (blockK 0 (sqK Try.prog G111 ann111 (cdF Try.f111 [1,1,1]) (bodyK Try.prog Try.f111 K)))))) (f111_g1 l_a0 t12v1_n t12v1_g t14v1 t21v1 out_0v1 out_1v1 x_0v1 x_1v1)
theorem f111_top (l_a0 : (Sl Frac)) (K : List PA → Prop) :
  vcFun Try.prog G111 ann111 111 [.one (.sl l_a0.len 2 (fun i=>enc_25 (l_a0.get i))),.one (.fn 112 [] [])] K =
  (((0≤(0:Int)∧(0:Int) < (l_a0.len:Int))) ∧
  (((0≤(1:Int)∧(1:Int)≤(l_a0.len:Int)∧(l_a0.len:Int)≤(l_a0.len:Int))) ∧
  (f111_at0 K l_a0 (((l_a0.len:Int) - (1:Int)).toNat) (slG (fun i=>enc_25 (l_a0.get i)) ((1:Int).toNat)) (0:Int) ((l_a0.get 0).Num) ((l_a0.get 0).Den)))):=by kernel_rfl
def f111_step0 (K:List PA→Prop) (X0:St→Prop) (l_a0:(Sl Frac)) (t12v0:(Sl Frac)) (t14v0:Int) (out_0v0:Int) (out_1v0:Int):Prop :=
  (condP (decide (t14v0 < (((l_a0.len : Int) - (1:Int)).toNat : Int)))
   (((0≤t14v0∧t14v0 < (t12v0.len:Int))) ∧
   (f111_at1 K X0 l_a0 t12v0.len (fun i=>enc_25 (t12v0.get i)) t14v0 (s112 (t12v0.get t14v0.toNat) (⟨out_0v0,out_1v0⟩:Frac)) out_0v0 out_1v0 ((t12v0.get t14v0.toNat).Num) ((t12v0.get t14v0.toNat).Den)))
   (K [.agg [.int .i64 out_0v0,.int .i64 out_1v0]]))
theorem f111_stepeq0 (K : List PA → Prop) (X0 : St → Prop) (l_a0 : (Sl Frac)) (t12v0 : (Sl Frac)) (t14v0 : Int) (out_0v0 : Int) (out_1v0 : Int) :
  vc Try.prog G111 ann111 (cd (cdF Try.f111 [1,1,0,1,0]) [0]) (loopK Try.prog ann111 3 X0 (blockK 0 (sqK Try.prog G111 ann111 (cdF Try.f111 [1,1,1]) (bodyK Try.prog Try.f111 K)))) (f111_g0 l_a0 t12v0.len (fun i=>enc_25 (t12v0.get i)) t14v0 out_0v0 out_1v0) =
  f111_step0 K X0 l_a0 t12v0 t14v0 out_0v0 out_1v0:=by kernel_rfl
theorem f111_loop0 (K : List PA → Prop) (l_a0 : (Sl Frac)) (t12v0_n : Nat) (t12v0_g : Nat → List PV) (t14v0 : Int) (out_0v0 : Int) (out_1v0 : Int)
  (h:∀ X0:St→Prop,(∀ (t12v0:(Sl Frac)) (t14v0:Int) (out_0v0:Int) (out_1v0:Int),f111_step0 K X0 l_a0 t12v0 t14v0 out_0v0 out_1v0→X0 (f111_g0 l_a0 t12v0.len (fun i=>enc_25 (t12v0.get i)) t14v0 out_0v0 out_1v0))→X0 (f111_g0 l_a0 t12v0_n t12v0_g t14v0 out_0v0 out_1v0)) :
  f111_at0 K l_a0 t12v0_n t12v0_g t14v0 out_0v0 out_1v0:=by
  have e:f111_at0 K l_a0 t12v0_n t12v0_g t14v0 out_0v0 out_1v0=(∀ X:St→Prop,(∀ s,vc Try.prog G111 ann111 (cd (cdF Try.f111 [1,1,0,1,0]) [0]) (loopK Try.prog ann111 3 X (blockK 0 (sqK Try.prog G111 ann111 (cdF Try.f111 [1,1,1]) (bodyK Try.prog Try.f111 K)))) s→X s)→X (f111_g0 l_a0 t12v0_n t12v0_g t14v0 out_0v0 out_1v0)):=by kernel_rfl
  refine ofEq e ?_
  intro X hX
  refine h X ?_
  intro t12v0 t14v0 out_0v0 out_1v0 hs
  refine hX _ ?_
  have e2:=f111_stepeq0 K X l_a0 t12v0 t14v0 out_0v0 out_1v0
  rw [e2]
  exact hs
theorem f111_eq1 (K : List PA → Prop) (X0 : St → Prop) (l_a0 : (Sl Frac)) (t12v1 : (Sl Frac)) (t14v1 : Int) (t21v1 : Bool) (out_0v1 : Int) (out_1v1 : Int) (x_0v1 : Int) (x_1v1 : Int) :
  f111_at1 K X0 l_a0 t12v1.len (fun i=>enc_25 (t12v1.get i)) t14v1 t21v1 out_0v1 out_1v1 x_0v1 x_1v1 =
  (condP t21v1
   (X0 (f111_g0 l_a0 t12v1.len (fun i=>enc_25 (t12v1.get i)) (w64 (t14v1+(1:Int))) x_0v1 x_1v1))
   (X0 (f111_g0 l_a0 t12v1.len (fun i=>enc_25 (t12v1.get i)) (w64 (t14v1+(1:Int))) out_0v1 out_1v1))):=by kernel_rfl
abbrev e111 (r:Frac):List PA:=[.agg [.int .i64 r.Num,.int .i64 r.Den]]
attribute [irreducible] f111_at0 f111_at1
def s111_at1 (S0:(Sl Frac)→Int→Int→Int→Frac) (l_a0:(Sl Frac)) (t12v1:(Sl Frac)) (t14v1:Int) (t21v1:Bool) (out_0v1:Int) (out_1v1:Int) (x_0v1:Int) (x_1v1:Int):Frac :=
  (cond t21v1
   (S0 t12v1 (w64 (t14v1+(1:Int))) x_0v1 x_1v1)
   (S0 t12v1 (w64 (t14v1+(1:Int))) out_0v1 out_1v1))
def p111_at1 (P0:(Sl Frac)→Int→Int→Int→Bool) (l_a0:(Sl Frac)) (t12v1:(Sl Frac)) (t14v1:Int) (t21v1:Bool) (out_0v1:Int) (out_1v1:Int) (x_0v1:Int) (x_1v1:Int):Bool :=
  (cond t21v1
   (P0 t12v1 (w64 (t14v1+(1:Int))) x_0v1 x_1v1)
   (P0 t12v1 (w64 (t14v1+(1:Int))) out_0v1 out_1v1))
theorem q111_at1 (K : List PA → Prop) (l_a0 : (Sl Frac))
  (X0:St→Prop) (P0:(Sl Frac)→Int→Int→Int→Bool) (S0:(Sl Frac)→Int→Int→Int→Frac)
  (hX0:∀ (t12v0:(Sl Frac)) (t14v0:Int) (out_0v0:Int) (out_1v0:Int) (t12v0_g:Nat→List PV) (t12v0_h:t12v0_g=fun i=>enc_25 (t12v0.get i)),P0 t12v0 t14v0 out_0v0 out_1v0=true→K (e111 (S0 t12v0 t14v0 out_0v0 out_1v0))→X0 (f111_g0 l_a0 t12v0.len t12v0_g t14v0 out_0v0 out_1v0)) (t12v1:(Sl Frac)) (t14v1:Int) (t21v1:Bool) (out_0v1:Int) (out_1v1:Int) (x_0v1:Int) (x_1v1:Int) (t12v1_g:Nat→List PV) (t12v1_h:t12v1_g=fun i=>enc_25 (t12v1.get i)) (hs:p111_at1 P0 l_a0 t12v1 t14v1 t21v1 out_0v1 out_1v1 x_0v1 x_1v1=true) (hk:K (e111 (s111_at1 S0 l_a0 t12v1 t14v1 t21v1 out_0v1 out_1v1 x_0v1 x_1v1))):f111_at1 K X0 l_a0 t12v1.len t12v1_g t14v1 t21v1 out_0v1 out_1v1 x_0v1 x_1v1:=by
  subst t12v1_h
  refine ofEq (f111_eq1 K X0 l_a0 t12v1 t14v1 t21v1 out_0v1 out_1v1 x_0v1 x_1v1) ?_
  unfold p111_at1 at hs
  unfold s111_at1 at hk
  exact (condB_go (K := fun r => K (e111 r))
   (fun hs hk=>(hX0 t12v1 (w64 (t14v1+(1:Int))) x_0v1 x_1v1 (fun i=>enc_25 (t12v1.get i)) rfl hs hk))
   (fun hs hk=>(hX0 t12v1 (w64 (t14v1+(1:Int))) out_0v1 out_1v1 (fun i=>enc_25 (t12v1.get i)) rfl hs hk)) hs hk)
def s111_st0 (l_a0:(Sl Frac)) (S0:(Sl Frac)→Int→Int→Int→Frac) (t12v0:(Sl Frac)) (t14v0:Int) (out_0v0:Int) (out_1v0:Int):Frac :=
  (cond (decide (t14v0 < (((l_a0.len : Int) - (1:Int)).toNat : Int)))
   (s111_at1 S0 l_a0 t12v0 t14v0 (s112 (t12v0.get t14v0.toNat) (⟨out_0v0,out_1v0⟩:Frac)) out_0v0 out_1v0 ((t12v0.get t14v0.toNat).Num) ((t12v0.get t14v0.toNat).Den))
   (⟨out_0v0,out_1v0⟩:Frac))
def p111_st0 (l_a0:(Sl Frac)) (P0:(Sl Frac)→Int→Int→Int→Bool) (t12v0:(Sl Frac)) (t14v0:Int) (out_0v0:Int) (out_1v0:Int):Bool :=
  (cond (decide (t14v0 < (((l_a0.len : Int) - (1:Int)).toNat : Int)))
   (decide ((0≤t14v0∧t14v0 < (t12v0.len:Int))) &&
   (p111_at1 P0 l_a0 t12v0 t14v0 (s112 (t12v0.get t14v0.toNat) (⟨out_0v0,out_1v0⟩:Frac)) out_0v0 out_1v0 ((t12v0.get t14v0.toNat).Num) ((t12v0.get t14v0.toNat).Den)))
   true)
def s111_lp0 (l_a0 : (Sl Frac)) : Nat → (Sl Frac) → Int → Int → Int → Frac
  | 0=>fun _ _ _ _=>default
  | k+1=>s111_st0 l_a0 (s111_lp0 l_a0 k)
def p111_lp0 (l_a0 : (Sl Frac)) : Nat → (Sl Frac) → Int → Int → Int → Bool
  | 0=>fun _ _ _ _=>false
  | k+1=>p111_st0 l_a0 (p111_lp0 l_a0 k)
def s111_at0 (l_a0:(Sl Frac)) (t12v0:(Sl Frac)) (t14v0:Int) (out_0v0:Int) (out_1v0:Int):Frac:=s111_lp0 l_a0 Fuel t12v0 t14v0 out_0v0 out_1v0
def p111_at0 (l_a0:(Sl Frac)) (t12v0:(Sl Frac)) (t14v0:Int) (out_0v0:Int) (out_1v0:Int):Bool:=p111_lp0 l_a0 Fuel t12v0 t14v0 out_0v0 out_1v0
theorem q111_at0 (K:List PA→Prop) (l_a0:(Sl Frac)) (t12v0:(Sl Frac)) (t14v0:Int) (out_0v0:Int) (out_1v0:Int) (t12v0_g:Nat→List PV) (t12v0_h:t12v0_g=fun i=>enc_25 (t12v0.get i)) (hs:p111_at0 l_a0 t12v0 t14v0 out_0v0 out_1v0=true) (hk:K (e111 (s111_at0 l_a0 t12v0 t14v0 out_0v0 out_1v0))):f111_at0 K l_a0 t12v0.len t12v0_g t14v0 out_0v0 out_1v0:=by
  refine f111_loop0 K l_a0 t12v0.len t12v0_g t14v0 out_0v0 out_1v0 ?_
  intro X0 hstep
  have key:∀ (k:Nat) (t12v0:(Sl Frac)) (t14v0:Int) (out_0v0:Int) (out_1v0:Int) (t12v0_g:Nat→List PV) (t12v0_h:t12v0_g=fun i=>enc_25 (t12v0.get i)),p111_lp0 l_a0 k t12v0 t14v0 out_0v0 out_1v0=true→K (e111 (s111_lp0 l_a0 k t12v0 t14v0 out_0v0 out_1v0))→X0 (f111_g0 l_a0 t12v0.len t12v0_g t14v0 out_0v0 out_1v0):=by
    intro k
    induction k with
    | zero=>intro t12v0 t14v0 out_0v0 out_1v0 t12v0_g t12v0_h hs;exact absurd hs Bool.false_ne_true
    | succ k ih =>
      intro t12v0 t14v0 out_0v0 out_1v0 t12v0_g t12v0_h hs hk
      subst t12v0_h
      refine hstep t12v0 t14v0 out_0v0 out_1v0 ?_
      have hs:p111_st0 l_a0 (p111_lp0 l_a0 k) t12v0 t14v0 out_0v0 out_1v0=true:=hs
      have hk:K (e111 (s111_st0 l_a0 (s111_lp0 l_a0 k) t12v0 t14v0 out_0v0 out_1v0)):=hk
      unfold p111_st0 at hs
      unfold s111_st0 at hk
      generalize s111_lp0 l_a0 k=S0 at hk ih
      generalize p111_lp0 l_a0 k=P0 at hs ih
      have hX0:=ih
      exact (condB_go (K := fun r => K (e111 r))
       (fun hs hk=>(andK hs fun hc hs=>⟨hc,(q111_at1 K l_a0 X0 P0 S0 hX0 t12v0 t14v0 (s112 (t12v0.get t14v0.toNat) (⟨out_0v0,out_1v0⟩:Frac)) out_0v0 out_1v0 ((t12v0.get t14v0.toNat).Num) ((t12v0.get t14v0.toNat).Den) (fun i=>enc_25 (t12v0.get i)) rfl hs hk)⟩))
       (fun hs hk=>hk) hs hk)
  exact key _ t12v0 t14v0 out_0v0 out_1v0 t12v0_g t12v0_h hs hk
def s111 (l_a0:(Sl Frac)):Frac :=
  (s111_at0 l_a0 (⟨((l_a0.len:Int) - (1:Int)).toNat,(fun i=>l_a0.get (i+((1:Int).toNat)))⟩:Sl Frac) (0:Int) ((l_a0.get 0).Num) ((l_a0.get 0).Den))
def p111 (l_a0:(Sl Frac)):Bool :=
  (decide ((0≤(0:Int)∧(0:Int) < (l_a0.len:Int))) &&
  (decide ((0≤(1:Int)∧(1:Int)≤(l_a0.len:Int)∧(l_a0.len:Int)≤(l_a0.len:Int))) &&
  (p111_at0 l_a0 (⟨((l_a0.len:Int) - (1:Int)).toNat,(fun i=>l_a0.get (i+((1:Int).toNat)))⟩:Sl Frac) (0:Int) ((l_a0.get 0).Num) ((l_a0.get 0).Den))))
theorem q111 (l_a0:(Sl Frac)) (K:List PA→Prop) (hs:p111 l_a0=true) (hk:K (e111 (s111 l_a0))):vcFun Try.prog G111 ann111 111 [.one (.sl l_a0.len 2 (fun i=>enc_25 (l_a0.get i))),.one (.fn 112 [] [])] K:=by
  refine ofEq (f111_top l_a0 K) ?_
  unfold p111 at hs
  unfold s111 at hk
  exact (andK hs fun hc hs=>⟨hc,(andK hs fun hc hs=>⟨hc,(q111_at0 K l_a0 (⟨((l_a0.len:Int) - (1:Int)).toNat,(fun i=>l_a0.get (i+((1:Int).toNat)))⟩:Sl Frac) (0:Int) ((l_a0.get 0).Num) ((l_a0.get 0).Den) (slG (fun i=>enc_25 (l_a0.get i)) ((1:Int).toNat)) rfl hs hk)⟩)⟩)
abbrev G111a:Ctrs:=csm T111 (fun _ _=>[]) (fun _=>false)
def ann111a:Ann:=⟨25,[(0,⟨[0,1,4],[4],[],[],[],[],[]⟩),(1,⟨[0,1,4,5],[4,5],[],[],[],[],[]⟩),(2,⟨[1,4,5,12,13,14],[4,5],[],[],[],[],[]⟩),(3,⟨[1,4,5,12,13,14,15],[4,5],[],[],[],[],[]⟩),(4,⟨[1,4,5,7,12,13,14],[4,5,7],[],[],[],[],[]⟩),(5,⟨[1,4,5,7,12,13,14,21],[4,5,7],[],[],[],[],[]⟩),(6,⟨[1,4,5,12,13,14],[4,5],[],[],[],[],[]⟩),(7,⟨[1,4,5,12,13,14],[4,5],[],[],[],[],[]⟩),(8,⟨[4],[4],[],[],[],[],[]⟩)],
  [(3,⟨[1,4,5,12,13,14],[4,5],[],[],[],[],[]⟩)],
  [(6,⟨[1,4,5,7,12,13,14,21],[4,5,7],[],[],[],[],[]⟩)],
  [],[]⟩
def f111a_g0 (l_a0:(Sl Frac)) (t12v0_n:Nat) (t12v0_g:Nat→List PV) (t14v0:Int) (out_0v0:Int) (out_1v0:Int):St:=⟨[(1,.one (.c (.p (.fn 113 [] [])))),(4,.one (.c (.ptr 4 0))),(5,.one (.c (.ptr 5 0))),(12,.one (.c (.p (.sl t12v0_n 2 t12v0_g)))),(13,.one (.c (.p (.int .i64 (((l_a0.len:Int) - (1:Int)).toNat:Int))))),(14,.one (.c (.p (.int .i64 t14v0))))],[(4,.box 25 [.p (.int .i64 (0:Int)),.p (.int .i64 (0:Int))]),(5,.box 25 [.p (.int .i64 out_0v0),.p (.int .i64 out_1v0)])],[]⟩
def f111a_at0 (K:List PA→Prop) (l_a0:(Sl Frac)) (t12v0_n:Nat) (t12v0_g:Nat→List PV) (t14v0:Int) (out_0v0:Int) (out_1v0:Int):Prop:=vc Try.prog G111a ann111a (cdF Try.f111 [1,1,0,1,0]) (blockK 0 (sqK Try.prog G111a ann111a (cdF Try.f111 [1,1,1]) (bodyK Try.prog Try.f111 K))) (f111a_g0 l_a0 t12v0_n t12v0_g t14v0 out_0v0 out_1v0)
def f111a_g1 (l_a0:(Sl Frac)) (t12v1_n:Nat) (t12v1_g:Nat→List PV) (t14v1:Int) (t21v1:Bool) (out_0v1:Int) (out_1v1:Int) (x_0v1:Int) (x_1v1:Int):St:=⟨[(1,.one (.c (.p (.fn 113 [] [])))),(4,.one (.c (.ptr 4 0))),(5,.one (.c (.ptr 5 0))),(7,.one (.c (.ptr 7 0))),(12,.one (.c (.p (.sl t12v1_n 2 t12v1_g)))),(13,.one (.c (.p (.int .i64 (((l_a0.len:Int) - (1:Int)).toNat:Int))))),(14,.one (.c (.p (.int .i64 t14v1)))),(21,.one (.c (.p (.bool t21v1))))],[(4,.box 25 [.p (.int .i64 (0:Int)),.p (.int .i64 (0:Int))]),(5,.box 25 [.p (.int .i64 out_0v1),.p (.int .i64 out_1v1)]),(7,.box 25 [.p (.int .i64 x_0v1),.p (.int .i64 x_1v1)])],[]⟩
def f111a_at1 (K:List PA→Prop) (X0:St→Prop) (l_a0:(Sl Frac)) (t12v1_n:Nat) (t12v1_g:Nat→List PV) (t14v1:Int) (t21v1:Bool) (out_0v1:Int) (out_1v1:Int) (x_0v1:Int) (x_1v1:Int):Prop:=vc Try.prog G111a ann111a (cdF Try.f111 [1,1,0,1,0,0,1,1,0,0,1,1]) (blockK 1 (sqK Try.prog G111a ann111a (cdF Try.f111 [1,1,0,1,0,0,1,1,1]) (loopK Try.prog ann111a 3 X0 (blockK 0 (sqK Try.prog G111a ann111a (cdF Try.f111 [1,1,1]) (bodyK Try.prog Try.f111 K)))))) (f111a_g1 l_a0 t12v1_n t12v1_g t14v1 t21v1 out_0v1 out_1v1 x_0v1 x_1v1)
theorem f111a_top (l_a0 : (Sl Frac)) (K : List PA → Prop) :
  vcFun Try.prog G111a ann111a 111 [.one (.sl l_a0.len 2 (fun i=>enc_25 (l_a0.get i))),.one (.fn 113 [] [])] K =
  (((0≤(0:Int)∧(0:Int) < (l_a0.len:Int))) ∧
  (((0≤(1:Int)∧(1:Int)≤(l_a0.len:Int)∧(l_a0.len:Int)≤(l_a0.len:Int))) ∧
  (f111a_at0 K l_a0 (((l_a0.len:Int) - (1:Int)).toNat) (slG (fun i=>enc_25 (l_a0.get i)) ((1:Int).toNat)) (0:Int) ((l_a0.get 0).Num) ((l_a0.get 0).Den)))):=by kernel_rfl
def f111a_step0 (K:List PA→Prop) (X0:St→Prop) (l_a0:(Sl Frac)) (t12v0:(Sl Frac)) (t14v0:Int) (out_0v0:Int) (out_1v0:Int):Prop :=
  (condP (decide (t14v0 < (((l_a0.len : Int) - (1:Int)).toNat : Int)))
   (((0≤t14v0∧t14v0 < (t12v0.len:Int))) ∧
   (f111a_at1 K X0 l_a0 t12v0.len (fun i=>enc_25 (t12v0.get i)) t14v0 (s113 (t12v0.get t14v0.toNat) (⟨out_0v0,out_1v0⟩:Frac)) out_0v0 out_1v0 ((t12v0.get t14v0.toNat).Num) ((t12v0.get t14v0.toNat).Den)))
   (K [.agg [.int .i64 out_0v0,.int .i64 out_1v0]]))
theorem f111a_stepeq0 (K : List PA → Prop) (X0 : St → Prop) (l_a0 : (Sl Frac)) (t12v0 : (Sl Frac)) (t14v0 : Int) (out_0v0 : Int) (out_1v0 : Int) :
  vc Try.prog G111a ann111a (cd (cdF Try.f111 [1,1,0,1,0]) [0]) (loopK Try.prog ann111a 3 X0 (blockK 0 (sqK Try.prog G111a ann111a (cdF Try.f111 [1,1,1]) (bodyK Try.prog Try.f111 K)))) (f111a_g0 l_a0 t12v0.len (fun i=>enc_25 (t12v0.get i)) t14v0 out_0v0 out_1v0) =
  f111a_step0 K X0 l_a0 t12v0 t14v0 out_0v0 out_1v0:=by kernel_rfl
theorem f111a_loop0 (K : List PA → Prop) (l_a0 : (Sl Frac)) (t12v0_n : Nat) (t12v0_g : Nat → List PV) (t14v0 : Int) (out_0v0 : Int) (out_1v0 : Int)
  (h:∀ X0:St→Prop,(∀ (t12v0:(Sl Frac)) (t14v0:Int) (out_0v0:Int) (out_1v0:Int),f111a_step0 K X0 l_a0 t12v0 t14v0 out_0v0 out_1v0→X0 (f111a_g0 l_a0 t12v0.len (fun i=>enc_25 (t12v0.get i)) t14v0 out_0v0 out_1v0))→X0 (f111a_g0 l_a0 t12v0_n t12v0_g t14v0 out_0v0 out_1v0)) :
  f111a_at0 K l_a0 t12v0_n t12v0_g t14v0 out_0v0 out_1v0:=by
  have e:f111a_at0 K l_a0 t12v0_n t12v0_g t14v0 out_0v0 out_1v0=(∀ X:St→Prop,(∀ s,vc Try.prog G111a ann111a (cd (cdF Try.f111 [1,1,0,1,0]) [0]) (loopK Try.prog ann111a 3 X (blockK 0 (sqK Try.prog G111a ann111a (cdF Try.f111 [1,1,1]) (bodyK Try.prog Try.f111 K)))) s→X s)→X (f111a_g0 l_a0 t12v0_n t12v0_g t14v0 out_0v0 out_1v0)):=by kernel_rfl
  refine ofEq e ?_
  intro X hX
  refine h X ?_
  intro t12v0 t14v0 out_0v0 out_1v0 hs
  refine hX _ ?_
  have e2:=f111a_stepeq0 K X l_a0 t12v0 t14v0 out_0v0 out_1v0
  rw [e2]
  exact hs
theorem f111a_eq1 (K : List PA → Prop) (X0 : St → Prop) (l_a0 : (Sl Frac)) (t12v1 : (Sl Frac)) (t14v1 : Int) (t21v1 : Bool) (out_0v1 : Int) (out_1v1 : Int) (x_0v1 : Int) (x_1v1 : Int) :
  f111a_at1 K X0 l_a0 t12v1.len (fun i=>enc_25 (t12v1.get i)) t14v1 t21v1 out_0v1 out_1v1 x_0v1 x_1v1 =
  (condP t21v1
   (X0 (f111a_g0 l_a0 t12v1.len (fun i=>enc_25 (t12v1.get i)) (w64 (t14v1+(1:Int))) x_0v1 x_1v1))
   (X0 (f111a_g0 l_a0 t12v1.len (fun i=>enc_25 (t12v1.get i)) (w64 (t14v1+(1:Int))) out_0v1 out_1v1))):=by kernel_rfl
abbrev e111a (r:Frac):List PA:=[.agg [.int .i64 r.Num,.int .i64 r.Den]]
attribute [irreducible] f111a_at0 f111a_at1
def s111a_at1 (S0:(Sl Frac)→Int→Int→Int→Frac) (l_a0:(Sl Frac)) (t12v1:(Sl Frac)) (t14v1:Int) (t21v1:Bool) (out_0v1:Int) (out_1v1:Int) (x_0v1:Int) (x_1v1:Int):Frac :=
  (cond t21v1
   (S0 t12v1 (w64 (t14v1+(1:Int))) x_0v1 x_1v1)
   (S0 t12v1 (w64 (t14v1+(1:Int))) out_0v1 out_1v1))
def p111a_at1 (P0:(Sl Frac)→Int→Int→Int→Bool) (l_a0:(Sl Frac)) (t12v1:(Sl Frac)) (t14v1:Int) (t21v1:Bool) (out_0v1:Int) (out_1v1:Int) (x_0v1:Int) (x_1v1:Int):Bool :=
  (cond t21v1
   (P0 t12v1 (w64 (t14v1+(1:Int))) x_0v1 x_1v1)
   (P0 t12v1 (w64 (t14v1+(1:Int))) out_0v1 out_1v1))
theorem q111a_at1 (K : List PA → Prop) (l_a0 : (Sl Frac))
  (X0:St→Prop) (P0:(Sl Frac)→Int→Int→Int→Bool) (S0:(Sl Frac)→Int→Int→Int→Frac)
  (hX0:∀ (t12v0:(Sl Frac)) (t14v0:Int) (out_0v0:Int) (out_1v0:Int) (t12v0_g:Nat→List PV) (t12v0_h:t12v0_g=fun i=>enc_25 (t12v0.get i)),P0 t12v0 t14v0 out_0v0 out_1v0=true→K (e111a (S0 t12v0 t14v0 out_0v0 out_1v0))→X0 (f111a_g0 l_a0 t12v0.len t12v0_g t14v0 out_0v0 out_1v0)) (t12v1:(Sl Frac)) (t14v1:Int) (t21v1:Bool) (out_0v1:Int) (out_1v1:Int) (x_0v1:Int) (x_1v1:Int) (t12v1_g:Nat→List PV) (t12v1_h:t12v1_g=fun i=>enc_25 (t12v1.get i)) (hs:p111a_at1 P0 l_a0 t12v1 t14v1 t21v1 out_0v1 out_1v1 x_0v1 x_1v1=true) (hk:K (e111a (s111a_at1 S0 l_a0 t12v1 t14v1 t21v1 out_0v1 out_1v1 x_0v1 x_1v1))):f111a_at1 K X0 l_a0 t12v1.len t12v1_g t14v1 t21v1 out_0v1 out_1v1 x_0v1 x_1v1:=by
  subst t12v1_h
  refine ofEq (f111a_eq1 K X0 l_a0 t12v1 t14v1 t21v1 out_0v1 out_1v1 x_0v1 x_1v1) ?_
  unfold p111a_at1 at hs
  unfold s111a_at1 at hk
  exact (condB_go (K := fun r => K (e111a r))
   (fun hs hk=>(hX0 t12v1 (w64 (t14v1+(1:Int))) x_0v1 x_1v1 (fun i=>enc_25 (t12v1.get i)) rfl hs hk))
   (fun hs hk=>(hX0 t12v1 (w64 (t14v1+(1:Int))) out_0v1 out_1v1 (fun i=>enc_25 (t12v1.get i)) rfl hs hk)) hs hk)
def s111a_st0 (l_a0:(Sl Frac)) (S0:(Sl Frac)→Int→Int→Int→Frac) (t12v0:(Sl Frac)) (t14v0:Int) (out_0v0:Int) (out_1v0:Int):Frac :=
  (cond (decide (t14v0 < (((l_a0.len : Int) - (1:Int)).toNat : Int)))
   (s111a_at1 S0 l_a0 t12v0 t14v0 (s113 (t12v0.get t14v0.toNat) (⟨out_0v0,out_1v0⟩:Frac)) out_0v0 out_1v0 ((t12v0.get t14v0.toNat).Num) ((t12v0.get t14v0.toNat).Den))
   (⟨out_0v0,out_1v0⟩:Frac))
def p111a_st0 (l_a0:(Sl Frac)) (P0:(Sl Frac)→Int→Int→Int→Bool) (t12v0:(Sl Frac)) (t14v0:Int) (out_0v0:Int) (out_1v0:Int):Bool :=
  (cond (decide (t14v0 < (((l_a0.len : Int) - (1:Int)).toNat : Int)))
   (decide ((0≤t14v0∧t14v0 < (t12v0.len:Int))) &&
   (p111a_at1 P0 l_a0 t12v0 t14v0 (s113 (t12v0.get t14v0.toNat) (⟨out_0v0,out_1v0⟩:Frac)) out_0v0 out_1v0 ((t12v0.get t14v0.toNat).Num) ((t12v0.get t14v0.toNat).Den)))
   true)
def s111a_lp0 (l_a0 : (Sl Frac)) : Nat → (Sl Frac) → Int → Int → Int → Frac
  | 0=>fun _ _ _ _=>default
  | k+1=>s111a_st0 l_a0 (s111a_lp0 l_a0 k)
def p111a_lp0 (l_a0 : (Sl Frac)) : Nat → (Sl Frac) → Int → Int → Int → Bool
  | 0=>fun _ _ _ _=>false
  | k+1=>p111a_st0 l_a0 (p111a_lp0 l_a0 k)
def s111a_at0 (l_a0:(Sl Frac)) (t12v0:(Sl Frac)) (t14v0:Int) (out_0v0:Int) (out_1v0:Int):Frac:=s111a_lp0 l_a0 Fuel t12v0 t14v0 out_0v0 out_1v0
def p111a_at0 (l_a0:(Sl Frac)) (t12v0:(Sl Frac)) (t14v0:Int) (out_0v0:Int) (out_1v0:Int):Bool:=p111a_lp0 l_a0 Fuel t12v0 t14v0 out_0v0 out_1v0
theorem q111a_at0 (K:List PA→Prop) (l_a0:(Sl Frac)) (t12v0:(Sl Frac)) (t14v0:Int) (out_0v0:Int) (out_1v0:Int) (t12v0_g:Nat→List PV) (t12v0_h:t12v0_g=fun i=>enc_25 (t12v0.get i)) (hs:p111a_at0 l_a0 t12v0 t14v0 out_0v0 out_1v0=true) (hk:K (e111a (s111a_at0 l_a0 t12v0 t14v0 out_0v0 out_1v0))):f111a_at0 K l_a0 t12v0.len t12v0_g t14v0 out_0v0 out_1v0:=by
  refine f111a_loop0 K l_a0 t12v0.len t12v0_g t14v0 out_0v0 out_1v0 ?_
  intro X0 hstep
  have key:∀ (k:Nat) (t12v0:(Sl Frac)) (t14v0:Int) (out_0v0:Int) (out_1v0:Int) (t12v0_g:Nat→List PV) (t12v0_h:t12v0_g=fun i=>enc_25 (t12v0.get i)),p111a_lp0 l_a0 k t12v0 t14v0 out_0v0 out_1v0=true→K (e111a (s111a_lp0 l_a0 k t12v0 t14v0 out_0v0 out_1v0))→X0 (f111a_g0 l_a0 t12v0.len t12v0_g t14v0 out_0v0 out_1v0):=by
    intro k
    induction k with
    | zero=>intro t12v0 t14v0 out_0v0 out_1v0 t12v0_g t12v0_h hs;exact absurd hs Bool.false_ne_true
    | succ k ih =>
      intro t12v0 t14v0 out_0v0 out_1v0 t12v0_g t12v0_h hs hk
      subst t12v0_h
      refine hstep t12v0 t14v0 out_0v0 out_1v0 ?_
      have hs:p111a_st0 l_a0 (p111a_lp0 l_a0 k) t12v0 t14v0 out_0v0 out_1v0=true:=hs
      have hk:K (e111a (s111a_st0 l_a0 (s111a_lp0 l_a0 k) t12v0 t14v0 out_0v0 out_1v0)):=hk
      unfold p111a_st0 at hs
      unfold s111a_st0 at hk
      generalize s111a_lp0 l_a0 k=S0 at hk ih
      generalize p111a_lp0 l_a0 k=P0 at hs ih
      have hX0:=ih
      exact (condB_go (K := fun r => K (e111a r))
       (fun hs hk=>(andK hs fun hc hs=>⟨hc,(q111a_at1 K l_a0 X0 P0 S0 hX0 t12v0 t14v0 (s113 (t12v0.get t14v0.toNat) (⟨out_0v0,out_1v0⟩:Frac)) out_0v0 out_1v0 ((t12v0.get t14v0.toNat).Num) ((t12v0.get t14v0.toNat).Den) (fun i=>enc_25 (t12v0.get i)) rfl hs hk)⟩))
       (fun hs hk=>hk) hs hk)
  exact key _ t12v0 t14v0 out_0v0 out_1v0 t12v0_g t12v0_h hs hk
def s111a (l_a0:(Sl Frac)):Frac :=
  (s111a_at0 l_a0 (⟨((l_a0.len:Int) - (1:Int)).toNat,(fun i=>l_a0.get (i+((1:Int).toNat)))⟩:Sl Frac) (0:Int) ((l_a0.get 0).Num) ((l_a0.get 0).Den))
def p111a (l_a0:(Sl Frac)):Bool :=
  (decide ((0≤(0:Int)∧(0:Int) < (l_a0.len:Int))) &&
  (decide ((0≤(1:Int)∧(1:Int)≤(l_a0.len:Int)∧(l_a0.len:Int)≤(l_a0.len:Int))) &&
  (p111a_at0 l_a0 (⟨((l_a0.len:Int) - (1:Int)).toNat,(fun i=>l_a0.get (i+((1:Int).toNat)))⟩:Sl Frac) (0:Int) ((l_a0.get 0).Num) ((l_a0.get 0).Den))))
theorem q111a (l_a0:(Sl Frac)) (K:List PA→Prop) (hs:p111a l_a0=true) (hk:K (e111a (s111a l_a0))):vcFun Try.prog G111a ann111a 111 [.one (.sl l_a0.len 2 (fun i=>enc_25 (l_a0.get i))),.one (.fn 113 [] [])] K:=by
  refine ofEq (f111a_top l_a0 K) ?_
  unfold p111a at hs
  unfold s111a at hk
  exact (andK hs fun hc hs=>⟨hc,(andK hs fun hc hs=>⟨hc,(q111a_at0 K l_a0 (⟨((l_a0.len:Int) - (1:Int)).toNat,(fun i=>l_a0.get (i+((1:Int).toNat)))⟩:Sl Frac) (0:Int) ((l_a0.get 0).Num) ((l_a0.get 0).Den) (slG (fun i=>enc_25 (l_a0.get i)) ((1:Int).toNat)) rfl hs hk)⟩)⟩)
def ctr111 : List PA → COut
  | [.one (.sl a0_n a0_s a0_g),.one (.fn 112 [] [])]=>.det (IsE enc_25 2 a0_s a0_g∧p111 (⟨a0_n,decF_25 a0_g⟩:(Sl Frac))=true) [.agg [.int .i64 ((s111 (⟨a0_n,decF_25 a0_g⟩:(Sl Frac))).Num),.int .i64 ((s111 (⟨a0_n,decF_25 a0_g⟩:(Sl Frac))).Den)]]
  | [.one (.sl a0_n a0_s a0_g),.one (.fn 113 [] [])]=>.det (IsE enc_25 2 a0_s a0_g∧p111a (⟨a0_n,decF_25 a0_g⟩:(Sl Frac))=true) [.agg [.int .i64 ((s111a (⟨a0_n,decF_25 a0_g⟩:(Sl Frac))).Num),.int .i64 ((s111a (⟨a0_n,decF_25 a0_g⟩:(Sl Frac))).Den)]]
  | _=>.no
theorem call111:Callable Try.prog 111:=⟨_,rfl,rfl,by kernel_rfl⟩
theorem ok111:Ok Try.prog 111 ctr111:=ok_tab okT111 call111 fun args K h=>by
  unfold ctr111 at h
  split at h
  · rename_i a0_n a0_s a0_g
    obtain ⟨⟨⟨rfl,a0_f,rfl⟩,hs⟩,hk⟩:=h
    try rw [decF_enc_25 a0_f] at hs
    try rw [decF_enc_25 a0_f] at hk
    exact ⟨(fun _ _=>[]),(fun _=>false),ann111,q111 (⟨a0_n,a0_f⟩:(Sl Frac)) K hs hk⟩
  · rename_i a0_n a0_s a0_g
    obtain ⟨⟨⟨rfl,a0_f,rfl⟩,hs⟩,hk⟩:=h
    try rw [decF_enc_25 a0_f] at hs
    try rw [decF_enc_25 a0_f] at hk
    exact ⟨(fun _ _=>[]),(fun _=>false),ann111a,q111a (⟨a0_n,a0_f⟩:(Sl Frac)) K hs hk⟩
  · exact h.elim
end Go.Proofs
namespace Go.Proofs
open Go Go.Pm
set_option maxRecDepth 100000
set_option linter.unusedVariables false
attribute [local irreducible] Go.Pm.vcFun Go.Pm.vc Go.Pm.vcIter
abbrev T82:Tabs:=((((Tabs.nil.addF 83 ctr83).addF 89 ctr89).addF 101 ctr101).addF 111 ctr111)
theorem okT82:TabsOk Try.prog T82:=((((TabsOk.nil.addF ok83).addF ok89).addF ok101).addF ok111)
abbrev G82:Ctrs:=csm T82 (fun _ _=>[]) (fun _=>false)
def ann82:Ann:=⟨39,[(0,⟨[1,2,4,5],[2,4,5],[],[],[],[],[]⟩),(1,⟨[1,2,4,5,6],[2,4,5],[],[],[],[],[]⟩),(2,⟨[1,4,5,6,12,13,14],[4,5],[],[],[],[],[]⟩),(3,⟨[1,4,5,6,12,13,14,15],[4,5,23],[],[],[],[],[]⟩),(4,⟨[1,4,5,6,8,12,13,14],[4,5,8,23],[],[],[],[],[]⟩),(5,⟨[1,4,5,6,12,13,14],[4,5,23],[],[],[],[],[]⟩),(6,⟨[1,4,5,6,12,13,14],[4,5,23],[],[],[],[],[]⟩),(7,⟨[4,5,6,9],[4,5,9,23],[],[],[],[],[]⟩),(8,⟨[4,5,9,10],[4,5,9,10],[],[],[],[],[]⟩),(9,⟨[4,5],[4,5],[],[],[],[],[]⟩)],
  [(3,⟨[1,4,5,6,12,13,14],[4,5,23],[(6,23,25,fun _=>enc_25 default)],[],[],[],[]⟩)],
  [(7,⟨[4,5,6],[4,5,23],[],[],[],[],[]⟩),(8,⟨[4,5,6,9],[4,5,9,23],[],[],[],[],[]⟩),(9,⟨[4,5,9,10],[4,5,9,10],[],[],[],[],[]⟩)],
  [],[]⟩
def f82_g0 (c0:Int) (s:set) (t14v0:Int) (v23v0_n:Nat) (v23v0_g:Nat→List PV):St:=⟨[(1,.one (.c (.p (.fn 101 [] [.fp (enc_3 c0) 0])))),(4,.one (.c (.ptr 4 0))),(5,.one (.c (.ptr 5 0))),(6,.one (.c (.vec 23))),(12,.one (.c (.p (.sl s.corners.len 3 (fun i=>enc_118 (s.corners.get i)))))),(13,.one (.c (.p (.int .i64 (s.corners.len:Int))))),(14,.one (.c (.p (.int .i64 t14v0))))],[(4,.box 25 [.p (.int .i64 (0:Int)),.p (.int .i64 (0:Int))]),(5,.box 25 [.p (.int .i64 (0:Int)),.p (.int .i64 (0:Int))]),(23,.vec 25 2 16 v23v0_n v23v0_g)],[]⟩
def f82_at0 (K:List PA→Prop) (c0:Int) (s:set) (t14v0:Int) (v23v0_n:Nat) (v23v0_g:Nat→List PV):Prop:=vc Try.prog G82 ann82 (cdF Try.f82 [1,1,0,1,0]) (blockK 0 (sqK Try.prog G82 ann82 (cdF Try.f82 [1,1,1]) (bodyK Try.prog Try.f82 K))) (f82_g0 c0 s t14v0 v23v0_n v23v0_g)
def f82_g1 (v23v1_n:Nat) (v23v1_g:Nat→List PV):St:=⟨[(4,.one (.c (.ptr 4 0))),(5,.one (.c (.ptr 5 0))),(6,.one (.c (.vec 23)))],[(4,.box 25 [.p (.int .i64 (0:Int)),.p (.int .i64 (0:Int))]),(5,.box 25 [.p (.int .i64 (0:Int)),.p (.int .i64 (0:Int))]),(23,.vec 25 2 16 v23v1_n v23v1_g)],[]⟩
def f82_at1 (K:List PA→Prop) (v23v1_n:Nat) (v23v1_g:Nat→List PV):Prop:=vc Try.prog G82 ann82 (cdF Try.f82 [1,1,1]) (bodyK Try.prog Try.f82 K) (f82_g1 v23v1_n v23v1_g)
def f82_g2 (low_0v2:Int) (low_1v2:Int) (v23v2_n:Nat) (v23v2_g:Nat→List PV):St:=⟨[(4,.one (.c (.ptr 4 0))),(5,.one (.c (.ptr 5 0))),(6,.one (.c (.vec 23))),(9,.one (.c (.ptr 9 0)))],[(4,.box 25 [.p (.int .i64 (0:Int)),.p (.int .i64 (0:Int))]),(5,.box 25 [.p (.int .i64 (0:Int)),.p (.int .i64 (0:Int))]),(9,.box 25 [.p (.int .i64 low_0v2),.p (.int .i64 low_1v2)]),(23,.vec 25 2 16 v23v2_n v23v2_g)],[]⟩
def f82_at2 (K:List PA→Prop) (low_0v2:Int) (low_1v2:Int) (v23v2_n:Nat) (v23v2_g:Nat→List PV):Prop:=vc Try.prog G82 ann82 (cdF Try.f82 [1,1,1,1]) (bodyK Try.prog Try.f82 K) (f82_g2 low_0v2 low_1v2 v23v2_n v23v2_g)
def f82_g3 (low_0v2:Int) (low_1v2:Int) (high_0v3:Int) (high_1v3:Int):St:=⟨[(4,.one (.c (.ptr 4 0))),(5,.one (.c (.ptr 5 0))),(9,.one (.c (.ptr 9 0))),(10,.one (.c (.ptr 10 0)))],[(4,.box 25 [.p (.int .i64 (0:Int)),.p (.int .i64 (0:Int))]),(5,.box 25 [.p (.int .i64 (0:Int)),.p (.int .i64 (0:Int))]),(9,.box 25 [.p (.int .i64 low_0v2),.p (.int .i64 low_1v2)]),(10,.box 25 [.p (.int .i64 high_0v3),.p (.int .i64 high_1v3)])],[]⟩
def f82_at3 (K:List PA→Prop) (low_0v2:Int) (low_1v2:Int) (high_0v3:Int) (high_1v3:Int):Prop:=vc Try.prog G82 ann82 (cdF Try.f82 [1,1,1,1,1]) (bodyK Try.prog Try.f82 K) (f82_g3 low_0v2 low_1v2 high_0v3 high_1v3)
theorem f82_top (c0 : Int) (s : set) (K : List PA → Prop) :
  vcFun Try.prog G82 ann82 82 [.agg [.sl s.list.Gates.len 3 (fun i=>enc_55 (s.list.Gates.get i)),.sl s.corners.len 3 (fun i=>enc_118 (s.corners.get i))],.one (.fn 101 [] [.fp (enc_3 c0) 0])] K =
  (f82_at0 K c0 s (0:Int) 0 (fun i=>enc_25 ((fun _=>default) i))):=by kernel_rfl
def f82_step0 (K:List PA→Prop) (X0:St→Prop) (c0:Int) (s:set) (t14v0:Int) (v23v0:(Sl Frac)):Prop :=
  (condP (decide (t14v0 < (s.corners.len : Int)))
   (((0≤t14v0∧t14v0 < (s.corners.len:Int))) ∧
   ((((v23v0.len+1) * 16≤140737488355328∧v23v0.len+1≤9223372036854775807)) ∧
   (X0 (f82_g0 c0 s (w64 (t14v0+(1:Int))) (v23v0.len+1) (appG v23v0.len (fun i=>enc_25 (v23v0.get i)) (fun _=>(enc_25 (s101 c0 (s.corners.get t14v0.toNat)))))))))
   (f82_at1 K v23v0.len (fun i=>enc_25 (v23v0.get i))))
theorem f82_stepeq0 (K : List PA → Prop) (X0 : St → Prop) (c0 : Int) (s : set) (t14v0 : Int) (v23v0 : (Sl Frac)) :
  vc Try.prog G82 ann82 (cd (cdF Try.f82 [1,1,0,1,0]) [0]) (loopK Try.prog ann82 3 X0 (blockK 0 (sqK Try.prog G82 ann82 (cdF Try.f82 [1,1,1]) (bodyK Try.prog Try.f82 K)))) (f82_g0 c0 s t14v0 v23v0.len (fun i=>enc_25 (v23v0.get i))) =
  f82_step0 K X0 c0 s t14v0 v23v0:=by kernel_rfl
theorem f82_loop0 (K : List PA → Prop) (c0 : Int) (s : set) (t14v0 : Int) (v23v0_n : Nat) (v23v0_g : Nat → List PV)
  (h:∀ X0:St→Prop,(∀ (t14v0:Int) (v23v0:(Sl Frac)),f82_step0 K X0 c0 s t14v0 v23v0→X0 (f82_g0 c0 s t14v0 v23v0.len (fun i=>enc_25 (v23v0.get i))))→X0 (f82_g0 c0 s t14v0 v23v0_n v23v0_g)) :
  f82_at0 K c0 s t14v0 v23v0_n v23v0_g:=by
  have e:f82_at0 K c0 s t14v0 v23v0_n v23v0_g=(∀ X:St→Prop,(∀ s,vc Try.prog G82 ann82 (cd (cdF Try.f82 [1,1,0,1,0]) [0]) (loopK Try.prog ann82 3 X (blockK 0 (sqK Try.prog G82 ann82 (cdF Try.f82 [1,1,1]) (bodyK Try.prog Try.f82 K)))) s→X s)→X (f82_g0 c0 s t14v0 v23v0_n v23v0_g)):=by kernel_rfl
  refine ofEq e ?_
  intro X hX
  refine h X ?_
  intro t14v0 v23v0 hs
  refine hX _ ?_
  have e2:=f82_stepeq0 K X c0 s t14v0 v23v0
  rw [e2]
  exact hs
theorem f82_eq1 (K : List PA → Prop) (v23v1 : (Sl Frac)) :
  f82_at1 K v23v1.len (fun i=>enc_25 (v23v1.get i)) =
  ((IsE enc_25 2 2 (fun i=>enc_25 (v23v1.get i))∧(p111 v23v1=true)) ∧
  (f82_at2 K ((s111 v23v1).Num) ((s111 v23v1).Den) v23v1.len (fun i=>enc_25 (v23v1.get i)))):=by kernel_rfl
theorem f82_eq2 (K : List PA → Prop) (low_0v2 : Int) (low_1v2 : Int) (v23v2 : (Sl Frac)) :
  f82_at2 K low_0v2 low_1v2 v23v2.len (fun i=>enc_25 (v23v2.get i)) =
  ((IsE enc_25 2 2 (fun i=>enc_25 (v23v2.get i))∧(p111a v23v2=true)) ∧
  (f82_at3 K low_0v2 low_1v2 ((s111a v23v2).Num) ((s111a v23v2).Den))):=by kernel_rfl
theorem f82_eq3 (K : List PA → Prop) (low_0v2 : Int) (low_1v2 : Int) (high_0v3 : Int) (high_1v3 : Int) :
  f82_at3 K low_0v2 low_1v2 high_0v3 high_1v3 =
  (((p89 low_0v2 low_1v2=true)) ∧
  (((p89 high_0v3 high_1v3=true)) ∧
  (K [.agg [.int .i64 ((s89 low_0v2 low_1v2).Num),.int .i64 ((s89 low_0v2 low_1v2).Den)],.agg [.int .i64 ((s89 high_0v3 high_1v3).Num),.int .i64 ((s89 high_0v3 high_1v3).Den)]]))):=by kernel_rfl
abbrev e82 (r:(Frac×Frac)):List PA:=[.agg [.int .i64 r.1.Num,.int .i64 r.1.Den],.agg [.int .i64 r.2.Num,.int .i64 r.2.Den]]
attribute [irreducible] f82_at0 f82_at1 f82_at2 f82_at3
def s82_at3 (low_0v2:Int) (low_1v2:Int) (high_0v3:Int) (high_1v3:Int):(Frac×Frac) :=
  ((s89 low_0v2 low_1v2),(s89 high_0v3 high_1v3))
def p82_at3 (low_0v2:Int) (low_1v2:Int) (high_0v3:Int) (high_1v3:Int):Bool :=
  (decide ((p89 low_0v2 low_1v2=true)) &&
  (decide ((p89 high_0v3 high_1v3=true)) &&
  true))
theorem q82_at3 (K:List PA→Prop) (low_0v2:Int) (low_1v2:Int) (high_0v3:Int) (high_1v3:Int) (hs:p82_at3 low_0v2 low_1v2 high_0v3 high_1v3=true) (hk:K (e82 (s82_at3 low_0v2 low_1v2 high_0v3 high_1v3))):f82_at3 K low_0v2 low_1v2 high_0v3 high_1v3:=by
  refine ofEq (f82_eq3 K low_0v2 low_1v2 high_0v3 high_1v3) ?_
  unfold p82_at3 at hs
  unfold s82_at3 at hk
  exact (andK hs fun hc hs=>⟨hc,(andK hs fun hc hs=>⟨hc,hk⟩)⟩)
def s82_at2 (low_0v2:Int) (low_1v2:Int) (v23v2:(Sl Frac)):(Frac×Frac) :=
  (s82_at3 low_0v2 low_1v2 ((s111a v23v2).Num) ((s111a v23v2).Den))
def p82_at2 (low_0v2:Int) (low_1v2:Int) (v23v2:(Sl Frac)):Bool :=
  (decide ((p111a v23v2=true)) &&
  (p82_at3 low_0v2 low_1v2 ((s111a v23v2).Num) ((s111a v23v2).Den)))
theorem q82_at2 (K:List PA→Prop) (low_0v2:Int) (low_1v2:Int) (v23v2:(Sl Frac)) (v23v2_g:Nat→List PV) (v23v2_h:v23v2_g=fun i=>enc_25 (v23v2.get i)) (hs:p82_at2 low_0v2 low_1v2 v23v2=true) (hk:K (e82 (s82_at2 low_0v2 low_1v2 v23v2))):f82_at2 K low_0v2 low_1v2 v23v2.len v23v2_g:=by
  subst v23v2_h
  refine ofEq (f82_eq2 K low_0v2 low_1v2 v23v2) ?_
  unfold p82_at2 at hs
  unfold s82_at2 at hk
  exact (andK hs fun hc hs=>⟨⟨isE,hc⟩,(q82_at3 K low_0v2 low_1v2 ((s111a v23v2).Num) ((s111a v23v2).Den) hs hk)⟩)
def s82_at1 (v23v1:(Sl Frac)):(Frac×Frac) :=
  (s82_at2 ((s111 v23v1).Num) ((s111 v23v1).Den) v23v1)
def p82_at1 (v23v1:(Sl Frac)):Bool :=
  (decide ((p111 v23v1=true)) &&
  (p82_at2 ((s111 v23v1).Num) ((s111 v23v1).Den) v23v1))
theorem q82_at1 (K:List PA→Prop) (v23v1:(Sl Frac)) (v23v1_g:Nat→List PV) (v23v1_h:v23v1_g=fun i=>enc_25 (v23v1.get i)) (hs:p82_at1 v23v1=true) (hk:K (e82 (s82_at1 v23v1))):f82_at1 K v23v1.len v23v1_g:=by
  subst v23v1_h
  refine ofEq (f82_eq1 K v23v1) ?_
  unfold p82_at1 at hs
  unfold s82_at1 at hk
  exact (andK hs fun hc hs=>⟨⟨isE,hc⟩,(q82_at2 K ((s111 v23v1).Num) ((s111 v23v1).Den) v23v1 (fun i=>enc_25 (v23v1.get i)) rfl hs hk)⟩)
def s82_st0 (c0:Int) (s:set) (S0:Int→(Sl Frac)→(Frac×Frac)) (t14v0:Int) (v23v0:(Sl Frac)):(Frac×Frac) :=
  (cond (decide (t14v0 < (s.corners.len : Int)))
   (S0 (w64 (t14v0+(1:Int))) (⟨(v23v0.len+1),(appT v23v0.len v23v0.get (fun _=>(s101 c0 (s.corners.get t14v0.toNat))))⟩:Sl Frac))
   (s82_at1 v23v0))
def p82_st0 (c0:Int) (s:set) (P0:Int→(Sl Frac)→Bool) (t14v0:Int) (v23v0:(Sl Frac)):Bool :=
  (cond (decide (t14v0 < (s.corners.len : Int)))
   (decide ((0≤t14v0∧t14v0 < (s.corners.len:Int))) &&
   (decide (((v23v0.len+1) * 16≤140737488355328∧v23v0.len+1≤9223372036854775807)) &&
   (P0 (w64 (t14v0+(1:Int))) (⟨(v23v0.len+1),(appT v23v0.len v23v0.get (fun _=>(s101 c0 (s.corners.get t14v0.toNat))))⟩:Sl Frac))))
   (p82_at1 v23v0))
def s82_lp0 (c0 : Int) (s : set) : Nat → Int → (Sl Frac) → (Frac × Frac)
  | 0=>fun _ _=>default
  | k+1=>s82_st0 c0 s (s82_lp0 c0 s k)
def p82_lp0 (c0 : Int) (s : set) : Nat → Int → (Sl Frac) → Bool
  | 0=>fun _ _=>false
  | k+1=>p82_st0 c0 s (p82_lp0 c0 s k)
def s82_at0 (c0:Int) (s:set) (t14v0:Int) (v23v0:(Sl Frac)):(Frac×Frac):=s82_lp0 c0 s Fuel t14v0 v23v0
def p82_at0 (c0:Int) (s:set) (t14v0:Int) (v23v0:(Sl Frac)):Bool:=p82_lp0 c0 s Fuel t14v0 v23v0
theorem q82_at0 (K:List PA→Prop) (c0:Int) (s:set) (t14v0:Int) (v23v0:(Sl Frac)) (v23v0_g:Nat→List PV) (v23v0_h:v23v0_g=fun i=>enc_25 (v23v0.get i)) (hs:p82_at0 c0 s t14v0 v23v0=true) (hk:K (e82 (s82_at0 c0 s t14v0 v23v0))):f82_at0 K c0 s t14v0 v23v0.len v23v0_g:=by
  refine f82_loop0 K c0 s t14v0 v23v0.len v23v0_g ?_
  intro X0 hstep
  have key:∀ (k:Nat) (t14v0:Int) (v23v0:(Sl Frac)) (v23v0_g:Nat→List PV) (v23v0_h:v23v0_g=fun i=>enc_25 (v23v0.get i)),p82_lp0 c0 s k t14v0 v23v0=true→K (e82 (s82_lp0 c0 s k t14v0 v23v0))→X0 (f82_g0 c0 s t14v0 v23v0.len v23v0_g):=by
    intro k
    induction k with
    | zero=>intro t14v0 v23v0 v23v0_g v23v0_h hs;exact absurd hs Bool.false_ne_true
    | succ k ih =>
      intro t14v0 v23v0 v23v0_g v23v0_h hs hk
      subst v23v0_h
      refine hstep t14v0 v23v0 ?_
      have hs:p82_st0 c0 s (p82_lp0 c0 s k) t14v0 v23v0=true:=hs
      have hk:K (e82 (s82_st0 c0 s (s82_lp0 c0 s k) t14v0 v23v0)):=hk
      unfold p82_st0 at hs
      unfold s82_st0 at hk
      generalize s82_lp0 c0 s k=S0 at hk ih
      generalize p82_lp0 c0 s k=P0 at hs ih
      have hX0:=ih
      exact (condB_go (K := fun r => K (e82 r))
       (fun hs hk=>(andK hs fun hc hs=>⟨hc,(andK hs fun hc hs=>⟨hc,(hX0 (w64 (t14v0+(1:Int))) (⟨(v23v0.len+1),(appT v23v0.len v23v0.get (fun _=>(s101 c0 (s.corners.get t14v0.toNat))))⟩:Sl Frac) (appG v23v0.len (fun i=>enc_25 (v23v0.get i)) (fun _=>(enc_25 (s101 c0 (s.corners.get t14v0.toNat))))) (appG_e (enc:=enc_25) (f:=v23v0.get) (h:=(fun _=>(s101 c0 (s.corners.get t14v0.toNat)))) rfl rfl) hs hk)⟩)⟩))
       (fun hs hk=>(q82_at1 K v23v0 (fun i=>enc_25 (v23v0.get i)) rfl hs hk)) hs hk)
  exact key _ t14v0 v23v0 v23v0_g v23v0_h hs hk
def s82 (c0:Int) (s:set):(Frac×Frac) :=
  (s82_at0 c0 s (0:Int) (⟨0,(fun _=>default)⟩:Sl Frac))
def p82 (c0:Int) (s:set):Bool :=
  (p82_at0 c0 s (0:Int) (⟨0,(fun _=>default)⟩:Sl Frac))
theorem q82 (c0:Int) (s:set) (K:List PA→Prop) (hs:p82 c0 s=true) (hk:K (e82 (s82 c0 s))):vcFun Try.prog G82 ann82 82 [.agg [.sl s.list.Gates.len 3 (fun i=>enc_55 (s.list.Gates.get i)),.sl s.corners.len 3 (fun i=>enc_118 (s.corners.get i))],.one (.fn 101 [] [.fp (enc_3 c0) 0])] K:=by
  refine ofEq (f82_top c0 s K) ?_
  unfold p82 at hs
  unfold s82 at hk
  exact (q82_at0 K c0 s (0:Int) (⟨0,(fun _=>default)⟩:Sl Frac) (fun i=>enc_25 ((fun _=>default) i)) rfl hs hk)
abbrev G82a:Ctrs:=csm T82 (fun _ _=>[]) (fun _=>false)
def ann82a:Ann:=⟨39,[(0,⟨[1,2,4,5],[2,4,5],[],[],[],[],[]⟩),(1,⟨[1,2,4,5,6],[2,4,5],[],[],[],[],[]⟩),(2,⟨[1,4,5,6,12,13,14],[4,5],[],[],[],[],[]⟩),(3,⟨[1,4,5,6,12,13,14,15],[4,5,23],[],[],[],[],[]⟩),(4,⟨[1,4,5,6,8,12,13,14],[4,5,8,23],[],[],[],[],[]⟩),(5,⟨[1,4,5,6,12,13,14],[4,5,23],[],[],[],[],[]⟩),(6,⟨[1,4,5,6,12,13,14],[4,5,23],[],[],[],[],[]⟩),(7,⟨[4,5,6,9],[4,5,9,23],[],[],[],[],[]⟩),(8,⟨[4,5,9,10],[4,5,9,10],[],[],[],[],[]⟩),(9,⟨[4,5],[4,5],[],[],[],[],[]⟩)],
  [(3,⟨[1,4,5,6,12,13,14],[4,5,23],[(6,23,25,fun _=>enc_25 default)],[],[],[],[]⟩)],
  [(7,⟨[4,5,6],[4,5,23],[],[],[],[],[]⟩),(8,⟨[4,5,6,9],[4,5,9,23],[],[],[],[],[]⟩),(9,⟨[4,5,9,10],[4,5,9,10],[],[],[],[],[]⟩)],
  [],[]⟩
def f82a_g0 (s:set) (t14v0:Int) (v23v0_n:Nat) (v23v0_g:Nat→List PV):St:=⟨[(1,.one (.c (.p (.fn 83 [] [])))),(4,.one (.c (.ptr 4 0))),(5,.one (.c (.ptr 5 0))),(6,.one (.c (.vec 23))),(12,.one (.c (.p (.sl s.corners.len 3 (fun i=>enc_118 (s.corners.get i)))))),(13,.one (.c (.p (.int .i64 (s.corners.len:Int))))),(14,.one (.c (.p (.int .i64 t14v0))))],[(4,.box 25 [.p (.int .i64 (0:Int)),.p (.int .i64 (0:Int))]),(5,.box 25 [.p (.int .i64 (0:Int)),.p (.int .i64 (0:Int))]),(23,.vec 25 2 16 v23v0_n v23v0_g)],[]⟩
def f82a_at0 (K:List PA→Prop) (s:set) (t14v0:Int) (v23v0_n:Nat) (v23v0_g:Nat→List PV):Prop:=vc Try.prog G82a ann82a (cdF Try.f82 [1,1,0,1,0]) (blockK 0 (sqK Try.prog G82a ann82a (cdF Try.f82 [1,1,1]) (bodyK Try.prog Try.f82 K))) (f82a_g0 s t14v0 v23v0_n v23v0_g)
def f82a_g1 (v23v1_n:Nat) (v23v1_g:Nat→List PV):St:=⟨[(4,.one (.c (.ptr 4 0))),(5,.one (.c (.ptr 5 0))),(6,.one (.c (.vec 23)))],[(4,.box 25 [.p (.int .i64 (0:Int)),.p (.int .i64 (0:Int))]),(5,.box 25 [.p (.int .i64 (0:Int)),.p (.int .i64 (0:Int))]),(23,.vec 25 2 16 v23v1_n v23v1_g)],[]⟩
def f82a_at1 (K:List PA→Prop) (v23v1_n:Nat) (v23v1_g:Nat→List PV):Prop:=vc Try.prog G82a ann82a (cdF Try.f82 [1,1,1]) (bodyK Try.prog Try.f82 K) (f82a_g1 v23v1_n v23v1_g)
def f82a_g2 (low_0v2:Int) (low_1v2:Int) (v23v2_n:Nat) (v23v2_g:Nat→List PV):St:=⟨[(4,.one (.c (.ptr 4 0))),(5,.one (.c (.ptr 5 0))),(6,.one (.c (.vec 23))),(9,.one (.c (.ptr 9 0)))],[(4,.box 25 [.p (.int .i64 (0:Int)),.p (.int .i64 (0:Int))]),(5,.box 25 [.p (.int .i64 (0:Int)),.p (.int .i64 (0:Int))]),(9,.box 25 [.p (.int .i64 low_0v2),.p (.int .i64 low_1v2)]),(23,.vec 25 2 16 v23v2_n v23v2_g)],[]⟩
def f82a_at2 (K:List PA→Prop) (low_0v2:Int) (low_1v2:Int) (v23v2_n:Nat) (v23v2_g:Nat→List PV):Prop:=vc Try.prog G82a ann82a (cdF Try.f82 [1,1,1,1]) (bodyK Try.prog Try.f82 K) (f82a_g2 low_0v2 low_1v2 v23v2_n v23v2_g)
def f82a_g3 (low_0v2:Int) (low_1v2:Int) (high_0v3:Int) (high_1v3:Int):St:=⟨[(4,.one (.c (.ptr 4 0))),(5,.one (.c (.ptr 5 0))),(9,.one (.c (.ptr 9 0))),(10,.one (.c (.ptr 10 0)))],[(4,.box 25 [.p (.int .i64 (0:Int)),.p (.int .i64 (0:Int))]),(5,.box 25 [.p (.int .i64 (0:Int)),.p (.int .i64 (0:Int))]),(9,.box 25 [.p (.int .i64 low_0v2),.p (.int .i64 low_1v2)]),(10,.box 25 [.p (.int .i64 high_0v3),.p (.int .i64 high_1v3)])],[]⟩
def f82a_at3 (K:List PA→Prop) (low_0v2:Int) (low_1v2:Int) (high_0v3:Int) (high_1v3:Int):Prop:=vc Try.prog G82a ann82a (cdF Try.f82 [1,1,1,1,1]) (bodyK Try.prog Try.f82 K) (f82a_g3 low_0v2 low_1v2 high_0v3 high_1v3)
theorem f82a_top (s : set) (K : List PA → Prop) :
  vcFun Try.prog G82a ann82a 82 [.agg [.sl s.list.Gates.len 3 (fun i=>enc_55 (s.list.Gates.get i)),.sl s.corners.len 3 (fun i=>enc_118 (s.corners.get i))],.one (.fn 83 [] [])] K =
  (f82a_at0 K s (0:Int) 0 (fun i=>enc_25 ((fun _=>default) i))):=by kernel_rfl
def f82a_step0 (K:List PA→Prop) (X0:St→Prop) (s:set) (t14v0:Int) (v23v0:(Sl Frac)):Prop :=
  (condP (decide (t14v0 < (s.corners.len : Int)))
   (((0≤t14v0∧t14v0 < (s.corners.len:Int))) ∧
   ((((v23v0.len+1) * 16≤140737488355328∧v23v0.len+1≤9223372036854775807)) ∧
   (X0 (f82a_g0 s (w64 (t14v0+(1:Int))) (v23v0.len+1) (appG v23v0.len (fun i=>enc_25 (v23v0.get i)) (fun _=>(enc_25 (s83 (s.corners.get t14v0.toNat)))))))))
   (f82a_at1 K v23v0.len (fun i=>enc_25 (v23v0.get i))))
theorem f82a_stepeq0 (K : List PA → Prop) (X0 : St → Prop) (s : set) (t14v0 : Int) (v23v0 : (Sl Frac)) :
  vc Try.prog G82a ann82a (cd (cdF Try.f82 [1,1,0,1,0]) [0]) (loopK Try.prog ann82a 3 X0 (blockK 0 (sqK Try.prog G82a ann82a (cdF Try.f82 [1,1,1]) (bodyK Try.prog Try.f82 K)))) (f82a_g0 s t14v0 v23v0.len (fun i=>enc_25 (v23v0.get i))) =
  f82a_step0 K X0 s t14v0 v23v0:=by kernel_rfl
theorem f82a_loop0 (K : List PA → Prop) (s : set) (t14v0 : Int) (v23v0_n : Nat) (v23v0_g : Nat → List PV)
  (h:∀ X0:St→Prop,(∀ (t14v0:Int) (v23v0:(Sl Frac)),f82a_step0 K X0 s t14v0 v23v0→X0 (f82a_g0 s t14v0 v23v0.len (fun i=>enc_25 (v23v0.get i))))→X0 (f82a_g0 s t14v0 v23v0_n v23v0_g)) :
  f82a_at0 K s t14v0 v23v0_n v23v0_g:=by
  have e:f82a_at0 K s t14v0 v23v0_n v23v0_g=(∀ X:St→Prop,(∀ s,vc Try.prog G82a ann82a (cd (cdF Try.f82 [1,1,0,1,0]) [0]) (loopK Try.prog ann82a 3 X (blockK 0 (sqK Try.prog G82a ann82a (cdF Try.f82 [1,1,1]) (bodyK Try.prog Try.f82 K)))) s→X s)→X (f82a_g0 s t14v0 v23v0_n v23v0_g)):=by kernel_rfl
  refine ofEq e ?_
  intro X hX
  refine h X ?_
  intro t14v0 v23v0 hs
  refine hX _ ?_
  have e2:=f82a_stepeq0 K X s t14v0 v23v0
  rw [e2]
  exact hs
theorem f82a_eq1 (K : List PA → Prop) (v23v1 : (Sl Frac)) :
  f82a_at1 K v23v1.len (fun i=>enc_25 (v23v1.get i)) =
  ((IsE enc_25 2 2 (fun i=>enc_25 (v23v1.get i))∧(p111 v23v1=true)) ∧
  (f82a_at2 K ((s111 v23v1).Num) ((s111 v23v1).Den) v23v1.len (fun i=>enc_25 (v23v1.get i)))):=by kernel_rfl
theorem f82a_eq2 (K : List PA → Prop) (low_0v2 : Int) (low_1v2 : Int) (v23v2 : (Sl Frac)) :
  f82a_at2 K low_0v2 low_1v2 v23v2.len (fun i=>enc_25 (v23v2.get i)) =
  ((IsE enc_25 2 2 (fun i=>enc_25 (v23v2.get i))∧(p111a v23v2=true)) ∧
  (f82a_at3 K low_0v2 low_1v2 ((s111a v23v2).Num) ((s111a v23v2).Den))):=by kernel_rfl
theorem f82a_eq3 (K : List PA → Prop) (low_0v2 : Int) (low_1v2 : Int) (high_0v3 : Int) (high_1v3 : Int) :
  f82a_at3 K low_0v2 low_1v2 high_0v3 high_1v3 =
  (((p89 low_0v2 low_1v2=true)) ∧
  (((p89 high_0v3 high_1v3=true)) ∧
  (K [.agg [.int .i64 ((s89 low_0v2 low_1v2).Num),.int .i64 ((s89 low_0v2 low_1v2).Den)],.agg [.int .i64 ((s89 high_0v3 high_1v3).Num),.int .i64 ((s89 high_0v3 high_1v3).Den)]]))):=by kernel_rfl
abbrev e82a (r:(Frac×Frac)):List PA:=[.agg [.int .i64 r.1.Num,.int .i64 r.1.Den],.agg [.int .i64 r.2.Num,.int .i64 r.2.Den]]
attribute [irreducible] f82a_at0 f82a_at1 f82a_at2 f82a_at3
def s82a_at3 (low_0v2:Int) (low_1v2:Int) (high_0v3:Int) (high_1v3:Int):(Frac×Frac) :=
  ((s89 low_0v2 low_1v2),(s89 high_0v3 high_1v3))
def p82a_at3 (low_0v2:Int) (low_1v2:Int) (high_0v3:Int) (high_1v3:Int):Bool :=
  (decide ((p89 low_0v2 low_1v2=true)) &&
  (decide ((p89 high_0v3 high_1v3=true)) &&
  true))
theorem q82a_at3 (K:List PA→Prop) (low_0v2:Int) (low_1v2:Int) (high_0v3:Int) (high_1v3:Int) (hs:p82a_at3 low_0v2 low_1v2 high_0v3 high_1v3=true) (hk:K (e82a (s82a_at3 low_0v2 low_1v2 high_0v3 high_1v3))):f82a_at3 K low_0v2 low_1v2 high_0v3 high_1v3:=by
  refine ofEq (f82a_eq3 K low_0v2 low_1v2 high_0v3 high_1v3) ?_
  unfold p82a_at3 at hs
  unfold s82a_at3 at hk
  exact (andK hs fun hc hs=>⟨hc,(andK hs fun hc hs=>⟨hc,hk⟩)⟩)
def s82a_at2 (low_0v2:Int) (low_1v2:Int) (v23v2:(Sl Frac)):(Frac×Frac) :=
  (s82a_at3 low_0v2 low_1v2 ((s111a v23v2).Num) ((s111a v23v2).Den))
def p82a_at2 (low_0v2:Int) (low_1v2:Int) (v23v2:(Sl Frac)):Bool :=
  (decide ((p111a v23v2=true)) &&
  (p82a_at3 low_0v2 low_1v2 ((s111a v23v2).Num) ((s111a v23v2).Den)))
theorem q82a_at2 (K:List PA→Prop) (low_0v2:Int) (low_1v2:Int) (v23v2:(Sl Frac)) (v23v2_g:Nat→List PV) (v23v2_h:v23v2_g=fun i=>enc_25 (v23v2.get i)) (hs:p82a_at2 low_0v2 low_1v2 v23v2=true) (hk:K (e82a (s82a_at2 low_0v2 low_1v2 v23v2))):f82a_at2 K low_0v2 low_1v2 v23v2.len v23v2_g:=by
  subst v23v2_h
  refine ofEq (f82a_eq2 K low_0v2 low_1v2 v23v2) ?_
  unfold p82a_at2 at hs
  unfold s82a_at2 at hk
  exact (andK hs fun hc hs=>⟨⟨isE,hc⟩,(q82a_at3 K low_0v2 low_1v2 ((s111a v23v2).Num) ((s111a v23v2).Den) hs hk)⟩)
def s82a_at1 (v23v1:(Sl Frac)):(Frac×Frac) :=
  (s82a_at2 ((s111 v23v1).Num) ((s111 v23v1).Den) v23v1)
def p82a_at1 (v23v1:(Sl Frac)):Bool :=
  (decide ((p111 v23v1=true)) &&
  (p82a_at2 ((s111 v23v1).Num) ((s111 v23v1).Den) v23v1))
theorem q82a_at1 (K:List PA→Prop) (v23v1:(Sl Frac)) (v23v1_g:Nat→List PV) (v23v1_h:v23v1_g=fun i=>enc_25 (v23v1.get i)) (hs:p82a_at1 v23v1=true) (hk:K (e82a (s82a_at1 v23v1))):f82a_at1 K v23v1.len v23v1_g:=by
  subst v23v1_h
  refine ofEq (f82a_eq1 K v23v1) ?_
  unfold p82a_at1 at hs
  unfold s82a_at1 at hk
  exact (andK hs fun hc hs=>⟨⟨isE,hc⟩,(q82a_at2 K ((s111 v23v1).Num) ((s111 v23v1).Den) v23v1 (fun i=>enc_25 (v23v1.get i)) rfl hs hk)⟩)
def s82a_st0 (s:set) (S0:Int→(Sl Frac)→(Frac×Frac)) (t14v0:Int) (v23v0:(Sl Frac)):(Frac×Frac) :=
  (cond (decide (t14v0 < (s.corners.len : Int)))
   (S0 (w64 (t14v0+(1:Int))) (⟨(v23v0.len+1),(appT v23v0.len v23v0.get (fun _=>(s83 (s.corners.get t14v0.toNat))))⟩:Sl Frac))
   (s82a_at1 v23v0))
def p82a_st0 (s:set) (P0:Int→(Sl Frac)→Bool) (t14v0:Int) (v23v0:(Sl Frac)):Bool :=
  (cond (decide (t14v0 < (s.corners.len : Int)))
   (decide ((0≤t14v0∧t14v0 < (s.corners.len:Int))) &&
   (decide (((v23v0.len+1) * 16≤140737488355328∧v23v0.len+1≤9223372036854775807)) &&
   (P0 (w64 (t14v0+(1:Int))) (⟨(v23v0.len+1),(appT v23v0.len v23v0.get (fun _=>(s83 (s.corners.get t14v0.toNat))))⟩:Sl Frac))))
   (p82a_at1 v23v0))
def s82a_lp0 (s : set) : Nat → Int → (Sl Frac) → (Frac × Frac)
  | 0=>fun _ _=>default
  | k+1=>s82a_st0 s (s82a_lp0 s k)
def p82a_lp0 (s : set) : Nat → Int → (Sl Frac) → Bool
  | 0=>fun _ _=>false
  | k+1=>p82a_st0 s (p82a_lp0 s k)
def s82a_at0 (s:set) (t14v0:Int) (v23v0:(Sl Frac)):(Frac×Frac):=s82a_lp0 s Fuel t14v0 v23v0
def p82a_at0 (s:set) (t14v0:Int) (v23v0:(Sl Frac)):Bool:=p82a_lp0 s Fuel t14v0 v23v0
theorem q82a_at0 (K:List PA→Prop) (s:set) (t14v0:Int) (v23v0:(Sl Frac)) (v23v0_g:Nat→List PV) (v23v0_h:v23v0_g=fun i=>enc_25 (v23v0.get i)) (hs:p82a_at0 s t14v0 v23v0=true) (hk:K (e82a (s82a_at0 s t14v0 v23v0))):f82a_at0 K s t14v0 v23v0.len v23v0_g:=by
  refine f82a_loop0 K s t14v0 v23v0.len v23v0_g ?_
  intro X0 hstep
  have key:∀ (k:Nat) (t14v0:Int) (v23v0:(Sl Frac)) (v23v0_g:Nat→List PV) (v23v0_h:v23v0_g=fun i=>enc_25 (v23v0.get i)),p82a_lp0 s k t14v0 v23v0=true→K (e82a (s82a_lp0 s k t14v0 v23v0))→X0 (f82a_g0 s t14v0 v23v0.len v23v0_g):=by
    intro k
    induction k with
    | zero=>intro t14v0 v23v0 v23v0_g v23v0_h hs;exact absurd hs Bool.false_ne_true
    | succ k ih =>
      intro t14v0 v23v0 v23v0_g v23v0_h hs hk
      subst v23v0_h
      refine hstep t14v0 v23v0 ?_
      have hs:p82a_st0 s (p82a_lp0 s k) t14v0 v23v0=true:=hs
      have hk:K (e82a (s82a_st0 s (s82a_lp0 s k) t14v0 v23v0)):=hk
      unfold p82a_st0 at hs
      unfold s82a_st0 at hk
      generalize s82a_lp0 s k=S0 at hk ih
      generalize p82a_lp0 s k=P0 at hs ih
      have hX0:=ih
      exact (condB_go (K := fun r => K (e82a r))
       (fun hs hk=>(andK hs fun hc hs=>⟨hc,(andK hs fun hc hs=>⟨hc,(hX0 (w64 (t14v0+(1:Int))) (⟨(v23v0.len+1),(appT v23v0.len v23v0.get (fun _=>(s83 (s.corners.get t14v0.toNat))))⟩:Sl Frac) (appG v23v0.len (fun i=>enc_25 (v23v0.get i)) (fun _=>(enc_25 (s83 (s.corners.get t14v0.toNat))))) (appG_e (enc:=enc_25) (f:=v23v0.get) (h:=(fun _=>(s83 (s.corners.get t14v0.toNat)))) rfl rfl) hs hk)⟩)⟩))
       (fun hs hk=>(q82a_at1 K v23v0 (fun i=>enc_25 (v23v0.get i)) rfl hs hk)) hs hk)
  exact key _ t14v0 v23v0 v23v0_g v23v0_h hs hk
def s82a (s:set):(Frac×Frac) :=
  (s82a_at0 s (0:Int) (⟨0,(fun _=>default)⟩:Sl Frac))
def p82a (s:set):Bool :=
  (p82a_at0 s (0:Int) (⟨0,(fun _=>default)⟩:Sl Frac))
theorem q82a (s:set) (K:List PA→Prop) (hs:p82a s=true) (hk:K (e82a (s82a s))):vcFun Try.prog G82a ann82a 82 [.agg [.sl s.list.Gates.len 3 (fun i=>enc_55 (s.list.Gates.get i)),.sl s.corners.len 3 (fun i=>enc_118 (s.corners.get i))],.one (.fn 83 [] [])] K:=by
  refine ofEq (f82a_top s K) ?_
  unfold p82a at hs
  unfold s82a at hk
  exact (q82a_at0 K s (0:Int) (⟨0,(fun _=>default)⟩:Sl Frac) (fun i=>enc_25 ((fun _=>default) i)) rfl hs hk)
def ctr82 : List PA → COut
  | [.agg [.sl a0_list_Gates_n a0_list_Gates_s a0_list_Gates_g,.sl a0_corners_n a0_corners_s a0_corners_g],.one (.fn 101 [] [.fp [.int .i64 c0] 0])]=>.det (IsE enc_55 3 a0_list_Gates_s a0_list_Gates_g∧IsE enc_118 3 a0_corners_s a0_corners_g∧p82 c0 (⟨(⟨(⟨a0_list_Gates_n,decF_55 a0_list_Gates_g⟩:(Sl Gate))⟩:list),(⟨a0_corners_n,decF_118 a0_corners_g⟩:(Sl straight))⟩:set)=true) [.agg [.int .i64 (((s82 c0 (⟨(⟨(⟨a0_list_Gates_n,decF_55 a0_list_Gates_g⟩:(Sl Gate))⟩:list),(⟨a0_corners_n,decF_118 a0_corners_g⟩:(Sl straight))⟩:set)).1).Num),.int .i64 (((s82 c0 (⟨(⟨(⟨a0_list_Gates_n,decF_55 a0_list_Gates_g⟩:(Sl Gate))⟩:list),(⟨a0_corners_n,decF_118 a0_corners_g⟩:(Sl straight))⟩:set)).1).Den)],.agg [.int .i64 (((s82 c0 (⟨(⟨(⟨a0_list_Gates_n,decF_55 a0_list_Gates_g⟩:(Sl Gate))⟩:list),(⟨a0_corners_n,decF_118 a0_corners_g⟩:(Sl straight))⟩:set)).2).Num),.int .i64 (((s82 c0 (⟨(⟨(⟨a0_list_Gates_n,decF_55 a0_list_Gates_g⟩:(Sl Gate))⟩:list),(⟨a0_corners_n,decF_118 a0_corners_g⟩:(Sl straight))⟩:set)).2).Den)]]
  | [.agg [.sl a0_list_Gates_n a0_list_Gates_s a0_list_Gates_g,.sl a0_corners_n a0_corners_s a0_corners_g],.one (.fn 83 [] [])]=>.det (IsE enc_55 3 a0_list_Gates_s a0_list_Gates_g∧IsE enc_118 3 a0_corners_s a0_corners_g∧p82a (⟨(⟨(⟨a0_list_Gates_n,decF_55 a0_list_Gates_g⟩:(Sl Gate))⟩:list),(⟨a0_corners_n,decF_118 a0_corners_g⟩:(Sl straight))⟩:set)=true) [.agg [.int .i64 (((s82a (⟨(⟨(⟨a0_list_Gates_n,decF_55 a0_list_Gates_g⟩:(Sl Gate))⟩:list),(⟨a0_corners_n,decF_118 a0_corners_g⟩:(Sl straight))⟩:set)).1).Num),.int .i64 (((s82a (⟨(⟨(⟨a0_list_Gates_n,decF_55 a0_list_Gates_g⟩:(Sl Gate))⟩:list),(⟨a0_corners_n,decF_118 a0_corners_g⟩:(Sl straight))⟩:set)).1).Den)],.agg [.int .i64 (((s82a (⟨(⟨(⟨a0_list_Gates_n,decF_55 a0_list_Gates_g⟩:(Sl Gate))⟩:list),(⟨a0_corners_n,decF_118 a0_corners_g⟩:(Sl straight))⟩:set)).2).Num),.int .i64 (((s82a (⟨(⟨(⟨a0_list_Gates_n,decF_55 a0_list_Gates_g⟩:(Sl Gate))⟩:list),(⟨a0_corners_n,decF_118 a0_corners_g⟩:(Sl straight))⟩:set)).2).Den)]]
  | _=>.no
theorem call82:Callable Try.prog 82:=⟨_,rfl,rfl,by kernel_rfl⟩
theorem ok82:Ok Try.prog 82 ctr82:=ok_tab okT82 call82 fun args K h=>by
  unfold ctr82 at h
  split at h
  · rename_i a0_list_Gates_n a0_list_Gates_s a0_list_Gates_g a0_corners_n a0_corners_s a0_corners_g c0
    obtain ⟨⟨⟨rfl,a0_list_Gates_f,rfl⟩,⟨rfl,a0_corners_f,rfl⟩,hs⟩,hk⟩:=h
    try rw [decF_enc_55 a0_list_Gates_f] at hs
    try rw [decF_enc_55 a0_list_Gates_f] at hk
    try rw [decF_enc_118 a0_corners_f] at hs
    try rw [decF_enc_118 a0_corners_f] at hk
    exact ⟨(fun _ _=>[]),(fun _=>false),ann82,q82 c0 (⟨(⟨(⟨a0_list_Gates_n,a0_list_Gates_f⟩:(Sl Gate))⟩:list),(⟨a0_corners_n,a0_corners_f⟩:(Sl straight))⟩:set) K hs hk⟩
  · rename_i a0_list_Gates_n a0_list_Gates_s a0_list_Gates_g a0_corners_n a0_corners_s a0_corners_g
    obtain ⟨⟨⟨rfl,a0_list_Gates_f,rfl⟩,⟨rfl,a0_corners_f,rfl⟩,hs⟩,hk⟩:=h
    try rw [decF_enc_55 a0_list_Gates_f] at hs
    try rw [decF_enc_55 a0_list_Gates_f] at hk
    try rw [decF_enc_118 a0_corners_f] at hs
    try rw [decF_enc_118 a0_corners_f] at hk
    exact ⟨(fun _ _=>[]),(fun _=>false),ann82a,q82a (⟨(⟨(⟨a0_list_Gates_n,a0_list_Gates_f⟩:(Sl Gate))⟩:list),(⟨a0_corners_n,a0_corners_f⟩:(Sl straight))⟩:set) K hs hk⟩
  · exact h.elim
abbrev T68:Tabs:=((((Tabs.nil.addF 67 ctr67).addF 82 ctr82).addF 89 ctr89).addF 98 ctr98)
theorem okT68:TabsOk Try.prog T68:=((((TabsOk.nil.addF ok67).addF ok82).addF ok89).addF ok98)
abbrev G68:Ctrs:=csm T68 (fun _ _=>[]) (fun _=>false)
def ann68:Ann:=⟨24,[(0,⟨[2,3,4,5],[2,3,4,5],[],[],[],[],[]⟩),(1,⟨[2,3,4,5,9],[2,3,4,5],[],[],[],[],[]⟩),(2,⟨[4,5,6],[4,5,6],[],[],[],[],[]⟩),(3,⟨[4,5],[4,5],[],[],[],[],[]⟩),(4,⟨[4,5],[4,5],[],[],[],[],[]⟩)],
  [],
  [],
  [],[]⟩
theorem f68_top (s : set) (z : Int) (K : List PA → Prop) :
  vcFun Try.prog G68 ann68 68 [.agg [.sl s.list.Gates.len 3 (fun i=>enc_55 (s.list.Gates.get i)),.sl s.corners.len 3 (fun i=>enc_118 (s.corners.get i))],.one (.int .i64 z)] K =
  ((IsE enc_55 3 3 (fun i=>enc_55 (s.list.Gates.get i))∧(p67 s.list=true)) ∧
  (condP (s67 s.list)
   ((IsE enc_55 3 3 (fun i=>enc_55 (s.list.Gates.get i))∧(p98 s.list=true)) ∧
   (((p89 ((s98 s.list).Low) (1:Int)=true)) ∧
   (((p89 ((s98 s.list).High) (1:Int)=true)) ∧
   (K [.agg [.int .i64 ((s89 ((s98 s.list).Low) (1:Int)).Num),.int .i64 ((s89 ((s98 s.list).Low) (1:Int)).Den)],.agg [.int .i64 ((s89 ((s98 s.list).High) (1:Int)).Num),.int .i64 ((s89 ((s98 s.list).High) (1:Int)).Den)]]))))
   ((IsE enc_55 3 3 (fun i=>enc_55 (s.list.Gates.get i))∧IsE enc_118 3 3 (fun i=>enc_118 (s.corners.get i))∧(p82 z s=true)) ∧
   (K [.agg [.int .i64 (((s82 z s).1).Num),.int .i64 (((s82 z s).1).Den)],.agg [.int .i64 (((s82 z s).2).Num),.int .i64 (((s82 z s).2).Den)]])))):=by kernel_rfl
abbrev e68 (r:(Frac×Frac)):List PA:=[.agg [.int .i64 r.1.Num,.int .i64 r.1.Den],.agg [.int .i64 r.2.Num,.int .i64 r.2.Den]]
def s68 (s:set) (z:Int):(Frac×Frac) :=
  (cond (s67 s.list)
   ((s89 ((s98 s.list).Low) (1:Int)),(s89 ((s98 s.list).High) (1:Int)))
   (((s82 z s).1),((s82 z s).2)))
def p68 (s:set) (z:Int):Bool :=
  (decide ((p67 s.list=true)) &&
  (cond (s67 s.list)
   (decide ((p98 s.list=true)) &&
   (decide ((p89 ((s98 s.list).Low) (1:Int)=true)) &&
   (decide ((p89 ((s98 s.list).High) (1:Int)=true)) &&
   true)))
   (decide ((p82 z s=true)) &&
   true)))
theorem q68 (s:set) (z:Int) (K:List PA→Prop) (hs:p68 s z=true) (hk:K (e68 (s68 s z))):vcFun Try.prog G68 ann68 68 [.agg [.sl s.list.Gates.len 3 (fun i=>enc_55 (s.list.Gates.get i)),.sl s.corners.len 3 (fun i=>enc_118 (s.corners.get i))],.one (.int .i64 z)] K:=by
  refine ofEq (f68_top s z K) ?_
  unfold p68 at hs
  unfold s68 at hk
  exact (andK hs fun hc hs => ⟨⟨isE, hc⟩, (condB_go (K := fun r => K (e68 r))
   (fun hs hk=>(andK hs fun hc hs=>⟨⟨isE,hc⟩,(andK hs fun hc hs=>⟨hc,(andK hs fun hc hs=>⟨hc,hk⟩)⟩)⟩))
   (fun hs hk=>(andK hs fun hc hs=>⟨⟨isE,isE,hc⟩,hk⟩)) hs hk)⟩)
def ctr68 : List PA → COut
  | [.agg [.sl a0_list_Gates_n a0_list_Gates_s a0_list_Gates_g,.sl a0_corners_n a0_corners_s a0_corners_g],.one (.int .i64 a1)]=>.det (IsE enc_55 3 a0_list_Gates_s a0_list_Gates_g∧IsE enc_118 3 a0_corners_s a0_corners_g∧p68 (⟨(⟨(⟨a0_list_Gates_n,decF_55 a0_list_Gates_g⟩:(Sl Gate))⟩:list),(⟨a0_corners_n,decF_118 a0_corners_g⟩:(Sl straight))⟩:set) a1=true) [.agg [.int .i64 (((s68 (⟨(⟨(⟨a0_list_Gates_n,decF_55 a0_list_Gates_g⟩:(Sl Gate))⟩:list),(⟨a0_corners_n,decF_118 a0_corners_g⟩:(Sl straight))⟩:set) a1).1).Num),.int .i64 (((s68 (⟨(⟨(⟨a0_list_Gates_n,decF_55 a0_list_Gates_g⟩:(Sl Gate))⟩:list),(⟨a0_corners_n,decF_118 a0_corners_g⟩:(Sl straight))⟩:set) a1).1).Den)],.agg [.int .i64 (((s68 (⟨(⟨(⟨a0_list_Gates_n,decF_55 a0_list_Gates_g⟩:(Sl Gate))⟩:list),(⟨a0_corners_n,decF_118 a0_corners_g⟩:(Sl straight))⟩:set) a1).2).Num),.int .i64 (((s68 (⟨(⟨(⟨a0_list_Gates_n,decF_55 a0_list_Gates_g⟩:(Sl Gate))⟩:list),(⟨a0_corners_n,decF_118 a0_corners_g⟩:(Sl straight))⟩:set) a1).2).Den)]]
  | _=>.no
theorem call68:Callable Try.prog 68:=⟨_,rfl,rfl,by kernel_rfl⟩
theorem ok68:Ok Try.prog 68 ctr68:=ok_tab okT68 call68 fun args K h=>by
  unfold ctr68 at h
  split at h
  · rename_i a0_list_Gates_n a0_list_Gates_s a0_list_Gates_g a0_corners_n a0_corners_s a0_corners_g a1
    obtain ⟨⟨⟨rfl,a0_list_Gates_f,rfl⟩,⟨rfl,a0_corners_f,rfl⟩,hs⟩,hk⟩:=h
    try rw [decF_enc_55 a0_list_Gates_f] at hs
    try rw [decF_enc_55 a0_list_Gates_f] at hk
    try rw [decF_enc_118 a0_corners_f] at hs
    try rw [decF_enc_118 a0_corners_f] at hk
    exact ⟨(fun _ _=>[]),(fun _=>false),ann68,q68 (⟨(⟨(⟨a0_list_Gates_n,a0_list_Gates_f⟩:(Sl Gate))⟩:list),(⟨a0_corners_n,a0_corners_f⟩:(Sl straight))⟩:set) a1 K hs hk⟩
  · exact h.elim
end Go.Proofs
