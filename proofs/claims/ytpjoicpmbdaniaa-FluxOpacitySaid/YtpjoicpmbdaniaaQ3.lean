/- Part 3 of what the proof rests on: a machine that runs functions of the program on pure values, proved sound; the functions that the law reaches, and what they compute. -/
import Derived.Test.YtpjoicpmbdaniaaQ2
import Derived.Sort.OwnSortedInts
import Derived.Lib.SlicesCompact
import Derived.Shelf.Sort.Plain
import Derived.Shelf.Slices.In.SortNone
import Derived.Shelf.Slices.CompactI
import Derived.Test.YtpjoicpmbdaniaaProg
import Derived.ProofKit
import Derived.Deep.Slices
set_option linter.all false
namespace Go.Pm

structure Tabs where
  fn:List (Nat×(List PA→COut))
  own:List (Nat×OwnK)
  it:List (Nat×(List PA→Option (List (List PA))))
def tabFn : List (Nat × (List PA → COut)) → Nat → List PA → COut
  | [],_=>fun _=>.no
  | (k,c) :: r,n=>match Nat.beq k n with | true=>c | false=>tabFn r n
def tabOwn (l:List (Nat×OwnK)) (f:Nat):OwnK:=match lk l f with | some c=>c | none=>.none
def tabIt (l:List (Nat×(List PA→Option (List (List PA))))) (f:Nat):List PA→Option (List (List PA)):=match lk l f with | some c=>c | none=>fun _=>none
def csm (T:Tabs) (memo:Nat→Int→List Int) (vv:Nat→Bool):Ctrs:=⟨tabFn T.fn,tabOwn T.own,tabIt T.it,memo,vv⟩
abbrev cs (T:Tabs):Ctrs:=csm T (fun _ _=>[]) (fun _=>false)
def Tabs.nil:Tabs:=⟨[],[],[]⟩
def Tabs.addF (T:Tabs) (f:Nat) (c:List PA→COut):Tabs:=⟨(f,c) :: T.fn,T.own,T.it⟩
def Tabs.addO (T:Tabs) (f:Nat) (c:OwnK):Tabs:=⟨T.fn,(f,c) :: T.own,T.it⟩
def Tabs.addI (T:Tabs) (f:Nat) (c:List PA→Option (List (List PA))):Tabs:=⟨T.fn,T.own,(f,c) :: T.it⟩

theorem ok_no {P:Program} {f:Nat} : Ok P f (fun _=>.no):=fun _ _ h=>h.elim
theorem it_no {P:Program} {f:Nat} : ItOk P f (fun _=>none):=fun _ _ h=>by cases h

structure TabsOk (P : Program) (T : Tabs) : Prop where
  fn:∀ x∈T.fn,Ok P x.1 x.2
  own:∀ x∈T.own,OwnOk P x.1 x.2
  it:∀ x∈T.it,ItOk P x.1 x.2
theorem TabsOk.nil {P:Program} : TabsOk P .nil:=⟨fun _ h=>(by cases h),fun _ h=>(by cases h),fun _ h=>(by cases h)⟩
theorem TabsOk.addF {P:Program} {T:Tabs} (h:TabsOk P T) {f:Nat} {c:List PA→COut} (hc:Ok P f c):TabsOk P (T.addF f c) :=
  ⟨fun x hx=>(List.mem_cons.1 hx).elim (fun e=>by rw [e];exact hc) (fun hx=>h.fn x hx),h.own,h.it⟩
theorem TabsOk.addO {P:Program} {T:Tabs} (h:TabsOk P T) {f:Nat} {c:OwnK} (hc:OwnOk P f c):TabsOk P (T.addO f c) :=
  ⟨h.fn,fun x hx=>(List.mem_cons.1 hx).elim (fun e=>by rw [e];exact hc) (fun hx=>h.own x hx),h.it⟩
theorem TabsOk.addI {P:Program} {T:Tabs} (h:TabsOk P T) {f:Nat} {c:List PA→Option (List (List PA))} (hc:ItOk P f c):TabsOk P (T.addI f c) :=
  ⟨h.fn,h.own,fun x hx=>(List.mem_cons.1 hx).elim (fun e=>by rw [e];exact hc) (fun hx=>h.it x hx)⟩
theorem TabsOk.all {P:Program} {T:Tabs} (h:TabsOk P T) (memo:Nat→Int→List Int) (vv:Nat→Bool):OkAll P (csm T memo vv):=by
  refine ⟨fun f=>?_,fun f=>?_,fun f=>?_⟩
  · show Ok P f (tabFn T.fn f)
    have key:∀ l:List (Nat×(List PA→COut)),(∀ x∈l,Ok P x.1 x.2)→Ok P f (tabFn l f):=by
      intro l
      induction l with
      | nil=>intro _;exact ok_no
      | cons x l ih =>
        intro hl
        obtain ⟨k,c⟩:=x
        simp only [tabFn]
        split
        · rename_i e
          have:=hl (k,c) List.mem_cons_self
          rw [← Nat.eq_of_beq_eq_true e];exact this
        · exact ih fun x hx=>hl x (List.mem_cons_of_mem _ hx)
    exact key T.fn h.fn
  · show OwnOk P f (tabOwn T.own f)
    unfold tabOwn
    split
    · rename_i c hc;exact h.own _ (lk_mem hc)
    · trivial
  · show ItOk P f (tabIt T.it f)
    unfold tabIt
    split
    · rename_i c hc;exact h.it _ (lk_mem hc)
    · exact it_no

theorem ok_tab {P : Program} {T : Tabs} (hT : TabsOk P T) {f : FuncId} {C : List PA → COut} (hc : Callable P f)
    (h:∀ args K,(C args).wp K→∃ memo vv ann,vcFun P (csm T memo vv) ann f args K):Ok P f C :=
  ok_of_vc (hT.all (fun _ _=>[]) (fun _=>false)) hc h
theorem it_tab {P : Program} {T : Tabs} (hT : TabsOk P T) {f : FuncId} {C : List PA → Option (List (List PA))} (hc : Callable P f)
    (h:∀ l caps ys,C caps=some ys→∃ memo vv ann,vcIter P (csm T memo vv) ann f l caps ys):ItOk P f C :=
  it_of_vc (hT.all (fun _ _=>[]) (fun _=>false)) hc h
theorem clone_tab {P : Program} {T : Tabs} (hT : TabsOk P T) {f : FuncId} {e s b : Nat} (hc : Callable P f)
    (h:∀ n get,n * b≤140737488355328→n≤9223372036854775807→∃ memo vv ann,vcOwn P (csm T memo vv) ann f [.one (.sl n s get)] e s b n get):OwnOk P f (.clone e s b) :=
  clone_of_vc (hT.all (fun _ _=>[]) (fun _=>false)) hc h

structure Sl (α : Type) where
  len:Nat
  get:Nat→α
instance {α:Type} [Inhabited α]:Inhabited (Sl α):=⟨⟨0,fun _=>default⟩⟩
abbrev w64 (x:Int):Int:=IntKind.i64.wrap x

def IsE {α:Type} (enc:α→List PV) (size s:Nat) (g:Nat→List PV):Prop:=s=size∧∃ f:Nat→α,g=fun i=>enc (f i)
theorem isE {α:Type} {enc:α→List PV} {size:Nat} {f:Nat→α} : IsE enc size size (fun i=>enc (f i)):=⟨rfl,f,rfl⟩
theorem isE_c {α:Type} {enc:α→List PV} {size:Nat} {x:α} : IsE enc size size (fun _=>enc x):=⟨rfl,fun _=>x,rfl⟩
def appT {α:Type} (n:Nat) (get new:Nat→α):Nat→α:=fun j=>match Nat.ble n j with | true=>new (j - n) | false=>get j
theorem appG_enc {α:Type} {enc:α→List PV} {n:Nat} {f h:Nat→α} : appG n (fun i=>enc (f i)) (fun i=>enc (h i))=fun i=>enc (appT n f h i):=by
  funext j;simp only [appG,appT];cases Nat.ble n j <;> rfl
def getT {α : Type} (x : α) : List α → Nat → α
  | [],_=>x
  | y :: _,0=>y
  | _ :: r,i+1=>getT x r i
theorem getL_enc {α:Type} {enc:α→List PV} {x y:α} {r:List α} : getL (enc x :: enc y :: r.map enc)=fun i=>enc (getT x (x :: y :: r) i):=by
  have key:∀ (l:List α) (i:Nat),(match (l.map enc)[i]? with | some z=>z | none=>enc x)=enc (getT x l i):=by
    intro l
    induction l with
    | nil=>intro i;rfl
    | cons a l ih =>
      intro i
      cases i with
      | zero=>rfl
      | succ i=>simpa [getT] using ih i
  funext i
  exact key (x :: y :: r) i
theorem isE_list {α:Type} {enc:α→List PV} {size:Nat} {x y:α} (r:List α):IsE enc size size (getL (enc x :: enc y :: r.map enc)):=⟨rfl,_,getL_enc⟩

theorem condB_go {b:Bool} {A B:Prop} {S S':Bool} {α:Type} {K:α→Prop} {x y:α} (h1:S=true→K x→A) (h2:S'=true→K y→B) (hs:cond b S S'=true) (hk:K (cond b x y)):condP b A B:=by
  cases b
  · exact h2 hs hk
  · exact h1 hs hk
theorem andK {C A:Prop} [d:Decidable C] {r:Bool} (hs:(decide C && r)=true) (k:C→r=true→A):A:=by
  rw [Bool.and_eq_true] at hs
  exact k (of_decide_eq_true hs.1) hs.2
abbrev Fuel:Nat:=9223372036854775808
def setT {α:Type} (i:Nat) (v:α) (get:Nat→α):Nat→α:=fun j=>match Nat.beq j i with | true=>v | false=>get j
theorem appG_e {α:Type} {enc:α→List PV} {n:Nat} {g g':Nat→List PV} {f h:Nat→α} (h1:g=fun i=>enc (f i)) (h2:g'=fun i=>enc (h i)):appG n g g'=fun i=>enc (appT n f h i):=by
  subst h1;subst h2;exact appG_enc
theorem setG_e {α:Type} {enc:α→List PV} {i k:Nat} {g:Nat→List PV} {f:Nat→α} {new:List PV} {v:α} (h1:g=fun i=>enc (f i)) (h2:spl (enc (f i)) k new=enc v):setG i k g new=fun j=>enc (setT i v f j):=by
  subst h1
  funext j
  simp only [setG,setT]
  cases e:Nat.beq j i
  · rfl
  · have := Nat.eq_of_beq_eq_true e
    subst this;exact h2
theorem condP_gt {b:Bool} {A B:Prop} {α:Type} {K:α→Prop} {x y:α} (h1:K x→A) (h2:K y→B) (hk:K (cond b x y)):condP b A B:=by
  cases b
  · exact h2 hk
  · exact h1 hk
def rngB (P:Program) (G:Ctrs) (ann:Ann) (hd:Nat) (ps:List Nat) (assign body:Code) (X:List (List PA)→St→Prop) (K:Exit→St→Prop) (y:List PA) (rest:List (List PA)) (s:St):Prop :=
  match lk ann.head hd with
  | some k=>match psEnv ps y s.env with
    | some env=>vc P G ann assign (seqK (vc P G ann body (roundK P k (X rest) K)) fun _ _=>False) ⟨env,s.objs,[]⟩
    | none=>False
  | none=>False
end Go.Pm
namespace Go.Pm
open Go Go.Sort

def tabI : Nat → (Nat → Int) → List Int
  | 0,_=>[]
  | n+1,f=>f 0 :: tabI n (fun i=>f (i+1))
def ins (x : Int) : List Int → List Int
  | []=>[x]
  | y :: r=>match decide (x≤y) with | true=>x :: y :: r | false=>y :: ins x r
def isort : List Int → List Int
  | []=>[]
  | x :: r=>ins x (isort r)
def sortT (n:Nat) (f:Nat→Int):Nat→Int:=getT 0 (isort (tabI n f))
def cmpN (n:Nat) (f:Nat→Int):Nat:=(Lib.compact (tabI n f)).length
def cmpT (n:Nat) (f:Nat→Int):Nat→Int:=getT 0 (Lib.compact (tabI n f))
def decI : List PV → Int
  | [.int .i64 x]=>x
  | _=>0
def IsI (g:Nat→List PV):Prop:=∃ f:Nat→Int,g=fun i=>[.int .i64 (f i)]
def VVE {α:Type} (enc:α→List PV) (ln:Nat→Nat) (gg:Nat→Nat→List PV) (f:Nat→Sl α):Prop:=ln=(fun i=>(f i).len)∧gg=fun i j=>enc ((f i).get j)
theorem vvE_c {α:Type} {enc:α→List PV} {n:Nat} {g:Nat→List PV} {h:Nat→α} (e:g=fun i=>enc (h i)):VVE enc (fun _=>n) (fun _=>g) (fun _=>⟨n,h⟩):=⟨rfl,by subst e;rfl⟩
theorem vvE_t {α:Type} {enc:α→List PV} {f:Nat→Sl α} : VVE enc (fun i=>(f i).len) (fun i j=>enc ((f i).get j)) f:=⟨rfl,rfl⟩
theorem vvE_d {α:Type} {enc:α→List PV} {d:α} : VVE enc (fun _=>0) (fun _ _=>enc d) (fun _=>⟨0,fun _=>d⟩):=⟨rfl,rfl⟩
theorem vvE_app {α:Type} {enc:α→List PV} {n:Nat} {ln ln':Nat→Nat} {gg gg':Nat→Nat→List PV} {f f':Nat→Sl α} (h:VVE enc ln gg f) (h':VVE enc ln' gg' f'):VVE enc (appN n ln ln') (appGG n gg gg') (appT n f f'):=by
  obtain ⟨rfl,rfl⟩:=h
  obtain ⟨rfl,rfl⟩:=h'
  constructor
  · funext i;simp only [appN,appT];cases Nat.ble n i <;> rfl
  · funext i;simp only [appGG,appT];cases Nat.ble n i <;> rfl
def setS {α:Type} (i j:Nat) (v:α) (f:Nat→Sl α):Nat→Sl α:=fun q=>match Nat.beq q i with | true=>⟨(f q).len,setT j v (f q).get⟩ | false=>f q
theorem vvE_set {α : Type} {enc : α → List PV} {i j k : Nat} {ln : Nat → Nat} {gg : Nat → Nat → List PV} {f : Nat → Sl α} {new : List PV} {v : α} (h : VVE enc ln gg f) (hv : spl (enc ((f i).get j)) k new = enc v) :
    VVE enc ln (setGG i j k gg new) (setS i j v f):=by
  obtain ⟨rfl,rfl⟩:=h
  constructor
  · funext q;simp only [setS];cases Nat.beq q i <;> rfl
  · funext q; simp only [setGG, setS]
    cases e:Nat.beq q i
    · rfl
    · have := Nat.eq_of_beq_eq_true e
      subst this
      exact setG_e rfl hv

theorem tabI_len (n:Nat) (f:Nat→Int):(tabI n f).length=n:=by
  induction n generalizing f with
  | zero=>rfl
  | succ n ih=>simp [tabI,ih]
theorem tabI_get (n:Nat) (f:Nat→Int) (i:Nat) (h:i < n):(tabI n f)[i]? = some (f i):=by
  induction n generalizing f i with
  | zero=>omega
  | succ n ih =>
    cases i with
    | zero=>rfl
    | succ i=>simp only [tabI,List.getElem?_cons_succ];exact ih _ i (by omega)
theorem ins_perm (x:Int) (l:List Int):(ins x l).Perm (x :: l):=by
  induction l with
  | nil=>exact .refl _
  | cons y r ih =>
    simp only [ins]
    cases decide (x≤y)
    · exact (ih.cons y).trans (.swap x y r)
    · exact .refl _
theorem isort_perm (l:List Int):(isort l).Perm l:=by
  induction l with
  | nil=>exact .refl _
  | cons x r ih=>exact (ins_perm x _).trans (ih.cons x)
theorem ins_sorted (x:Int) (l:List Int) (h:l.Pairwise (·≤·)):(ins x l).Pairwise (·≤·):=by
  induction l with
  | nil=>simp [ins]
  | cons y r ih =>
    simp only [ins]
    have hc:=List.pairwise_cons.1 h
    cases e:decide (x≤y)
    · have hxy : ¬ x ≤ y := of_decide_eq_false e
      refine List.pairwise_cons.2 ⟨fun z hz=>?_,ih hc.2⟩
      rcases List.mem_cons.1 ((ins_perm x r).mem_iff.1 hz) with rfl | hz
      · omega
      · exact hc.1 z hz
    · have hxy : x ≤ y := of_decide_eq_true e
      refine List.pairwise_cons.2 ⟨fun z hz=>?_,h⟩
      rcases List.mem_cons.1 hz with rfl | hz
      · exact hxy
      · have:=hc.1 z hz;omega
theorem isort_sorted (l:List Int):(isort l).Pairwise (·≤·):=by
  induction l with
  | nil=>exact .nil
  | cons x r ih=>exact ins_sorted x _ ih
theorem isort_eq (l:List Int):l.mergeSort (fun x y=>decide (x≤y))=isort l:=by
  refine List.Perm.eq_of_pairwise (le:=fun a b=>decide (a≤b)) ?_ ?_ ?_ ?_
  · intro a b _ _ h1 h2
    have h1:=of_decide_eq_true h1
    have h2:=of_decide_eq_true h2
    omega
  · exact List.pairwise_mergeSort (fun a b c h1 h2=>by simp only [decide_eq_true_eq] at *;omega) (fun a b=>by simp only [Bool.or_eq_true,decide_eq_true_eq];omega) l
  · exact (isort_sorted l).imp fun h=>by simpa using h
  · exact (List.mergeSort_perm l _).trans (isort_perm l).symm
theorem isort_len (l:List Int):(isort l).length=l.length:=(isort_perm l).length_eq

theorem row_ints {h:Fz} {n:Nat} {f:Nat→Int} {xs:List Value} (hl:xs.length=n * 1) (hr:∀ i,i < n→RL (Rep h) [.int .i64 (f i)] ((xs.drop (i * 1)).take 1)):xs=(tabI n f).map (Value.int .i64):=by
  apply List.ext_getElem?
  intro i
  by_cases hi:i < n
  · have h1 := hr i hi
    rw [Nat.mul_one] at h1
    have hx:∃ x,xs[i]? = some x:=⟨xs[i],List.getElem?_eq_getElem (by omega)⟩
    obtain ⟨x,hx⟩:=hx
    have hd:(xs.drop i).take 1=[x]:=by
      have hlt:i < xs.length:=by omega
      rw [List.drop_eq_getElem_cons hlt]
      rw [List.getElem?_eq_getElem hlt] at hx
      simp [Option.some.inj hx]
    rw [hd] at h1
    have h2:Rep h (.int .i64 (f i)) x:=h1.1
    cases h2
    rw [hx,List.getElem?_map,tabI_get n f i hi];rfl
  · rw [List.getElem?_eq_none (by omega),List.getElem?_eq_none (by simp [tabI_len];omega)]
theorem row_back {h:Fz} {l:List Int} {i:Nat} (hi:i < l.length):RL (Rep h) [.int .i64 (getT 0 l i)] (((l.map (Value.int .i64)).drop (i * 1)).take 1):=by
  have e:((l.map (Value.int .i64)).drop (i * 1)).take 1=[Value.int .i64 (getT 0 l i)]:=by
    rw [Nat.mul_one]
    have key:∀ (l:List Int) (i:Nat),i < l.length→((l.map (Value.int .i64)).drop i).take 1=[Value.int .i64 (getT 0 l i)]:=by
      intro l
      induction l with
      | nil=>intro i hi;simp at hi
      | cons x r ih =>
        intro i hi
        cases i with
        | zero=>simp [getT]
        | succ i=>simpa [getT] using ih i (by simpa using hi)
    exact key l i hi
  rw [e]
  exact ⟨.int .i64 _,trivial⟩
theorem heap_put {w : World} {g q : Nat} {cur : Array Value} {e : TypeId} {fr : Nat × Nat} (d : Array Int) (hb : w.heap[g]? = some (.cells cur e fr)) :
    (putRow (Value.int .i64) (Sort.ahead w q) g 0 d).heap[g]? = some (.cells (putCells (Value.int .i64) 0 d cur) e fr):=by
  simp [putRow,mapBlock,Sort.ahead,Array.getElem?_modify,hb,onCells]
theorem grown_put {w:World} {g q:Nat} (d:Array Int):w.grownBy (putRow (Value.int .i64) (Sort.ahead w q) g 0 d) (some g):=by
  refine ⟨rfl,rfl,rfl,by simp,fun k hk hne=>?_⟩
  have:g ≠ k:=fun e=>hne (by rw [e])
  simp [putRow,mapBlock,Sort.ahead,Array.getElem?_modify,this]
theorem grown_self (w:World) (o:Option Nat):w.grownBy w o:=⟨rfl,rfl,rfl,Nat.le_refl _,fun _ _ _=>rfl⟩

def ownSort:OwnK:=.inpl 3 1 8 (fun n g=>(n,fun i=>[.int .i64 (sortT n (fun j=>decI (g j)) i)])) false IsI
def ownCompact:OwnK:=.inpl 3 1 8 (fun n g=>(cmpN n (fun j=>decI (g j)),fun i=>[.int .i64 (cmpT n (fun j=>decI (g j)) i)])) true IsI

theorem sort_own {P : Program} {f : FuncId} (hc : Callable P f)
    (h1:∀ (blk off cap:Nat) (zs:List Int) (w:World),Holds (Value.int .i64) w blk off zs.toArray→blk < w.heap.size→zs.length < 4611686018427387904 →
      Calls P f #[.slice (some ⟨blk,off,none⟩) zs.length cap] w fun e w'=>e=.returned (.tuple #[])∧∃ n os,w'=grow (putRow (Value.int .i64) (Sort.ahead w n) blk off (zs.mergeSort fun x y=>decide (x≤y)).toArray) os)
    (h2:∀ (p:Option Addr) (cap:Nat) (w:World),Calls P f #[.slice p 0 cap] w fun e w'=>e=.returned (.tuple #[])∧w'=w):OwnOk P f ownSort:=by
  intro w h base v n get ⟨xs,⟨hxl,hown⟩,hr⟩ hone hw hob hbase hn ⟨g,hg⟩
  subst hg
  refine ⟨hc,?_⟩
  have hxs:=row_ints hxl hr
  rcases hown with ⟨rfl,rfl⟩ | ⟨b,cap,cur,rfl,hb,hcell,hncap,hcap,hsz,htake⟩
  · refine (h2 none 0 w).mono ?_
    rintro e w' ⟨rfl,rfl⟩
    refine ⟨_,rfl,fun _=>rfl,rfl,fun k hk=>hk,⟨xs,⟨hxl,.inl ⟨rfl,rfl⟩⟩,fun i hi=>absurd (show i < 0 from hi) (Nat.not_lt_zero i)⟩,grown_self _ _⟩
  · have hl : (tabI n g).length = n := tabI_len n g
    have hH:Holds (Value.int .i64) w b 0 (tabI n g).toArray:=holds_of_blockI hcell (by rw [hl,← hxs,← htake,Nat.mul_one])
    have hlt:b < w.heap.size:=(Array.getElem?_eq_some_iff.1 hcell).1
    have hrun:=h1 b 0 cap (tabI n g) w hH hlt (by rw [hl];omega)
    rw [hl] at hrun
    refine hrun.mono ?_
    rintro e w' ⟨rfl,q,os,rfl⟩
    rw [isort_eq]
    have hil:(isort (tabI n g)).length=n:=by rw [isort_len,hl]
    have ho:=ownsRow_sortedI (w:=w) (base:=base) (g:=b) (cap:=cap) (n:=q) (e:=3) (os:=os) (cur:=cur) (ss:=tabI n g) (ts:=isort (tabI n g)) (by rw [hil,hl]) hb hcell (by rw [hl];exact hncap) hcap hsz
    rw [hl] at ho
    exact ⟨_,rfl,fun _=>rfl,rfl,fun k hk=>hk,⟨_,ho,fun i hi=>row_back (l:=isort (tabI n g)) (by rw [hil];exact hi)⟩,grownBy_sortedI _⟩

theorem compact_le (l:List Int):(Lib.compact l).length≤l.length:=by
  unfold Lib.compact Lib.compactUpTo
  rw [List.length_map]
  refine Nat.le_trans (List.length_filter_le _ _) ?_
  simp

theorem compact_own {P : Program} {f : FuncId} (hc : Callable P f)
    (h1:∀ (blk off cap:Nat) (zs:List Int) (w:World),Holds (Value.int .i64) w blk off zs.toArray→zs.length≤9223372036854775807→zs.length≤cap →
      Calls P f #[.slice (some ⟨blk,off,none⟩) zs.length cap] w fun e w'=>e=.returned (.slice (some ⟨blk,off,none⟩) (Lib.compact zs).length cap)∧∃ q,w'=putRow (Value.int .i64) (Sort.ahead w q) blk off (Lib.compact zs ++ List.replicate (zs.length - (Lib.compact zs).length) 0).toArray)
    (h2:∀ (a:Option Addr) (cap:Nat) (w:World),Calls P f #[.slice a 0 cap] w fun e w'=>e=.returned (.slice a 0 cap)∧w'=w):OwnOk P f ownCompact:=by
  intro w h base v n get ⟨xs,⟨hxl,hown⟩,hr⟩ hone hw hob hbase hn ⟨g,hg⟩
  subst hg
  refine ⟨hc,?_⟩
  have hxs:=row_ints hxl hr
  rcases hown with ⟨rfl,rfl⟩ | ⟨b,cap,cur,rfl,hb,hcell,hncap,hcap,hsz,htake⟩
  · refine (h2 none 0 w).mono ?_
    rintro e w' ⟨rfl,rfl⟩
    refine ⟨_,rfl,fun h=>(by cases h),rfl,fun k hk=>hk,⟨[],⟨rfl,.inl ⟨rfl,rfl⟩⟩,fun i hi=>?_⟩,grown_self _ _⟩
    exact absurd hi (by simp [cmpN,tabI,Lib.compact,Lib.compactUpTo])
  · have hl : (tabI n g).length = n := tabI_len n g
    have hH:Holds (Value.int .i64) w b 0 (tabI n g).toArray:=holds_of_blockI hcell (by rw [hl,← hxs,← htake,Nat.mul_one])
    have hrun:=h1 b 0 cap (tabI n g) w hH (by rw [hl];omega) (by rw [hl];exact hncap)
    rw [hl] at hrun
    have hle:=compact_le (tabI n g)
    rw [hl] at hle
    refine hrun.mono ?_
    rintro e w' ⟨rfl,q,rfl⟩
    have hcl:(Lib.compact (tabI n g) ++ List.replicate (n - (Lib.compact (tabI n g)).length) 0).length=n:=by simp;omega
    refine ⟨.slice (some ⟨b,0,none⟩) (Lib.compact (tabI n g)).length cap,rfl,fun h=>(by cases h),rfl,fun k hk=>hk,
      ⟨(Lib.compact (tabI n g)).map (Value.int .i64),⟨by simp [cmpN,decI],.inr ⟨b,cap,_,rfl,hb,heap_put _ hcell,Nat.le_trans hle hncap,hcap,by simp [putCells,hsz],?_⟩⟩,fun i hi=>row_back hi⟩,grown_put _⟩
    have ht:=take_putCellsI cur (Lib.compact (tabI n g) ++ List.replicate (n - (Lib.compact (tabI n g)).length) 0) (by rw [hcl,hsz];omega)
    have h3:=congrArg (List.take (Lib.compact (tabI n g)).length) ht
    rw [List.take_take,List.map_append,List.take_append_of_le_length (by simp),Nat.min_eq_left (by rw [hcl];exact hle)] at h3
    have e4:List.take (Lib.compact (tabI n g)).length ((Lib.compact (tabI n g)).map (Value.int .i64))=(Lib.compact (tabI n g)).map (Value.int .i64):=List.take_of_length_le (by simp)
    rw [e4] at h3
    show List.take ((Lib.compact (tabI n g)).length * 1) _=_
    rw [Nat.mul_one]
    exact h3

/-! Nil slices are slices of length 0. -/
inductive PVle : PV → PV → Prop
  | rfl (p:PV):PVle p p
  | nil (s:Nat) (g:Nat→List PV):PVle .nils (.sl 0 s g)
inductive PAle : PA → PA → Prop
  | one {p q:PV} : PVle p q→PAle (.one p) (.one q)
  | agg {l m:List PV} : RL PVle l m→PAle (.agg l) (.agg m)
theorem rl_n {α β:Type} {R:α→β→Prop} : RL R [] []:=trivial
theorem rl_c {α β:Type} {R:α→β→Prop} {a:α} {b:β} {l:List α} {m:List β} (h:R a b) (h':RL R l m):RL R (a :: l) (b :: m):=⟨h,h'⟩
theorem rl_rfl {α : Type} {R : α → α → Prop} (h : ∀ a, R a a) : ∀ l : List α, RL R l l
  | []=>trivial
  | a :: l=>⟨h a,rl_rfl h l⟩
theorem pa_rfl (a:PA):PAle a a:=by
  cases a with
  | one p=>exact .one (.rfl p)
  | agg l=>exact .agg (rl_rfl .rfl l)
def Wk (K:List PA→Prop) (l:List PA):Prop:=∃ l',RL PAle l l'∧K l'
theorem wk {K:List PA→Prop} {l l':List PA} (hk:K l') (h:RL PAle l l'):Wk K l:=⟨l',h,hk⟩
theorem wk_rfl {K:List PA→Prop} {l:List PA} (hk:K l):Wk K l:=⟨l,rl_rfl pa_rfl l,hk⟩
theorem pv_up {h:Fz} {p q:PV} {v:Value} (e:PVle p q) (r:Rep h p v):Rep h q v:=by
  cases e with
  | rfl=>exact r
  | nil s g=>cases r;exact .sl0 s g
theorem rl_up {α β γ : Type} {R : α → β → Prop} {S : α → γ → Prop} {T : γ → β → Prop} (h : ∀ a b c, S a c → R a b → T c b) : ∀ (l : List α) (m : List β) (k : List γ), RL S l k → RL R l m → RL T k m
  | [],[],[],_,_=>trivial
  | a :: l,b :: m,c :: k,hs,hr=>⟨h a b c hs.1 hr.1,rl_up h l m k hs.2 hr.2⟩
  | [],_ :: _,[],_,hr=>hr.elim
  | [],_,_ :: _,hs,_=>hs.elim
  | _ :: _,_,[],hs,_=>hs.elim
  | _ :: _,[],_ :: _,_,hr=>hr.elim
theorem pa_up {h:Fz} {a b:PA} {v:Value} (e:PAle a b) (r:paR h a v):paR h b v:=by
  cases e with
  | one e=>exact pv_up e r
  | agg e =>
    obtain ⟨vs,rfl,hv⟩:=r
    exact ⟨vs,rfl,rl_up (R:=Rep h) (S:=PVle) (T:=Rep h) (fun _ _ _ e r=>pv_up e r) _ _ _ e hv⟩
theorem res_up {h:Fz} {l m:List PA} {v:Value} (e:RL PAle l m) (r:resR h l v):resR h m v:=by
  match l,m,e,r with
  | [a],[b],e,r=>exact pa_up e.1 r
  | [],[],_,r=>exact r
  | a :: b :: l,c :: d :: m,e,r =>
    obtain ⟨vs,hv,hr⟩:=r
    exact ⟨vs,hv,rl_up (R:=paR h) (S:=PAle) (T:=paR h) (fun _ _ _ e r=>pa_up e r) _ _ _ e hr⟩
  | [_],_ :: _ :: _,e,_=>exact e.2.elim
  | _ :: _ :: _,[_],e,_=>exact e.2.elim
  | [],_ :: _,e,_=>exact e.elim
  | _ :: _,[],e,_=>exact e.elim
theorem ok_tabW {P : Program} {T : Tabs} (hT : TabsOk P T) {f : FuncId} {C : List PA → COut} (hc : Callable P f)
    (h:∀ args K,(C args).wp K→∃ args',RL PAle args args'∧∃ memo vv ann,vcFun P (csm T memo vv) ann f args' (Wk K)):Ok P f C:=by
  intro args K hK w h0 vs hvs hfz
  obtain ⟨args',hle,memo,vv,ann,hv⟩:=h args K hK
  refine ⟨hc,(fun_run (hT.all memo vv) hv (rl_up (R:=paR h0) (S:=PAle) (T:=paR h0) (fun _ _ _ e r=>pa_up e r) _ _ _ hle hvs) hfz).mono ?_⟩
  rintro e w' ⟨h',rs,v,⟨rs',hr,hk⟩,he,hres,rest⟩
  exact ⟨h',rs',v,hk,he,res_up hr hres,rest⟩
end Go.Pm
namespace Go.Pm
open Go

theorem w64_id {x:Int} (h1 : -9223372036854775808≤x) (h2:x≤9223372036854775807):w64 x=x:=by
  have hb:IntKind.i64.bits=64:=rfl
  have hs:IntKind.i64.signed=true:=rfl
  unfold w64 IntKind.wrap
  rw [hb,hs]
  simp only [Bool.true_and,decide_eq_true_eq]
  split <;> omega
def fstF (c : Nat → Bool) : Nat → Nat → Nat
  | 0,i=>i
  | m+1,i=>match c i with | true=>i | false=>fstF c m (i+1)
theorem fstF_t {c:Nat→Bool} {m i:Nat} (h:c i=true):fstF c (m+1) i=i:=by simp only [fstF,h]
theorem fstF_f {c:Nat→Bool} {m i:Nat} (h:c i=false):fstF c (m+1) i=fstF c m (i+1):=by simp only [fstF,h]
theorem fstF_spec (c:Nat→Bool) (m i:Nat):i≤fstF c m i∧fstF c m i≤i+m∧(∀ j,i≤j→j < fstF c m i→c j=false)∧(fstF c m i < i+m→c (fstF c m i)=true):=by
  induction m generalizing i with
  | zero=>exact ⟨Nat.le_refl _,Nat.le_refl _,fun j h1 h2=>absurd h2 (by simp only [fstF];omega),fun h=>absurd h (by simp only [fstF];omega)⟩
  | succ m ih =>
    cases e:c i
    · rw [fstF_f e]
      obtain ⟨h1,h2,h3,h4⟩:=ih (i+1)
      refine ⟨by omega,by omega,fun j hj1 hj2=>?_,fun h=>h4 (by omega)⟩
      by_cases hji:j=i
      · rw [hji];exact e
      · exact h3 j (by omega) hj2
    · rw [fstF_t e]
      exact ⟨Nat.le_refl _,by omega,fun j h1 h2=>absurd h2 (by omega),fun _=>e⟩
def fst (c:Nat→Bool) (n:Nat):Nat:=fstF c n 0
theorem fst_le (c:Nat→Bool) (n:Nat):fst c n≤n:=by have:=(fstF_spec c n 0).2.1;simpa [fst] using this
theorem fst_lo {c:Nat→Bool} {n j:Nat} (h:j < fst c n):c j=false:=(fstF_spec c n 0).2.2.1 j (Nat.zero_le _) h
theorem fst_hi {c:Nat→Bool} {n:Nat} (h:fst c n < n):c (fst c n)=true:=(fstF_spec c n 0).2.2.2 (by simpa [fst] using h)
theorem fst_uniq {c:Nat→Bool} {n m:Nat} (h1:m≤n) (h2:∀ j,j < m→c j=false) (h3:m < n→c m=true):fst c n=m:=by
  have a:=fst_le c n
  rcases Nat.lt_trichotomy (fst c n) m with h | h | h
  · have h5:=h2 _ h;rw [fst_hi (c:=c) (n:=n) (by omega)] at h5;cases h5
  · exact h
  · have h5:=fst_lo h;rw [h3 (by omega)] at h5;cases h5

theorem idx_loop {α : Type} {c : α → Bool} {lpS : Nat → Sl α → Int → Int → Int} {lpP : Nat → Sl α → Int → Int → Bool}
    (hS:∀ k s t i,lpS (k+1) s t i=cond (decide (i < t)) (cond (c (s.get i.toNat)) i (lpS k s t (w64 (i+(1:Int))))) (-1:Int))
    (hP:∀ k s t i,lpP (k+1) s t i=cond (decide (i < t)) (decide (0≤i∧i < (s.len:Int)) && cond (c (s.get i.toNat)) true (lpP k s t (w64 (i+(1:Int))))) true)
    (s:Sl α) (hn:s.len≤9223372036854775807):lpP Fuel s (s.len:Int) 0=true∧lpS Fuel s (s.len:Int) 0=if fst (fun i=>c (s.get i)) s.len < s.len then ((fst (fun i=>c (s.get i)) s.len:Nat):Int) else -1:=by
  have key:∀ (m k i:Nat),i+m=s.len→m < k→lpP k s (s.len:Int) (i:Int)=true ∧
      lpS k s (s.len:Int) (i:Int)=if fstF (fun i=>c (s.get i)) m i < s.len then ((fstF (fun i=>c (s.get i)) m i:Nat):Int) else -1:=by
    intro m
    induction m with
    | zero =>
      intro k i hi hk
      obtain ⟨k,rfl⟩:∃ k',k=k'+1:=⟨k - 1,by omega⟩
      rw [hS,hP]
      have e:decide ((i:Int) < (s.len:Int))=false:=decide_eq_false (by omega)
      rw [e]
      have e5 : ¬ fstF (fun i=>c (s.get i)) 0 i < s.len:=by show ¬ i < s.len;omega
      rw [if_neg e5]
      exact ⟨rfl,rfl⟩
    | succ m ih =>
      intro k i hi hk
      obtain ⟨k,rfl⟩:∃ k',k=k'+1:=⟨k - 1,by omega⟩
      rw [hS,hP]
      have e:decide ((i:Int) < (s.len:Int))=true:=decide_eq_true (by omega)
      have e2:decide (0≤(i:Int)∧(i:Int) < (s.len:Int))=true:=decide_eq_true (by omega)
      have e3:w64 ((i:Int)+1)=((i+1:Nat):Int):=by rw [w64_id (by omega) (by omega)];omega
      have e4:(i:Int).toNat=i:=by omega
      rw [e,e2,e3,e4]
      cases hc:c (s.get i)
      · rw [fstF_f (c := fun i => c (s.get i)) hc]
        exact ih k (i+1) (by omega) (by omega)
      · rw [fstF_t (c := fun i => c (s.get i)) hc, if_pos (by omega)]
        exact ⟨rfl,rfl⟩
  exact key s.len Fuel 0 (by omega) (by simp only [Fuel];omega)

theorem all_loop {good : Nat → Bool} {fin : Bool} {n : Nat} {lpS lpP : Nat → Int → Bool}
    (hS:∀ (k i:Nat),i < n→lpS (k+1) (i:Int)=cond (good i) (lpS k (w64 ((i:Int)+(1:Int)))) false)
    (hE:∀ k,lpS (k+1) (n:Int)=fin)
    (hP:∀ (k i:Nat),i < n→lpP (k+1) (i:Int)=cond (good i) (lpP k (w64 ((i:Int)+(1:Int)))) true)
    (hPE:∀ k,lpP (k+1) (n:Int)=true) (hn:n≤9223372036854775807) :
    lpP Fuel 0=true∧(lpS Fuel 0=true↔(∀ i,i < n→good i=true)∧fin=true):=by
  have key:∀ (m k i:Nat),i+m=n→m < k→lpP k (i:Int)=true∧(lpS k (i:Int)=true↔(∀ j,i≤j→j < n→good j=true)∧fin=true):=by
    intro m
    induction m with
    | zero =>
      intro k i hi hk
      obtain ⟨k,rfl⟩:∃ k',k=k'+1:=⟨k - 1,by omega⟩
      have:i=n:=by omega
      subst this
      rw [hE,hPE]
      exact ⟨rfl,⟨fun h=>⟨fun j h1 h2=>absurd h2 (by omega),h⟩,fun h=>h.2⟩⟩
    | succ m ih =>
      intro k i hi hk
      obtain ⟨k,rfl⟩:∃ k',k=k'+1:=⟨k - 1,by omega⟩
      rw [hS k i (by omega),hP k i (by omega)]
      have e3:w64 ((i:Int)+1)=((i+1:Nat):Int):=by rw [w64_id (by omega) (by omega)];omega
      rw [e3]
      obtain ⟨h1,h2⟩:=ih k (i+1) (by omega) (by omega)
      cases hg:good i
      · refine ⟨rfl, ⟨fun h => (by cases h), fun h => ?_⟩⟩
        have:=h.1 i (Nat.le_refl _) (by omega)
        rw [hg] at this;cases this
      · refine ⟨h1, h2.trans ⟨fun h => ⟨fun j hj1 hj2 => ?_, h.2⟩, fun h => ⟨fun j hj1 hj2 => h.1 j (by omega) hj2, h.2⟩⟩⟩
        by_cases hji:j=i
        · rw [hji];exact hg
        · exact h.1 j (by omega) hj2
  have:=key n Fuel 0 (by omega) (by simp only [Fuel];omega)
  simpa using this

def lastF {β : Type} (c : Nat → Bool) (v : Nat → β) : Nat → β → β
  | 0,a=>a
  | n+1,a=>match c n with | true=>v n | false=>lastF c v n a
theorem fwd_loop {β γ : Type} {c : Nat → Bool} {v : Nat → β} {E : β → γ} {EP : β → Bool} {n : Nat} {lpS : Nat → Int → β → γ} {lpP : Nat → Int → β → Bool}
    (hS:∀ (k i:Nat) a,i < n→lpS (k+1) (i:Int) a=cond (c i) (lpS k (w64 ((i:Int)+(1:Int))) (v i)) (lpS k (w64 ((i:Int)+(1:Int))) a))
    (hE:∀ k a,lpS (k+1) (n:Int) a=E a)
    (hP:∀ (k i:Nat) a,i < n→lpP (k+1) (i:Int) a=cond (c i) (lpP k (w64 ((i:Int)+(1:Int))) (v i)) (lpP k (w64 ((i:Int)+(1:Int))) a))
    (hPE:∀ k a,lpP (k+1) (n:Int) a=EP a) (hn:n≤9223372036854775807) (a:β) :
    lpP Fuel 0 a=EP (lastF c v n a)∧lpS Fuel 0 a=E (lastF c v n a):=by
  have key:∀ (m k i:Nat),i+m=n→m < k→lpP k (i:Int) (lastF c v i a)=EP (lastF c v n a)∧lpS k (i:Int) (lastF c v i a)=E (lastF c v n a):=by
    intro m
    induction m with
    | zero =>
      intro k i hi hk
      obtain ⟨k,rfl⟩:∃ k',k=k'+1:=⟨k - 1,by omega⟩
      have:i=n:=by omega
      subst this
      rw [hE,hPE]
      exact ⟨rfl,rfl⟩
    | succ m ih =>
      intro k i hi hk
      obtain ⟨k,rfl⟩:∃ k',k=k'+1:=⟨k - 1,by omega⟩
      rw [hS k i _ (by omega),hP k i _ (by omega)]
      have e3:w64 ((i:Int)+1)=((i+1:Nat):Int):=by rw [w64_id (by omega) (by omega)];omega
      rw [e3]
      have:=ih k (i+1) (by omega) (by omega)
      simp only [lastF] at this
      cases hc:c i <;> rw [hc] at this <;> exact this
  have:=key n Fuel 0 (by omega) (by simp only [Fuel];omega)
  simpa [lastF] using this
theorem last_none {β:Type} {c:Nat→Bool} {v:Nat→β} {n:Nat} {a:β} (h:∀ j,j < n→c j=false):lastF c v n a=a:=by
  induction n with
  | zero=>rfl
  | succ n ih=>simp only [lastF,h n (by omega)];exact ih fun j hj=>h j (by omega)
theorem last_at {β:Type} {c:Nat→Bool} {v:Nat→β} {n m:Nat} {a:β} (hm:m < n) (h1:c m=true) (h2:∀ j,m < j→j < n→c j=false):lastF c v n a=v m:=by
  induction n with
  | zero=>omega
  | succ n ih =>
    simp only [lastF]
    by_cases e:m=n
    · subst e;rw [h1]
    · rw [h2 n (by omega) (by omega)]
      exact ih (by omega) fun j hj1 hj2=>h2 j hj1 (by omega)

theorem bwd_loop {β γ : Type} {c : Nat → Bool} {v : Nat → β} {E : β → γ} {EP : β → Bool} {n : Nat} {lpS : Nat → Int → β → γ} {lpP : Nat → Int → β → Bool}
    (hS:∀ (k i:Nat) a,i < n→lpS (k+1) (i:Int) a=cond (c i) (lpS k (w64 ((i:Int) - (1:Int))) (v i)) (lpS k (w64 ((i:Int) - (1:Int))) a))
    (hE:∀ k a,lpS (k+1) (-1) a=E a)
    (hP:∀ (k i:Nat) a,i < n→lpP (k+1) (i:Int) a=cond (c i) (lpP k (w64 ((i:Int) - (1:Int))) (v i)) (lpP k (w64 ((i:Int) - (1:Int))) a))
    (hPE:∀ k a,lpP (k+1) (-1) a=EP a) (hn:n≤9223372036854775807) (a:β) :
    lpP Fuel (w64 ((n:Int) - 1)) a=EP (if fst c n < n then v (fst c n) else a)∧lpS Fuel (w64 ((n:Int) - 1)) a=E (if fst c n < n then v (fst c n) else a):=by
  rw [w64_id (by omega) (by omega)]
  have key:∀ (i k:Nat) (a:β),i≤n→i < k→lpP k ((i:Int) - 1) a=EP (if fst c i < i then v (fst c i) else a)∧lpS k ((i:Int) - 1) a=E (if fst c i < i then v (fst c i) else a):=by
    intro i
    induction i with
    | zero =>
      intro k a hi hk
      obtain ⟨k,rfl⟩:∃ k',k=k'+1:=⟨k - 1,by omega⟩
      have:((0:Nat):Int) - 1 = -1:=rfl
      rw [this,hE,hPE,if_neg (by omega)]
      exact ⟨rfl,rfl⟩
    | succ i ih =>
      intro k a hi hk
      obtain ⟨k,rfl⟩:∃ k',k=k'+1:=⟨k - 1,by omega⟩
      have e1:((i+1:Nat):Int) - 1=(i:Int):=by omega
      rw [e1,hS k i _ (by omega),hP k i _ (by omega),w64_id (by omega) (by omega)]
      have h0:=ih k (v i) (by omega) (by omega)
      have h1:=ih k a (by omega) (by omega)
      by_cases hf:fst c i < i
      · have e : fst c (i + 1) = fst c i := fst_uniq (by omega) (fun j hj => fst_lo hj) (fun _ => fst_hi hf)
        rw [e,if_pos (by omega)]
        rw [if_pos hf] at h0 h1
        cases c i <;> simp only [cond_true,cond_false] <;> assumption
      · have hfi : fst c i = i := by have := fst_le c i; omega
        rw [if_neg hf] at h0 h1
        cases hc:c i
        · have e:fst c (i+1)=i+1:=fst_uniq (Nat.le_refl _) (fun j hj=>by
            by_cases hji:j=i
            · rw [hji];exact hc
            · exact fst_lo (n:=i) (by omega)) (fun h=>absurd h (by omega))
          rw [e,if_neg (by omega)]
          exact h1
        · have e : fst c (i + 1) = i := fst_uniq (by omega) (fun j hj => fst_lo (n := i) (by omega)) (fun _ => hc)
          rw [e,if_pos (by omega)]
          exact h0
  exact key n Fuel a (Nat.le_refl _) (by simp only [Fuel];omega)
end Go.Pm
namespace Go.Proofs
open Go Go.Shelf Go.Pm
set_option maxRecDepth 100000
def Try.laysNm220_ren:Go.Shelf.Ren:=⟨fun | 20=>100 | n=>n,fun | 22=>37 | 3=>3 | 4=>4 | 0=>0 | n=>n,fun | n=>n⟩
theorem Try.laysNm220 : Go.Proofs.Lays2.n20 Try.prog Try.laysNm220_ren := {
  mixed:=by kernel_rfl
  f20:=Try.func100.trans (congrArg some (by kernel_rfl))
  t0:=Try.underlying0
  a0:=Try.isAgg0
  z0:=Try.sizeOf0
  v0:=Try.zeroValue0
  t3:=Try.underlying3
  a3:=Try.isAgg3
  z3:=Try.sizeOf3
  v3:=Try.zeroValue3
  t4:=Try.underlying4
  a4:=Try.isAgg4
  z4:=Try.sizeOf4
  v4:=Try.zeroValue4
  t22:=Try.underlying37
  a22:=Try.isAgg37
  z22:=Try.sizeOf37
  v22:=Try.zeroValue37
  i3:=by kernel_rfl }
def Try.laysNm189_ren:Go.Shelf.Ren:=⟨fun | 189=>99 | 125=>115 | 257=>114 | 128=>128 | 129=>129 | 294=>119 | 295=>120 | 296=>121 | 297=>122 | 298=>123 | 299=>124 | 216=>125 | 300=>126 | 301=>127 | 328=>130 | 329=>131 | 330=>132 | 331=>133 | 332=>134 | 215=>135 | 343=>136 | n=>n,fun | 28=>37 | 3=>3 | 46=>157 | 0=>0 | 51=>170 | 53=>172 | 4=>4 | 183=>162 | 182=>161 | 131=>167 | 5=>5 | 9=>9 | 218=>173 | 222=>177 | 228=>179 | 229=>121 | n=>n,fun | n=>n⟩
theorem Try.laysNm189 : Go.Proofs.Lays.n189 Try.prog Try.laysNm189_ren := {
  mixed:=by kernel_rfl
  f125:=Try.func115.trans (congrArg some (by kernel_rfl))
  f128:=Try.func128.trans (congrArg some (by kernel_rfl))
  f129:=Try.func129.trans (congrArg some (by kernel_rfl))
  f189:=Try.func99.trans (congrArg some (by kernel_rfl))
  f215:=Try.func135.trans (congrArg some (by kernel_rfl))
  f216:=Try.func125.trans (congrArg some (by kernel_rfl))
  f257:=Try.func114.trans (congrArg some (by kernel_rfl))
  f294:=Try.func119.trans (congrArg some (by kernel_rfl))
  f295:=Try.func120.trans (congrArg some (by kernel_rfl))
  f296:=Try.func121.trans (congrArg some (by kernel_rfl))
  f297:=Try.func122.trans (congrArg some (by kernel_rfl))
  f298:=Try.func123.trans (congrArg some (by kernel_rfl))
  f299:=Try.func124.trans (congrArg some (by kernel_rfl))
  f300:=Try.func126.trans (congrArg some (by kernel_rfl))
  f301:=Try.func127.trans (congrArg some (by kernel_rfl))
  f328:=Try.func130.trans (congrArg some (by kernel_rfl))
  f329:=Try.func131.trans (congrArg some (by kernel_rfl))
  f330:=Try.func132.trans (congrArg some (by kernel_rfl))
  f331:=Try.func133.trans (congrArg some (by kernel_rfl))
  f332:=Try.func134.trans (congrArg some (by kernel_rfl))
  f343:=Try.func136.trans (congrArg some (by kernel_rfl))
  t0:=Try.underlying0
  a0:=Try.isAgg0
  z0:=Try.sizeOf0
  v0:=Try.zeroValue0
  t3:=Try.underlying3
  a3:=Try.isAgg3
  z3:=Try.sizeOf3
  v3:=Try.zeroValue3
  t4:=Try.underlying4
  a4:=Try.isAgg4
  z4:=Try.sizeOf4
  v4:=Try.zeroValue4
  t5:=Try.underlying5
  a5:=Try.isAgg5
  z5:=Try.sizeOf5
  v5:=Try.zeroValue5
  t9:=Try.underlying9
  a9:=Try.isAgg9
  z9:=Try.sizeOf9
  v9:=Try.zeroValue9
  t28:=Try.underlying37
  a28:=Try.isAgg37
  z28:=Try.sizeOf37
  v28:=Try.zeroValue37
  t46:=Try.underlying157
  a46:=Try.isAgg157
  z46:=Try.sizeOf157
  v46:=Try.zeroValue157
  t51:=Try.underlying170
  a51:=Try.isAgg170
  z51:=Try.sizeOf170
  v51:=Try.zeroValue170
  t53:=Try.underlying172
  a53:=Try.isAgg172
  z53:=Try.sizeOf172
  v53:=Try.zeroValue172
  t131:=Try.underlying167
  a131:=Try.isAgg167
  z131:=Try.sizeOf167
  v131:=Try.zeroValue167
  t182:=Try.underlying161
  a182:=Try.isAgg161
  z182:=Try.sizeOf161
  v182:=Try.zeroValue161
  t183:=Try.underlying162
  a183:=Try.isAgg162
  z183:=Try.sizeOf162
  v183:=Try.zeroValue162
  t218:=Try.underlying173
  a218:=Try.isAgg173
  z218:=Try.sizeOf173
  v218:=Try.zeroValue173
  t222:=Try.underlying177
  a222:=Try.isAgg177
  z222:=Try.sizeOf177
  v222:=Try.zeroValue177
  t228:=Try.underlying179
  a228:=Try.isAgg179
  z228:=Try.sizeOf179
  v228:=Try.zeroValue179
  t229:=Try.underlying121
  a229:=Try.isAgg121
  z229:=Try.sizeOf121
  v229:=Try.zeroValue121 }
theorem call99:Callable Try.prog 99:=⟨_,rfl,rfl,by kernel_rfl⟩
theorem call100:Callable Try.prog 100:=⟨_,rfl,rfl,by kernel_rfl⟩
abbrev own99:OwnK:=ownSort
abbrev own100:OwnK:=ownCompact
theorem ok99:OwnOk Try.prog 99 own99:=sort_own call99 (fun blk off cap zs w h1 h2 h3=>Any.slices_Sort_int Try.laysNm189 blk off cap zs w h1 h2 h3) (fun p cap w=>Any.slices_Sort_int_none Try.laysNm189 p cap w)
theorem ok100:OwnOk Try.prog 100 own100:=compact_own call100 (fun blk off cap zs w h1 h2 h3=>Any.slices_Compact_int Try.laysNm220 blk off cap zs w h1 h2 h3) (fun a cap w=>Any.slices_Compact_int_empty Try.laysNm220 a cap w)
end Go.Proofs
namespace Go.Pm
open Go Go.Deep

theorem add_add2 (b o i j:Nat):((⟨b,o,none⟩:Addr).add i).add j=⟨b,o+i+j,none⟩:=by
  simp only [Addr.add]
  by_cases h1:i=0
  · subst h1
    by_cases h2:j=0
    · subst h2;rfl
    · rw [if_neg h2];rfl
  · rw [if_neg h1]
    by_cases h2:j=0
    · subst h2;rfl
    · rw [if_neg h2]
def H0 (w:World):Fz:=fun b=>(w.heap[b]?).map .fz
theorem hw_H0 (w:World):Hw (H0 w) w:=by
  intro b x h
  unfold H0 at h
  cases e:w.heap[b]? with
  | none=>rw [e] at h;cases h
  | some o=>rw [e] at h;cases h;exact ⟨o,rfl,rfl⟩
def wfI (x:Int):Prop:=-9223372036854775808≤x∧x≤9223372036854775807
section
variable {H:Type} {en:TypeId×Value→H} {P:Program} {w:World} {sp:Nat→Bool} {held:Bool}
def Rd (H:Type) (en:TypeId×Value→H) (P:Program) (w:World) (sp:Nat→Bool) (held:Bool) (t:TypeId) {α:Type} (enc:α→List PV) (wf:α→Prop):Prop :=
  ∀ (fuel:Nat) (cs:List Value) (x:DataW H×List MemPlace),DataW.trod en P w 0 sp held fuel t cs=some x→∃ a:α,RL (Rep (H0 w)) (enc a) cs∧wf a
theorem rd_int {t:TypeId} (ht:P.underlying t=some (.int .i64)):Rd H en P w sp held t (fun x=>[.int .i64 x]) wfI:=by
  intro fuel cs x h
  obtain ⟨n,rfl,_,hw⟩:=DataW.trod_int ht h
  refine ⟨n,⟨.int _ _,trivial⟩,?_⟩
  simp only [Lit.wf,Bool.and_eq_true,decide_eq_true_eq] at hw
  exact ⟨hw.1,hw.2⟩
theorem rd_struct {t : TypeId} {fs : Array Field} (ht : P.underlying t = some (.struct fs)) {fuel : Nat} {cs : List Value} {x : DataW H × List MemPlace} (h : DataW.trod en P w 0 sp held fuel t cs = some x) :
    cs.length=P.cellsOf t∧∀ (i:Nat) (f:Field),fs[i]? = some f→∃ n y,DataW.trod en P w 0 sp held n f.type ((cs.drop f.offset).take (P.cellsOf f.type))=some y:=by
  obtain ⟨xs,n,_,_,hl,hx,hf⟩:=DataW.trod_struct ht h
  refine ⟨hl,fun i f hi=>?_⟩
  have hlt:i < xs.length:=by rw [hx];exact (Array.getElem?_eq_some_iff.1 hi).1
  exact ⟨n,xs[i],by rw [hf i f hi,List.getElem?_eq_getElem hlt]⟩
theorem rd_slice {t e : TypeId} {α : Type} [Inhabited α] {enc : α → List PV} {wf : α → Prop} {s : Nat} (ht : P.underlying t = some (.slice e)) (hc : P.cellsOf e = s) (hs : 0 < s) (hlen : ∀ a, (enc a).length = s)
    (hel:Rd H en P w sp held e enc wf):Rd H en P w sp held t (fun x:Sl α=>[.sl x.len s (fun i=>enc (x.get i))]) (fun x=>x.len≤9223372036854775807∧∀ i,i < x.len→wf (x.get i)):=by
  intro fuel cs x h
  rcases open_slice ht h with ⟨rfl,_⟩ | ⟨a,len,cap,m,n,D,Pl,rfl,_,hl,hm,hmm,_,hget⟩
  · exact ⟨⟨0,default⟩,⟨.sl0 _ _,trivial⟩,Nat.zero_le _,fun i hi=>absurd hi (Nat.not_lt_zero i)⟩
  · by_cases h0 : len = 0
    · subst h0
      exact ⟨⟨0,default⟩,⟨.sle _ _ _ _,trivial⟩,Nat.zero_le _,fun i hi=>absurd hi (Nat.not_lt_zero i)⟩
    · have hlm : len ≤ m := by rw [hmm]; split <;> omega
      rw [hc] at hget
      have hex:∀ i,i < len→∃ y:α,(∃ cs',w.cells? 0 (a.add (i * s)) s=some cs'∧RL (Rep (H0 w)) (enc y) cs')∧wf y:=by
        intro i hi
        obtain ⟨cs',h1,h2⟩:=hget i (by omega)
        obtain ⟨y,h3,h4⟩:=hel _ _ _ h2
        exact ⟨y,⟨cs',h1,h3⟩,h4⟩
      have hch:∃ f:Nat→α,∀ i,i < len→(∃ cs',w.cells? 0 (a.add (i * s)) s=some cs'∧RL (Rep (H0 w)) (enc (f i)) cs')∧wf (f i):=by
        refine ⟨fun i=>if hi:i < len then Classical.choose (hex i hi) else default,fun i hi=>?_⟩
        simp only [dif_pos hi]
        exact Classical.choose_spec (hex i hi)
      obtain ⟨f,hf⟩:=hch
      -- the block
      have hcell:∀ i,i < len→∀ j,j < s→∃ cs',w.cells? 0 (a.add (i * s)) s=some cs'∧RL (Rep (H0 w)) (enc (f i)) cs'∧w.cell? ((a.add (i * s)).add j)=cs'[j]?∧cs'.length=s:=by
        intro i hi j hj
        obtain ⟨⟨cs',h1,h2⟩,_⟩:=hf i hi
        obtain ⟨_,h3,h4⟩:=World.cells?_some h1
        exact ⟨cs',h1,h2,h4 j hj,h3⟩
      obtain ⟨cs0,_,_,hc0,hl0⟩:=hcell 0 (by omega) 0 hs
      have ha0:w.cell? a=cs0[0]?:=by simpa [Addr.add] using hc0
      rw [List.getElem?_eq_getElem (by omega)] at ha0
      obtain ⟨C,ty,fr,hblk,hspot⟩:∃ C ty fr,w.heap[a.block]? = some (.cells C ty fr)∧a.spot=none:=by
        unfold World.cell? at ha0
        split at ha0
        · rename_i C ty fr hb
          refine ⟨C,ty,fr,hb,?_⟩
          cases hsp:a.spot with
          | none=>rfl
          | some k=>rw [hsp] at ha0;simp at ha0
        · cases ha0
      have ea:a=⟨a.block,a.off,none⟩:=by rw [← hspot]
      have hat:∀ i j,i < len→j < s→∃ cs',RL (Rep (H0 w)) (enc (f i)) cs'∧C[a.off+i * s+j]? = cs'[j]?∧cs'.length=s:=by
        intro i j hi hj
        obtain ⟨cs',_,h2,h3,h4⟩:=hcell i hi j hj
        refine ⟨cs',h2,?_,h4⟩
        rw [← h3]
        have e2:(a.add (i * s)).add j=⟨a.block,a.off+i * s+j,none⟩:=(congrArg (fun z:Addr=>(z.add (i * s)).add j) ea).trans (add_add2 _ _ _ _)
        rw [e2]
        simp [World.cell?,hblk]
      refine ⟨⟨len,f⟩,⟨?_,trivial⟩,by simp only [maxLen] at hm;show len≤_;omega,fun i hi=>(hf i hi).2⟩
      rw [ea]
      refine .sl len s _ a.block a.off cap C ty fr (fun i j=>C.getD (a.off+i * s+j) undef) (by simp [H0,hblk]) hl (fun i _=>hlen _) ?_ ?_
      · intro i j x hi hx
        have hj:j < s:=by have:=(List.getElem?_eq_some_iff.1 hx).1;rw [hlen] at this;exact this
        obtain ⟨cs',h1,h2,h3⟩:=hat i j hi hj
        rw [Array.getD_eq_getD_getElem?,h2,List.getElem?_eq_getElem (by omega)]
        rfl
      · intro i j x hi hx
        have hj:j < s:=by have:=(List.getElem?_eq_some_iff.1 hx).1;rw [hlen] at this;exact this
        obtain ⟨cs',h1,h2,h3⟩:=hat i j hi hj
        obtain ⟨v,hv,hr⟩:=h1.get j x hx
        rw [Array.getD_eq_getD_getElem?,h2,hv]
        exact hr
theorem split_drop {α:Type} (l:List α) (o s:Nat):l.drop o=(l.drop o).take s ++ l.drop (o+s):=by
  rw [← List.drop_drop]
  exact (List.take_append_drop s (l.drop o)).symm
theorem okWide_agg {t:TypeId} {fs:Array Field} {r:Reach} {base:Nat} {v:Value} (ht:P.underlying t=some (.struct fs)) (h:Value.okWide P w r base t v):∃ cs,v=.agg cs:=by
  unfold Value.okWide at h
  rw [ht] at h
  obtain ⟨cs,hv,_⟩:=h
  exact ⟨cs,hv⟩
def flatT : TypeDesc → Bool
  | .struct _=>false
  | .array _ _=>false
  | _=>true
theorem okWide_one {t:TypeId} {d:TypeDesc} {r:Reach} {base:Nat} {v:Value} (ht:P.underlying t=some d) (hd:flatT d=true) (h:Value.okWide P w r base t v):v.cells.toList=[v]:=by
  unfold Value.okWide at h
  rw [ht] at h
  cases v with
  | agg cs =>
    exfalso
    cases d <;> first | (cases hd;done) | (simp only [Cell.okWide,Cell.ok,ht] at h)
  | _=>rfl
theorem pa_one {h:Fz} {p:PV} {v:Value} (hv:v.cells.toList=[v]) (r:RL (Rep h) [p] v.cells.toList):paR h (.one p) v:=by
  rw [hv] at r
  exact r.1
theorem pa_agg {h:Fz} {l:List PV} {v:Value} (hv:∃ cs,v=.agg cs) (r:RL (Rep h) l v.cells.toList):paR h (.agg l) v:=by
  obtain ⟨cs,rfl⟩:=hv
  exact ⟨cs.toList,by simp,r⟩
theorem below_H0 {w':World} (b:Bel (H0 w) w.heap.size w w'):Go.RowKit.Below w.heap.size w w' :=
  ⟨b.os,b.tape,b.output,b.size,fun k hk=>b.block k hk fun F e=>by
    unfold H0 at e
    cases hb:w.heap[k]? <;> rw [hb] at e <;> cases e⟩
end
end Go.Pm
namespace Go.Proofs
open Go Go.Pm
set_option maxRecDepth 100000
set_option linter.unusedVariables false
attribute [local irreducible] Go.Pm.vcFun Go.Pm.vc Go.Pm.vcIter
abbrev enc_3 (x:Int):List PV:=[.int .i64 x]
structure Span where
  Low:Int
  High:Int
deriving Inhabited
abbrev enc_24 (x:Span):List PV:=[.int .i64 x.Low,.int .i64 x.High]
structure FluxRow where
  Energy:Int
  Rate:Span
deriving Inhabited
abbrev enc_44 (x:FluxRow):List PV:=[.int .i64 x.Energy,.int .i64 x.Rate.Low,.int .i64 x.Rate.High]
def dec_44 : List PV → FluxRow
  | [.int .i64 x_Energy,.int .i64 x_Rate_Low,.int .i64 x_Rate_High]=>(⟨x_Energy,(⟨x_Rate_Low,x_Rate_High⟩:Span)⟩:FluxRow)
  | _=>default
def decF_44 (g:Nat→List PV):Nat→FluxRow:=fun i=>dec_44 (g i)
theorem decF_enc_44 (f:Nat→FluxRow):decF_44 (fun i=>enc_44 (f i))=f:=rfl
abbrev enc_32 (x:(Sl FluxRow)):List PV:=[.sl x.len 3 (fun i=>enc_44 (x.get i))]
def dec_32 : List PV → (Sl FluxRow)
  | [.sl x_n _ x_g]=>(⟨x_n,decF_44 x_g⟩:(Sl FluxRow))
  | _=>default
def decF_32 (g:Nat→List PV):Nat→(Sl FluxRow):=fun i=>dec_32 (g i)
theorem decF_enc_32 (f:Nat→(Sl FluxRow)):decF_32 (fun i=>enc_32 (f i))=f:=rfl
abbrev enc_22 (x:(Sl (Sl FluxRow))):List PV:=[.sl x.len 1 (fun i=>enc_32 (x.get i))]
structure Sky where
  Parts:Int
  Bins:(Sl (Sl FluxRow))
  Beta:Span
  Alpha:Span
deriving Inhabited
abbrev enc_26 (x:Sky):List PV:=[.int .i64 x.Parts,.sl x.Bins.len 1 (fun i=>enc_32 (x.Bins.get i)),.int .i64 x.Beta.Low,.int .i64 x.Beta.High,.int .i64 x.Alpha.Low,.int .i64 x.Alpha.High]
structure RangeRow where
  Energy:Int
  Range:Span
deriving Inhabited
abbrev enc_42 (x:RangeRow):List PV:=[.int .i64 x.Energy,.int .i64 x.Range.Low,.int .i64 x.Range.High]
def dec_42 : List PV → RangeRow
  | [.int .i64 x_Energy,.int .i64 x_Range_Low,.int .i64 x_Range_High]=>(⟨x_Energy,(⟨x_Range_Low,x_Range_High⟩:Span)⟩:RangeRow)
  | _=>default
def decF_42 (g:Nat→List PV):Nat→RangeRow:=fun i=>dec_42 (g i)
theorem decF_enc_42 (f:Nat→RangeRow):decF_42 (fun i=>enc_42 (f i))=f:=rfl
abbrev enc_27 (x:(Sl RangeRow)):List PV:=[.sl x.len 3 (fun i=>enc_42 (x.get i))]
structure Nature where
  Ranges:(Sl Int)
  Rates:(Sl Int)
  Soon:Bool
deriving Inhabited
structure Weather where
  Pressure:Span
  Warm:Span
deriving Inhabited
abbrev enc_54 (x:Weather):List PV:=[.int .i64 x.Pressure.Low,.int .i64 x.Pressure.High,.int .i64 x.Warm.Low,.int .i64 x.Warm.High]
structure Spell where
  Slots:Int
  Weather:Weather
deriving Inhabited
abbrev enc_56 (x:Spell):List PV:=[.int .i64 x.Slots,.int .i64 x.Weather.Pressure.Low,.int .i64 x.Weather.Pressure.High,.int .i64 x.Weather.Warm.Low,.int .i64 x.Weather.Warm.High]
def dec_56 : List PV → Spell
  | [.int .i64 x_Slots,.int .i64 x_Weather_Pressure_Low,.int .i64 x_Weather_Pressure_High,.int .i64 x_Weather_Warm_Low,.int .i64 x_Weather_Warm_High]=>(⟨x_Slots,(⟨(⟨x_Weather_Pressure_Low,x_Weather_Pressure_High⟩:Span),(⟨x_Weather_Warm_Low,x_Weather_Warm_High⟩:Span)⟩:Weather)⟩:Spell)
  | _=>default
def decF_56 (g:Nat→List PV):Nat→Spell:=fun i=>dec_56 (g i)
theorem decF_enc_56 (f:Nat→Spell):decF_56 (fun i=>enc_56 (f i))=f:=rfl
abbrev enc_46 (x:(Sl Spell)):List PV:=[.sl x.len 5 (fun i=>enc_56 (x.get i))]
structure Sample where
  Pressure:Int
  Warm:Int
deriving Inhabited
structure FluxStep where
  From:Int
  Rate:Span
deriving Inhabited
abbrev enc_69 (x:FluxStep):List PV:=[.int .i64 x.From,.int .i64 x.Rate.Low,.int .i64 x.Rate.High]
def dec_69 : List PV → FluxStep
  | [.int .i64 x_From,.int .i64 x_Rate_Low,.int .i64 x_Rate_High]=>(⟨x_From,(⟨x_Rate_Low,x_Rate_High⟩:Span)⟩:FluxStep)
  | _=>default
def decF_69 (g:Nat→List PV):Nat→FluxStep:=fun i=>dec_69 (g i)
theorem decF_enc_69 (f:Nat→FluxStep):decF_69 (fun i=>enc_69 (f i))=f:=rfl
structure KinkRow where
  Opacity:Int
  Share:Span
deriving Inhabited
structure ground where
  Sky:Sky
  table:(Sl RangeRow)
  known:(Int→List Int)
deriving Inhabited
abbrev enc_137 (x:ground):List PV:=[.int .i64 x.Sky.Parts,.sl x.Sky.Bins.len 1 (fun i=>enc_32 (x.Sky.Bins.get i)),.int .i64 x.Sky.Beta.Low,.int .i64 x.Sky.Beta.High,.int .i64 x.Sky.Alpha.Low,.int .i64 x.Sky.Alpha.High,.sl x.table.len 3 (fun i=>enc_42 (x.table.get i)),.mp x.known]
end Go.Proofs
namespace Go.Proofs
open Go Go.Pm
set_option maxRecDepth 100000
set_option linter.unusedVariables false
attribute [local irreducible] Go.Pm.vcFun Go.Pm.vc Go.Pm.vcIter
abbrev T63:Tabs:=Tabs.nil
theorem okT63:TabsOk Try.prog T63:=TabsOk.nil
abbrev G63:Ctrs:=csm T63 (fun _ _=>[]) (fun _=>false)
def ann63:Ann:=⟨15,[(0,⟨[0,1,2],[],[],[],[]⟩),(1,⟨[6],[],[],[],[]⟩)],
  [],
  [],
  [],[]⟩
theorem f63_top (n : Int) (low : Int) (high : Int) (K : List PA → Prop) :
  vcFun Try.prog G63 ann63 63 [.one (.int .i64 n),.one (.int .i64 low),.one (.int .i64 high)] K =
  (condP (decide (n ≥ low))
   (K [.one (.bool (decide (n≤high)))])
   (K [.one (.bool false)])):=by kernel_rfl
abbrev e63 (r:Bool):List PA:=[.one (.bool r)]
def s63 (n:Int) (low:Int) (high:Int):Bool :=
  (cond (decide (n ≥ low))
   (decide (n≤high))
   false)
theorem q63 (n:Int) (low:Int) (high:Int) (K:List PA→Prop) (hk:K (e63 (s63 n low high))):vcFun Try.prog G63 ann63 63 [.one (.int .i64 n),.one (.int .i64 low),.one (.int .i64 high)] K:=by
  refine ofEq (f63_top n low high K) ?_
  unfold s63 at hk
  exact (condP_gt (K := fun r => K (e63 r))
   (fun hk=>hk)
   (fun hk=>hk) hk)
def ctr63 : List PA → COut
  | [.one (.int .i64 a0),.one (.int .i64 a1),.one (.int .i64 a2)]=>.tot [.one (.bool (s63 a0 a1 a2))]
  | _=>.no
theorem call63:Callable Try.prog 63:=⟨_,rfl,rfl,by kernel_rfl⟩
theorem ok63:Ok Try.prog 63 ctr63:=ok_tab okT63 call63 fun args K h=>by
  unfold ctr63 at h
  split at h
  · rename_i a0 a1 a2
    have hk:=h
    exact ⟨(fun _ _=>[]),(fun _=>false),ann63,q63 a0 a1 a2 K hk⟩
  · exact h.elim
abbrev T69:Tabs:=(Tabs.nil.addF 63 ctr63)
theorem okT69:TabsOk Try.prog T69:=(TabsOk.nil.addF ok63)
abbrev G69:Ctrs:=csm T69 (fun _ _=>[]) (fun _=>false)
def ann69:Ann:=⟨19,[(0,⟨[1,2,3],[3],[],[],[]⟩),(1,⟨[6],[],[],[],[]⟩)],
  [],
  [],
  [],[]⟩
theorem f69_top (s : Span) (low : Int) (high : Int) (K : List PA → Prop) :
  vcFun Try.prog G69 ann69 69 [.agg [.int .i64 s.Low,.int .i64 s.High],.one (.int .i64 low),.one (.int .i64 high)] K =
  (condP (s63 s.Low low s.High)
   (K [.one (.bool (decide (s.High≤high)))])
   (K [.one (.bool false)])):=by kernel_rfl
abbrev e69 (r:Bool):List PA:=[.one (.bool r)]
def s69 (s:Span) (low:Int) (high:Int):Bool :=
  (cond (s63 s.Low low s.High)
   (decide (s.High≤high))
   false)
theorem q69 (s:Span) (low:Int) (high:Int) (K:List PA→Prop) (hk:K (e69 (s69 s low high))):vcFun Try.prog G69 ann69 69 [.agg [.int .i64 s.Low,.int .i64 s.High],.one (.int .i64 low),.one (.int .i64 high)] K:=by
  refine ofEq (f69_top s low high K) ?_
  unfold s69 at hk
  exact (condP_gt (K := fun r => K (e69 r))
   (fun hk=>hk)
   (fun hk=>hk) hk)
def ctr69 : List PA → COut
  | [.agg [.int .i64 a0_Low,.int .i64 a0_High],.one (.int .i64 a1),.one (.int .i64 a2)]=>.tot [.one (.bool (s69 (⟨a0_Low,a0_High⟩:Span) a1 a2))]
  | _=>.no
theorem call69:Callable Try.prog 69:=⟨_,rfl,rfl,by kernel_rfl⟩
theorem ok69:Ok Try.prog 69 ctr69:=ok_tab okT69 call69 fun args K h=>by
  unfold ctr69 at h
  split at h
  · rename_i a0_Low a0_High a1 a2
    have hk:=h
    exact ⟨(fun _ _=>[]),(fun _=>false),ann69,q69 (⟨a0_Low,a0_High⟩:Span) a1 a2 K hk⟩
  · exact h.elim
abbrev T92:Tabs:=Tabs.nil
theorem okT92:TabsOk Try.prog T92:=TabsOk.nil
abbrev G92:Ctrs:=csm T92 (fun _ _=>[]) (fun _=>false)
def ann92:Ann:=⟨5,[(0,⟨[1],[1],[],[],[]⟩),(1,⟨[2],[],[],[],[]⟩)],
  [],
  [],
  [],[]⟩
theorem f92_top (r_a0 : RangeRow) (K : List PA → Prop) :
  vcFun Try.prog G92 ann92 92 [.agg [.int .i64 r_a0.Energy,.int .i64 r_a0.Range.Low,.int .i64 r_a0.Range.High]] K =
  (K [.one (.int .i64 r_a0.Energy)]):=by kernel_rfl
abbrev e92 (r:Int):List PA:=[.one (.int .i64 r)]
def s92 (r_a0:RangeRow):Int :=
  r_a0.Energy
theorem q92 (r_a0:RangeRow) (K:List PA→Prop) (hk:K (e92 (s92 r_a0))):vcFun Try.prog G92 ann92 92 [.agg [.int .i64 r_a0.Energy,.int .i64 r_a0.Range.Low,.int .i64 r_a0.Range.High]] K:=by
  refine ofEq (f92_top r_a0 K) ?_
  unfold s92 at hk
  exact hk
def ctr92 : List PA → COut
  | [.agg [.int .i64 a0_Energy,.int .i64 a0_Range_Low,.int .i64 a0_Range_High]]=>.tot [.one (.int .i64 (s92 (⟨a0_Energy,(⟨a0_Range_Low,a0_Range_High⟩:Span)⟩:RangeRow)))]
  | _=>.no
theorem call92:Callable Try.prog 92:=⟨_,rfl,rfl,by kernel_rfl⟩
theorem ok92:Ok Try.prog 92 ctr92:=ok_tab okT92 call92 fun args K h=>by
  unfold ctr92 at h
  split at h
  · rename_i a0_Energy a0_Range_Low a0_Range_High
    have hk:=h
    exact ⟨(fun _ _=>[]),(fun _=>false),ann92,q92 (⟨a0_Energy,(⟨a0_Range_Low,a0_Range_High⟩:Span)⟩:RangeRow) K hk⟩
  · exact h.elim
abbrev T93:Tabs:=Tabs.nil
theorem okT93:TabsOk Try.prog T93:=TabsOk.nil
abbrev G93:Ctrs:=csm T93 (fun _ _=>[]) (fun _=>false)
def ann93:Ann:=⟨5,[(0,⟨[1,2],[1,2],[],[],[]⟩),(1,⟨[2],[2],[],[],[]⟩)],
  [],
  [],
  [],[]⟩
theorem f93_top (r_a0 : RangeRow) (K : List PA → Prop) :
  vcFun Try.prog G93 ann93 93 [.agg [.int .i64 r_a0.Energy,.int .i64 r_a0.Range.Low,.int .i64 r_a0.Range.High]] K =
  (K [.agg [.int .i64 r_a0.Range.Low,.int .i64 r_a0.Range.High]]):=by kernel_rfl
abbrev e93 (r:Span):List PA:=[.agg [.int .i64 r.Low,.int .i64 r.High]]
def s93 (r_a0:RangeRow):Span :=
  r_a0.Range
theorem q93 (r_a0:RangeRow) (K:List PA→Prop) (hk:K (e93 (s93 r_a0))):vcFun Try.prog G93 ann93 93 [.agg [.int .i64 r_a0.Energy,.int .i64 r_a0.Range.Low,.int .i64 r_a0.Range.High]] K:=by
  refine ofEq (f93_top r_a0 K) ?_
  unfold s93 at hk
  exact hk
def ctr93 : List PA → COut
  | [.agg [.int .i64 a0_Energy,.int .i64 a0_Range_Low,.int .i64 a0_Range_High]]=>.tot [.agg [.int .i64 ((s93 (⟨a0_Energy,(⟨a0_Range_Low,a0_Range_High⟩:Span)⟩:RangeRow)).Low),.int .i64 ((s93 (⟨a0_Energy,(⟨a0_Range_Low,a0_Range_High⟩:Span)⟩:RangeRow)).High)]]
  | _=>.no
theorem call93:Callable Try.prog 93:=⟨_,rfl,rfl,by kernel_rfl⟩
theorem ok93:Ok Try.prog 93 ctr93:=ok_tab okT93 call93 fun args K h=>by
  unfold ctr93 at h
  split at h
  · rename_i a0_Energy a0_Range_Low a0_Range_High
    have hk:=h
    exact ⟨(fun _ _=>[]),(fun _=>false),ann93,q93 (⟨a0_Energy,(⟨a0_Range_Low,a0_Range_High⟩:Span)⟩:RangeRow) K hk⟩
  · exact h.elim
abbrev T94:Tabs:=Tabs.nil
theorem okT94:TabsOk Try.prog T94:=TabsOk.nil
abbrev G94:Ctrs:=csm T94 (fun _ _=>[]) (fun _=>false)
def ann94:Ann:=⟨17,[(0,⟨[2,3],[2,3],[],[],[]⟩),(1,⟨[4],[],[],[],[]⟩)],
  [],
  [],
  [],[]⟩
theorem f94_top (a : Span) (b : Span) (K : List PA → Prop) :
  vcFun Try.prog G94 ann94 94 [.agg [.int .i64 a.Low,.int .i64 a.High],.agg [.int .i64 b.Low,.int .i64 b.High]] K =
  (condP (decide (b.Low ≥ a.Low))
   (K [.one (.bool (decide (b.High ≥ a.High)))])
   (K [.one (.bool false)])):=by kernel_rfl
abbrev e94 (r:Bool):List PA:=[.one (.bool r)]
def s94 (a:Span) (b:Span):Bool :=
  (cond (decide (b.Low ≥ a.Low))
   (decide (b.High ≥ a.High))
   false)
theorem q94 (a:Span) (b:Span) (K:List PA→Prop) (hk:K (e94 (s94 a b))):vcFun Try.prog G94 ann94 94 [.agg [.int .i64 a.Low,.int .i64 a.High],.agg [.int .i64 b.Low,.int .i64 b.High]] K:=by
  refine ofEq (f94_top a b K) ?_
  unfold s94 at hk
  exact (condP_gt (K := fun r => K (e94 r))
   (fun hk=>hk)
   (fun hk=>hk) hk)
def ctr94 : List PA → COut
  | [.agg [.int .i64 a0_Low,.int .i64 a0_High],.agg [.int .i64 a1_Low,.int .i64 a1_High]]=>.tot [.one (.bool (s94 (⟨a0_Low,a0_High⟩:Span) (⟨a1_Low,a1_High⟩:Span)))]
  | _=>.no
theorem call94:Callable Try.prog 94:=⟨_,rfl,rfl,by kernel_rfl⟩
theorem ok94:Ok Try.prog 94 ctr94:=ok_tab okT94 call94 fun args K h=>by
  unfold ctr94 at h
  split at h
  · rename_i a0_Low a0_High a1_Low a1_High
    have hk:=h
    exact ⟨(fun _ _=>[]),(fun _=>false),ann94,q94 (⟨a0_Low,a0_High⟩:Span) (⟨a1_Low,a1_High⟩:Span) K hk⟩
  · exact h.elim
abbrev T91:Tabs:=(((((Tabs.nil.addF 63 ctr63).addF 69 ctr69).addF 92 ctr92).addF 93 ctr93).addF 94 ctr94)
theorem okT91:TabsOk Try.prog T91:=(((((TabsOk.nil.addF ok63).addF ok69).addF ok92).addF ok93).addF ok94)
abbrev G91:Ctrs:=csm T91 (fun _ _=>[]) (fun _=>false)
def ann91:Ann:=⟨73,[(0,⟨[0,1,2,3,4,5,6],[],[],[],[]⟩),(1,⟨[0,1,2,3,4,5,6,17,18,19],[],[],[],[]⟩),(2,⟨[0,1,2,3,4,5,6,17,18,19,20],[],[],[],[]⟩),(3,⟨[0,1,2,3,4,5,6,15,16,17,18,19],[16],[],[],[]⟩),(4,⟨[0,1,2,3,4,5,6,15,16,17,18,19,38],[16],[],[],[]⟩),(5,⟨[14],[],[],[],[]⟩),(6,⟨[0,1,2,3,4,5,6,17,18,19,68],[],[],[],[]⟩),(7,⟨[14],[],[],[],[]⟩),(8,⟨[0,1,2,3,4,5,6,17,18,19],[],[],[],[]⟩),(9,⟨[14],[],[],[],[]⟩)],
  [(2,⟨[0,1,2,3,4,5,6,17,18,19],[],[],[],[]⟩)],
  [(5,⟨[0,1,2,3,4,5,6,15,16,17,18,19,38],[16],[],[],[]⟩),(6,⟨[0,1,2,3,4,5,6,15,16,17,18,19],[16],[],[],[]⟩),(7,⟨[0,1,2,3,4,5,6,17,18,19,68],[],[],[],[]⟩)],
  [],[]⟩
def f91_g0 (rows:(Sl RangeRow)) (from_a1:Int) (until_a2:Int) (most:Int) (t19v0:Int):St:=⟨[(0,.one (.c (.p (.sl rows.len 3 (fun i=>enc_42 (rows.get i)))))),(1,.one (.c (.p (.int .i64 from_a1)))),(2,.one (.c (.p (.int .i64 until_a2)))),(3,.one (.c (.p (.fn 92 [] [])))),(4,.one (.c (.p (.fn 93 [] [])))),(5,.one (.c (.p (.int .i64 most)))),(6,.one (.c (.p (.fn 94 [] [])))),(17,.one (.c (.p (.sl rows.len 3 (fun i=>enc_42 (rows.get i)))))),(18,.one (.c (.p (.int .i64 (rows.len:Int))))),(19,.one (.c (.p (.int .i64 t19v0))))],[],[]⟩
def f91_at0 (K:List PA→Prop) (rows:(Sl RangeRow)) (from_a1:Int) (until_a2:Int) (most:Int) (t19v0:Int):Prop:=vc Try.prog G91 ann91 (cdF Try.f91 [1,0,1,0]) (blockK 0 (sqK Try.prog G91 ann91 (cdF Try.f91 [1,1]) (bodyK Try.prog Try.f91 K))) (f91_g0 rows from_a1 until_a2 most t19v0)
def f91_g1 (rows:(Sl RangeRow)) (from_a1:Int) (until_a2:Int) (most:Int) (iv1:Int) (t19v1:Int) (t38v1:Bool) (r_0v1:Int) (r_1v1:Int) (r_2v1:Int):St:=⟨[(0,.one (.c (.p (.sl rows.len 3 (fun i=>enc_42 (rows.get i)))))),(1,.one (.c (.p (.int .i64 from_a1)))),(2,.one (.c (.p (.int .i64 until_a2)))),(3,.one (.c (.p (.fn 92 [] [])))),(4,.one (.c (.p (.fn 93 [] [])))),(5,.one (.c (.p (.int .i64 most)))),(6,.one (.c (.p (.fn 94 [] [])))),(15,.one (.c (.p (.int .i64 iv1)))),(16,.one (.c (.ptr 16 0))),(17,.one (.c (.p (.sl rows.len 3 (fun i=>enc_42 (rows.get i)))))),(18,.one (.c (.p (.int .i64 (rows.len:Int))))),(19,.one (.c (.p (.int .i64 t19v1)))),(38,.one (.c (.p (.bool t38v1))))],[(16,.box 42 [.p (.int .i64 r_0v1),.p (.int .i64 r_1v1),.p (.int .i64 r_2v1)])],[]⟩
def f91_at1 (K:List PA→Prop) (X0:St→Prop) (rows:(Sl RangeRow)) (from_a1:Int) (until_a2:Int) (most:Int) (iv1:Int) (t19v1:Int) (t38v1:Bool) (r_0v1:Int) (r_1v1:Int) (r_2v1:Int):Prop:=vc Try.prog G91 ann91 (cdF Try.f91 [1,0,1,0,0,1,1,0,0,1,0,1]) (sqK Try.prog G91 ann91 (cdF Try.f91 [1,0,1,0,0,1,1,0,0,1,1]) (blockK 1 (sqK Try.prog G91 ann91 (cdF Try.f91 [1,0,1,0,0,1,1,1]) (loopK Try.prog ann91 2 X0 (blockK 0 (sqK Try.prog G91 ann91 (cdF Try.f91 [1,1]) (bodyK Try.prog Try.f91 K))))))) (f91_g1 rows from_a1 until_a2 most iv1 t19v1 t38v1 r_0v1 r_1v1 r_2v1)
def f91_g2 (rows:(Sl RangeRow)) (from_a1:Int) (until_a2:Int) (most:Int) (iv2:Int) (t19v2:Int) (r_0v2:Int) (r_1v2:Int) (r_2v2:Int):St:=⟨[(0,.one (.c (.p (.sl rows.len 3 (fun i=>enc_42 (rows.get i)))))),(1,.one (.c (.p (.int .i64 from_a1)))),(2,.one (.c (.p (.int .i64 until_a2)))),(3,.one (.c (.p (.fn 92 [] [])))),(4,.one (.c (.p (.fn 93 [] [])))),(5,.one (.c (.p (.int .i64 most)))),(6,.one (.c (.p (.fn 94 [] [])))),(15,.one (.c (.p (.int .i64 iv2)))),(16,.one (.c (.ptr 16 0))),(17,.one (.c (.p (.sl rows.len 3 (fun i=>enc_42 (rows.get i)))))),(18,.one (.c (.p (.int .i64 (rows.len:Int))))),(19,.one (.c (.p (.int .i64 t19v2))))],[(16,.box 42 [.p (.int .i64 r_0v2),.p (.int .i64 r_1v2),.p (.int .i64 r_2v2)])],[]⟩
def f91_at2 (K:List PA→Prop) (X0:St→Prop) (rows:(Sl RangeRow)) (from_a1:Int) (until_a2:Int) (most:Int) (iv2:Int) (t19v2:Int) (r_0v2:Int) (r_1v2:Int) (r_2v2:Int):Prop:=vc Try.prog G91 ann91 (cdF Try.f91 [1,0,1,0,0,1,1,0,0,1,1]) (blockK 1 (sqK Try.prog G91 ann91 (cdF Try.f91 [1,0,1,0,0,1,1,1]) (loopK Try.prog ann91 2 X0 (blockK 0 (sqK Try.prog G91 ann91 (cdF Try.f91 [1,1]) (bodyK Try.prog Try.f91 K)))))) (f91_g2 rows from_a1 until_a2 most iv2 t19v2 r_0v2 r_1v2 r_2v2)
def f91_g3 (rows:(Sl RangeRow)) (from_a1:Int) (until_a2:Int) (most:Int) (t19v3:Int) (t68v3:Bool):St:=⟨[(0,.one (.c (.p (.sl rows.len 3 (fun i=>enc_42 (rows.get i)))))),(1,.one (.c (.p (.int .i64 from_a1)))),(2,.one (.c (.p (.int .i64 until_a2)))),(3,.one (.c (.p (.fn 92 [] [])))),(4,.one (.c (.p (.fn 93 [] [])))),(5,.one (.c (.p (.int .i64 most)))),(6,.one (.c (.p (.fn 94 [] [])))),(17,.one (.c (.p (.sl rows.len 3 (fun i=>enc_42 (rows.get i)))))),(18,.one (.c (.p (.int .i64 (rows.len:Int))))),(19,.one (.c (.p (.int .i64 t19v3)))),(68,.one (.c (.p (.bool t68v3))))],[],[]⟩
def f91_at3 (K:List PA→Prop) (X0:St→Prop) (rows:(Sl RangeRow)) (from_a1:Int) (until_a2:Int) (most:Int) (t19v3:Int) (t68v3:Bool):Prop:=vc Try.prog G91 ann91 (cdF Try.f91 [1,0,1,0,0,1,1,0,0,1,1,1]) (blockK 1 (sqK Try.prog G91 ann91 (cdF Try.f91 [1,0,1,0,0,1,1,1]) (loopK Try.prog ann91 2 X0 (blockK 0 (sqK Try.prog G91 ann91 (cdF Try.f91 [1,1]) (bodyK Try.prog Try.f91 K)))))) (f91_g3 rows from_a1 until_a2 most t19v3 t68v3)
theorem f91_top (rows : (Sl RangeRow)) (from_a1 : Int) (until_a2 : Int) (most : Int) (K : List PA → Prop) :
  vcFun Try.prog G91 ann91 91 [.one (.sl rows.len 3 (fun i=>enc_42 (rows.get i))),.one (.int .i64 from_a1),.one (.int .i64 until_a2),.one (.fn 92 [] []),.one (.fn 93 [] []),.one (.int .i64 most),.one (.fn 94 [] [])] K =
  (f91_at0 K rows from_a1 until_a2 most (0:Int)):=by kernel_rfl
def f91_step0 (K:List PA→Prop) (X0:St→Prop) (rows:(Sl RangeRow)) (from_a1:Int) (until_a2:Int) (most:Int) (t19v0:Int):Prop :=
  (condP (decide (t19v0 < (rows.len : Int)))
   (((0≤t19v0∧t19v0 < (rows.len:Int))) ∧
   (condP (!(s63 (s92 (rows.get t19v0.toNat)) from_a1 until_a2))
    (f91_at1 K X0 rows from_a1 until_a2 most t19v0 t19v0 true ((rows.get t19v0.toNat).Energy) ((rows.get t19v0.toNat).Range.Low) ((rows.get t19v0.toNat).Range.High))
    (f91_at1 K X0 rows from_a1 until_a2 most t19v0 t19v0 (!(s69 (s93 (rows.get t19v0.toNat)) (0:Int) most)) ((rows.get t19v0.toNat).Energy) ((rows.get t19v0.toNat).Range.Low) ((rows.get t19v0.toNat).Range.High))))
   (K [.one (.bool (s63 (rows.len:Int) (1:Int) (40:Int)))]))
theorem f91_stepeq0 (K : List PA → Prop) (X0 : St → Prop) (rows : (Sl RangeRow)) (from_a1 : Int) (until_a2 : Int) (most : Int) (t19v0 : Int) :
  vc Try.prog G91 ann91 (cd (cdF Try.f91 [1,0,1,0]) [0]) (loopK Try.prog ann91 2 X0 (blockK 0 (sqK Try.prog G91 ann91 (cdF Try.f91 [1,1]) (bodyK Try.prog Try.f91 K)))) (f91_g0 rows from_a1 until_a2 most t19v0) =
  f91_step0 K X0 rows from_a1 until_a2 most t19v0:=by kernel_rfl
theorem f91_loop0 (K : List PA → Prop) (rows : (Sl RangeRow)) (from_a1 : Int) (until_a2 : Int) (most : Int) (t19v0 : Int)
  (h:∀ X0:St→Prop,(∀ (t19v0:Int),f91_step0 K X0 rows from_a1 until_a2 most t19v0→X0 (f91_g0 rows from_a1 until_a2 most t19v0))→X0 (f91_g0 rows from_a1 until_a2 most t19v0)) :
  f91_at0 K rows from_a1 until_a2 most t19v0:=by
  have e:f91_at0 K rows from_a1 until_a2 most t19v0=(∀ X:St→Prop,(∀ s,vc Try.prog G91 ann91 (cd (cdF Try.f91 [1,0,1,0]) [0]) (loopK Try.prog ann91 2 X (blockK 0 (sqK Try.prog G91 ann91 (cdF Try.f91 [1,1]) (bodyK Try.prog Try.f91 K)))) s→X s)→X (f91_g0 rows from_a1 until_a2 most t19v0)):=by kernel_rfl
  refine ofEq e ?_
  intro X hX
  refine h X ?_
  intro t19v0 hs
  refine hX _ ?_
  have e2:=f91_stepeq0 K X rows from_a1 until_a2 most t19v0
  rw [e2]
  exact hs
theorem f91_eq1 (K : List PA → Prop) (X0 : St → Prop) (rows : (Sl RangeRow)) (from_a1 : Int) (until_a2 : Int) (most : Int) (iv1 : Int) (t19v1 : Int) (t38v1 : Bool) (r_0v1 : Int) (r_1v1 : Int) (r_2v1 : Int) :
  f91_at1 K X0 rows from_a1 until_a2 most iv1 t19v1 t38v1 r_0v1 r_1v1 r_2v1 =
  (condP t38v1
   (K [.one (.bool false)])
   (f91_at2 K X0 rows from_a1 until_a2 most iv1 t19v1 r_0v1 r_1v1 r_2v1)):=by kernel_rfl
theorem f91_eq2 (K : List PA → Prop) (X0 : St → Prop) (rows : (Sl RangeRow)) (from_a1 : Int) (until_a2 : Int) (most : Int) (iv2 : Int) (t19v2 : Int) (r_0v2 : Int) (r_1v2 : Int) (r_2v2 : Int) :
  f91_at2 K X0 rows from_a1 until_a2 most iv2 t19v2 r_0v2 r_1v2 r_2v2 =
  (condP (decide (iv2 > (0:Int)))
   (((0≤(w64 (iv2 - (1:Int)))∧(w64 (iv2 - (1:Int))) < (rows.len:Int))) ∧
   (condP (decide ((s92 (⟨r_0v2, (⟨r_1v2, r_2v2⟩ : Span)⟩ : RangeRow)) ≤ (s92 (rows.get ((w64 (iv2 - (1:Int))).toNat)))))
    (f91_at3 K X0 rows from_a1 until_a2 most t19v2 true)
    (((0≤(w64 (iv2 - (1:Int)))∧(w64 (iv2 - (1:Int))) < (rows.len:Int))) ∧
    (f91_at3 K X0 rows from_a1 until_a2 most t19v2 (!(s94 (s93 (rows.get ((w64 (iv2 - (1:Int))).toNat))) (s93 (⟨r_0v2,(⟨r_1v2,r_2v2⟩:Span)⟩:RangeRow))))))))
   (f91_at3 K X0 rows from_a1 until_a2 most t19v2 false)):=by kernel_rfl
theorem f91_eq3 (K : List PA → Prop) (X0 : St → Prop) (rows : (Sl RangeRow)) (from_a1 : Int) (until_a2 : Int) (most : Int) (t19v3 : Int) (t68v3 : Bool) :
  f91_at3 K X0 rows from_a1 until_a2 most t19v3 t68v3 =
  (condP t68v3
   (K [.one (.bool false)])
   (X0 (f91_g0 rows from_a1 until_a2 most (w64 (t19v3+(1:Int)))))):=by kernel_rfl
abbrev e91 (r:Bool):List PA:=[.one (.bool r)]
attribute [irreducible] f91_at0 f91_at1 f91_at2 f91_at3
def s91_at3 (S0:Int→Bool) (rows:(Sl RangeRow)) (from_a1:Int) (until_a2:Int) (most:Int) (t19v3:Int) (t68v3:Bool):Bool :=
  (cond t68v3
   false
   (S0 (w64 (t19v3+(1:Int)))))
def p91_at3 (P0:Int→Bool) (rows:(Sl RangeRow)) (from_a1:Int) (until_a2:Int) (most:Int) (t19v3:Int) (t68v3:Bool):Bool :=
  (cond t68v3
   true
   (P0 (w64 (t19v3+(1:Int)))))
theorem q91_at3 (K : List PA → Prop) (rows : (Sl RangeRow)) (from_a1 : Int) (until_a2 : Int) (most : Int)
  (X0:St→Prop) (P0:Int→Bool) (S0:Int→Bool)
  (hX0:∀ (t19v0:Int),P0 t19v0=true→K (e91 (S0 t19v0))→X0 (f91_g0 rows from_a1 until_a2 most t19v0)) (t19v3:Int) (t68v3:Bool) (hs:p91_at3 P0 rows from_a1 until_a2 most t19v3 t68v3=true) (hk:K (e91 (s91_at3 S0 rows from_a1 until_a2 most t19v3 t68v3))):f91_at3 K X0 rows from_a1 until_a2 most t19v3 t68v3:=by
  refine ofEq (f91_eq3 K X0 rows from_a1 until_a2 most t19v3 t68v3) ?_
  unfold p91_at3 at hs
  unfold s91_at3 at hk
  exact (condB_go (K := fun r => K (e91 r))
   (fun hs hk=>hk)
   (fun hs hk=>(hX0 (w64 (t19v3+(1:Int))) hs hk)) hs hk)
def s91_at2 (S0:Int→Bool) (rows:(Sl RangeRow)) (from_a1:Int) (until_a2:Int) (most:Int) (iv2:Int) (t19v2:Int) (r_0v2:Int) (r_1v2:Int) (r_2v2:Int):Bool :=
  (cond (decide (iv2 > (0:Int)))
   (cond (decide ((s92 (⟨r_0v2, (⟨r_1v2, r_2v2⟩ : Span)⟩ : RangeRow)) ≤ (s92 (rows.get ((w64 (iv2 - (1:Int))).toNat)))))
    (s91_at3 S0 rows from_a1 until_a2 most t19v2 true)
    (s91_at3 S0 rows from_a1 until_a2 most t19v2 (!(s94 (s93 (rows.get ((w64 (iv2 - (1:Int))).toNat))) (s93 (⟨r_0v2,(⟨r_1v2,r_2v2⟩:Span)⟩:RangeRow))))))
   (s91_at3 S0 rows from_a1 until_a2 most t19v2 false))
def p91_at2 (P0:Int→Bool) (rows:(Sl RangeRow)) (from_a1:Int) (until_a2:Int) (most:Int) (iv2:Int) (t19v2:Int) (r_0v2:Int) (r_1v2:Int) (r_2v2:Int):Bool :=
  (cond (decide (iv2 > (0:Int)))
   (decide ((0≤(w64 (iv2 - (1:Int)))∧(w64 (iv2 - (1:Int))) < (rows.len:Int))) &&
   (cond (decide ((s92 (⟨r_0v2, (⟨r_1v2, r_2v2⟩ : Span)⟩ : RangeRow)) ≤ (s92 (rows.get ((w64 (iv2 - (1:Int))).toNat)))))
    (p91_at3 P0 rows from_a1 until_a2 most t19v2 true)
    (decide ((0≤(w64 (iv2 - (1:Int)))∧(w64 (iv2 - (1:Int))) < (rows.len:Int))) &&
    (p91_at3 P0 rows from_a1 until_a2 most t19v2 (!(s94 (s93 (rows.get ((w64 (iv2 - (1:Int))).toNat))) (s93 (⟨r_0v2,(⟨r_1v2,r_2v2⟩:Span)⟩:RangeRow))))))))
   (p91_at3 P0 rows from_a1 until_a2 most t19v2 false))
theorem q91_at2 (K : List PA → Prop) (rows : (Sl RangeRow)) (from_a1 : Int) (until_a2 : Int) (most : Int)
  (X0:St→Prop) (P0:Int→Bool) (S0:Int→Bool)
  (hX0:∀ (t19v0:Int),P0 t19v0=true→K (e91 (S0 t19v0))→X0 (f91_g0 rows from_a1 until_a2 most t19v0)) (iv2:Int) (t19v2:Int) (r_0v2:Int) (r_1v2:Int) (r_2v2:Int) (hs:p91_at2 P0 rows from_a1 until_a2 most iv2 t19v2 r_0v2 r_1v2 r_2v2=true) (hk:K (e91 (s91_at2 S0 rows from_a1 until_a2 most iv2 t19v2 r_0v2 r_1v2 r_2v2))):f91_at2 K X0 rows from_a1 until_a2 most iv2 t19v2 r_0v2 r_1v2 r_2v2:=by
  refine ofEq (f91_eq2 K X0 rows from_a1 until_a2 most iv2 t19v2 r_0v2 r_1v2 r_2v2) ?_
  unfold p91_at2 at hs
  unfold s91_at2 at hk
  exact (condB_go (K := fun r => K (e91 r))
   (fun hs hk => (andK hs fun hc hs => ⟨hc, (condB_go (K := fun r => K (e91 r))
    (fun hs hk=>(q91_at3 K rows from_a1 until_a2 most X0 P0 S0 hX0 t19v2 true hs hk))
    (fun hs hk=>(andK hs fun hc hs=>⟨hc,(q91_at3 K rows from_a1 until_a2 most X0 P0 S0 hX0 t19v2 (!(s94 (s93 (rows.get ((w64 (iv2 - (1:Int))).toNat))) (s93 (⟨r_0v2,(⟨r_1v2,r_2v2⟩:Span)⟩:RangeRow)))) hs hk)⟩)) hs hk)⟩))
   (fun hs hk=>(q91_at3 K rows from_a1 until_a2 most X0 P0 S0 hX0 t19v2 false hs hk)) hs hk)
def s91_at1 (S0:Int→Bool) (rows:(Sl RangeRow)) (from_a1:Int) (until_a2:Int) (most:Int) (iv1:Int) (t19v1:Int) (t38v1:Bool) (r_0v1:Int) (r_1v1:Int) (r_2v1:Int):Bool :=
  (cond t38v1
   false
   (s91_at2 S0 rows from_a1 until_a2 most iv1 t19v1 r_0v1 r_1v1 r_2v1))
def p91_at1 (P0:Int→Bool) (rows:(Sl RangeRow)) (from_a1:Int) (until_a2:Int) (most:Int) (iv1:Int) (t19v1:Int) (t38v1:Bool) (r_0v1:Int) (r_1v1:Int) (r_2v1:Int):Bool :=
  (cond t38v1
   true
   (p91_at2 P0 rows from_a1 until_a2 most iv1 t19v1 r_0v1 r_1v1 r_2v1))
theorem q91_at1 (K : List PA → Prop) (rows : (Sl RangeRow)) (from_a1 : Int) (until_a2 : Int) (most : Int)
  (X0:St→Prop) (P0:Int→Bool) (S0:Int→Bool)
  (hX0:∀ (t19v0:Int),P0 t19v0=true→K (e91 (S0 t19v0))→X0 (f91_g0 rows from_a1 until_a2 most t19v0)) (iv1:Int) (t19v1:Int) (t38v1:Bool) (r_0v1:Int) (r_1v1:Int) (r_2v1:Int) (hs:p91_at1 P0 rows from_a1 until_a2 most iv1 t19v1 t38v1 r_0v1 r_1v1 r_2v1=true) (hk:K (e91 (s91_at1 S0 rows from_a1 until_a2 most iv1 t19v1 t38v1 r_0v1 r_1v1 r_2v1))):f91_at1 K X0 rows from_a1 until_a2 most iv1 t19v1 t38v1 r_0v1 r_1v1 r_2v1:=by
  refine ofEq (f91_eq1 K X0 rows from_a1 until_a2 most iv1 t19v1 t38v1 r_0v1 r_1v1 r_2v1) ?_
  unfold p91_at1 at hs
  unfold s91_at1 at hk
  exact (condB_go (K := fun r => K (e91 r))
   (fun hs hk=>hk)
   (fun hs hk=>(q91_at2 K rows from_a1 until_a2 most X0 P0 S0 hX0 iv1 t19v1 r_0v1 r_1v1 r_2v1 hs hk)) hs hk)
def s91_st0 (rows:(Sl RangeRow)) (from_a1:Int) (until_a2:Int) (most:Int) (S0:Int→Bool) (t19v0:Int):Bool :=
  (cond (decide (t19v0 < (rows.len : Int)))
   (cond (!(s63 (s92 (rows.get t19v0.toNat)) from_a1 until_a2))
    (s91_at1 S0 rows from_a1 until_a2 most t19v0 t19v0 true ((rows.get t19v0.toNat).Energy) ((rows.get t19v0.toNat).Range.Low) ((rows.get t19v0.toNat).Range.High))
    (s91_at1 S0 rows from_a1 until_a2 most t19v0 t19v0 (!(s69 (s93 (rows.get t19v0.toNat)) (0:Int) most)) ((rows.get t19v0.toNat).Energy) ((rows.get t19v0.toNat).Range.Low) ((rows.get t19v0.toNat).Range.High)))
   (s63 (rows.len:Int) (1:Int) (40:Int)))
def p91_st0 (rows:(Sl RangeRow)) (from_a1:Int) (until_a2:Int) (most:Int) (P0:Int→Bool) (t19v0:Int):Bool :=
  (cond (decide (t19v0 < (rows.len : Int)))
   (decide ((0≤t19v0∧t19v0 < (rows.len:Int))) &&
   (cond (!(s63 (s92 (rows.get t19v0.toNat)) from_a1 until_a2))
    (p91_at1 P0 rows from_a1 until_a2 most t19v0 t19v0 true ((rows.get t19v0.toNat).Energy) ((rows.get t19v0.toNat).Range.Low) ((rows.get t19v0.toNat).Range.High))
    (p91_at1 P0 rows from_a1 until_a2 most t19v0 t19v0 (!(s69 (s93 (rows.get t19v0.toNat)) (0:Int) most)) ((rows.get t19v0.toNat).Energy) ((rows.get t19v0.toNat).Range.Low) ((rows.get t19v0.toNat).Range.High))))
   true)
def s91_lp0 (rows : (Sl RangeRow)) (from_a1 : Int) (until_a2 : Int) (most : Int) : Nat → Int → Bool
  | 0=>fun _=>default
  | k+1=>s91_st0 rows from_a1 until_a2 most (s91_lp0 rows from_a1 until_a2 most k)
def p91_lp0 (rows : (Sl RangeRow)) (from_a1 : Int) (until_a2 : Int) (most : Int) : Nat → Int → Bool
  | 0=>fun _=>false
  | k+1=>p91_st0 rows from_a1 until_a2 most (p91_lp0 rows from_a1 until_a2 most k)
def s91_at0 (rows:(Sl RangeRow)) (from_a1:Int) (until_a2:Int) (most:Int) (t19v0:Int):Bool:=s91_lp0 rows from_a1 until_a2 most Fuel t19v0
def p91_at0 (rows:(Sl RangeRow)) (from_a1:Int) (until_a2:Int) (most:Int) (t19v0:Int):Bool:=p91_lp0 rows from_a1 until_a2 most Fuel t19v0
theorem q91_at0 (K:List PA→Prop) (rows:(Sl RangeRow)) (from_a1:Int) (until_a2:Int) (most:Int) (t19v0:Int) (hs:p91_at0 rows from_a1 until_a2 most t19v0=true) (hk:K (e91 (s91_at0 rows from_a1 until_a2 most t19v0))):f91_at0 K rows from_a1 until_a2 most t19v0:=by
  refine f91_loop0 K rows from_a1 until_a2 most t19v0 ?_
  intro X0 hstep
  have key:∀ (k:Nat) (t19v0:Int),p91_lp0 rows from_a1 until_a2 most k t19v0=true→K (e91 (s91_lp0 rows from_a1 until_a2 most k t19v0))→X0 (f91_g0 rows from_a1 until_a2 most t19v0):=by
    intro k
    induction k with
    | zero=>intro t19v0 hs;exact absurd hs Bool.false_ne_true
    | succ k ih =>
      intro t19v0 hs hk
      refine hstep t19v0 ?_
      have hs:p91_st0 rows from_a1 until_a2 most (p91_lp0 rows from_a1 until_a2 most k) t19v0=true:=hs
      have hk:K (e91 (s91_st0 rows from_a1 until_a2 most (s91_lp0 rows from_a1 until_a2 most k) t19v0)):=hk
      unfold p91_st0 at hs
      unfold s91_st0 at hk
      generalize s91_lp0 rows from_a1 until_a2 most k=S0 at hk ih
      generalize p91_lp0 rows from_a1 until_a2 most k=P0 at hs ih
      have hX0:=ih
      exact (condB_go (K := fun r => K (e91 r))
       (fun hs hk => (andK hs fun hc hs => ⟨hc, (condB_go (K := fun r => K (e91 r))
        (fun hs hk=>(q91_at1 K rows from_a1 until_a2 most X0 P0 S0 hX0 t19v0 t19v0 true ((rows.get t19v0.toNat).Energy) ((rows.get t19v0.toNat).Range.Low) ((rows.get t19v0.toNat).Range.High) hs hk))
        (fun hs hk=>(q91_at1 K rows from_a1 until_a2 most X0 P0 S0 hX0 t19v0 t19v0 (!(s69 (s93 (rows.get t19v0.toNat)) (0:Int) most)) ((rows.get t19v0.toNat).Energy) ((rows.get t19v0.toNat).Range.Low) ((rows.get t19v0.toNat).Range.High) hs hk)) hs hk)⟩))
       (fun hs hk=>hk) hs hk)
  exact key _ t19v0 hs hk
def s91 (rows:(Sl RangeRow)) (from_a1:Int) (until_a2:Int) (most:Int):Bool :=
  (s91_at0 rows from_a1 until_a2 most (0:Int))
def p91 (rows:(Sl RangeRow)) (from_a1:Int) (until_a2:Int) (most:Int):Bool :=
  (p91_at0 rows from_a1 until_a2 most (0:Int))
theorem q91 (rows:(Sl RangeRow)) (from_a1:Int) (until_a2:Int) (most:Int) (K:List PA→Prop) (hs:p91 rows from_a1 until_a2 most=true) (hk:K (e91 (s91 rows from_a1 until_a2 most))):vcFun Try.prog G91 ann91 91 [.one (.sl rows.len 3 (fun i=>enc_42 (rows.get i))),.one (.int .i64 from_a1),.one (.int .i64 until_a2),.one (.fn 92 [] []),.one (.fn 93 [] []),.one (.int .i64 most),.one (.fn 94 [] [])] K:=by
  refine ofEq (f91_top rows from_a1 until_a2 most K) ?_
  unfold p91 at hs
  unfold s91 at hk
  exact (q91_at0 K rows from_a1 until_a2 most (0:Int) hs hk)
def ctr91 : List PA → COut
  | [.one (.sl a0_n a0_s a0_g),.one (.int .i64 a1),.one (.int .i64 a2),.one (.fn 92 [] []),.one (.fn 93 [] []),.one (.int .i64 a5),.one (.fn 94 [] [])]=>.det (IsE enc_42 3 a0_s a0_g∧p91 (⟨a0_n,decF_42 a0_g⟩:(Sl RangeRow)) a1 a2 a5=true) [.one (.bool (s91 (⟨a0_n,decF_42 a0_g⟩:(Sl RangeRow)) a1 a2 a5))]
  | _=>.no
theorem call91:Callable Try.prog 91:=⟨_,rfl,rfl,by kernel_rfl⟩
theorem ok91:Ok Try.prog 91 ctr91:=ok_tab okT91 call91 fun args K h=>by
  unfold ctr91 at h
  split at h
  · rename_i a0_n a0_s a0_g a1 a2 a5
    obtain ⟨⟨⟨rfl,a0_f,rfl⟩,hs⟩,hk⟩:=h
    try rw [decF_enc_42 a0_f] at hs
    try rw [decF_enc_42 a0_f] at hk
    exact ⟨(fun _ _=>[]),(fun _=>false),ann91,q91 (⟨a0_n,a0_f⟩:(Sl RangeRow)) a1 a2 a5 K hs hk⟩
  · exact h.elim
abbrev T62:Tabs:=(Tabs.nil.addF 91 ctr91)
theorem okT62:TabsOk Try.prog T62:=(TabsOk.nil.addF ok91)
abbrev G62:Ctrs:=csm T62 (fun _ _=>[]) (fun _=>false)
def ann62:Ann:=⟨5,[(0,⟨[0],[],[],[],[]⟩),(1,⟨[2],[],[],[],[]⟩)],
  [],
  [],
  [],[]⟩
theorem f62_top (t : (Sl RangeRow)) (K : List PA → Prop) :
  vcFun Try.prog G62 ann62 62 [.one (.sl t.len 3 (fun i=>enc_42 (t.get i)))] K =
  ((IsE enc_42 3 3 (fun i=>enc_42 (t.get i))∧(p91 t (1:Int) (1000000:Int) (1000000:Int)=true)) ∧
  (K [.one (.bool (s91 t (1:Int) (1000000:Int) (1000000:Int)))])):=by kernel_rfl
abbrev e62 (r:Bool):List PA:=[.one (.bool r)]
def s62 (t:(Sl RangeRow)):Bool :=
  (s91 t (1:Int) (1000000:Int) (1000000:Int))
def p62 (t:(Sl RangeRow)):Bool :=
  (decide ((p91 t (1:Int) (1000000:Int) (1000000:Int)=true)) &&
  true)
theorem q62 (t:(Sl RangeRow)) (K:List PA→Prop) (hs:p62 t=true) (hk:K (e62 (s62 t))):vcFun Try.prog G62 ann62 62 [.one (.sl t.len 3 (fun i=>enc_42 (t.get i)))] K:=by
  refine ofEq (f62_top t K) ?_
  unfold p62 at hs
  unfold s62 at hk
  exact (andK hs fun hc hs=>⟨⟨isE,hc⟩,hk⟩)
def ctr62 : List PA → COut
  | [.one (.sl a0_n a0_s a0_g)]=>.det (IsE enc_42 3 a0_s a0_g∧p62 (⟨a0_n,decF_42 a0_g⟩:(Sl RangeRow))=true) [.one (.bool (s62 (⟨a0_n,decF_42 a0_g⟩:(Sl RangeRow))))]
  | _=>.no
theorem call62:Callable Try.prog 62:=⟨_,rfl,rfl,by kernel_rfl⟩
theorem ok62:Ok Try.prog 62 ctr62:=ok_tab okT62 call62 fun args K h=>by
  unfold ctr62 at h
  split at h
  · rename_i a0_n a0_s a0_g
    obtain ⟨⟨⟨rfl,a0_f,rfl⟩,hs⟩,hk⟩:=h
    try rw [decF_enc_42 a0_f] at hs
    try rw [decF_enc_42 a0_f] at hk
    exact ⟨(fun _ _=>[]),(fun _=>false),ann62,q62 (⟨a0_n,a0_f⟩:(Sl RangeRow)) K hs hk⟩
  · exact h.elim
abbrev T82:Tabs:=Tabs.nil
theorem okT82:TabsOk Try.prog T82:=TabsOk.nil
abbrev G82:Ctrs:=csm T82 (fun _ _=>[]) (fun _=>false)
def ann82:Ann:=⟨8,[(0,⟨[1,2],[2],[],[],[]⟩),(1,⟨[3],[],[],[],[]⟩)],
  [],
  [],
  [],[]⟩
theorem f82_top (c0 : Int) (r_a0 : RangeRow) (K : List PA → Prop) :
  vcFun Try.prog G82 ann82 82 [.agg [.int .i64 r_a0.Energy,.int .i64 r_a0.Range.Low,.int .i64 r_a0.Range.High],.one (.fp (enc_3 c0) 0)] K =
  (K [.one (.bool (decide (r_a0.Energy > c0)))]):=by kernel_rfl
abbrev e82 (r:Bool):List PA:=[.one (.bool r)]
def s82 (c0:Int) (r_a0:RangeRow):Bool :=
  (decide (r_a0.Energy > c0))
theorem q82 (c0:Int) (r_a0:RangeRow) (K:List PA→Prop) (hk:K (e82 (s82 c0 r_a0))):vcFun Try.prog G82 ann82 82 [.agg [.int .i64 r_a0.Energy,.int .i64 r_a0.Range.Low,.int .i64 r_a0.Range.High],.one (.fp (enc_3 c0) 0)] K:=by
  refine ofEq (f82_top c0 r_a0 K) ?_
  unfold s82 at hk
  exact hk
def ctr82 : List PA → COut
  | [.agg [.int .i64 a0_Energy,.int .i64 a0_Range_Low,.int .i64 a0_Range_High],.one (.fp [.int .i64 c0] 0)]=>.tot [.one (.bool (s82 c0 (⟨a0_Energy,(⟨a0_Range_Low,a0_Range_High⟩:Span)⟩:RangeRow)))]
  | _=>.no
theorem call82:Callable Try.prog 82:=⟨_,rfl,rfl,by kernel_rfl⟩
theorem ok82:Ok Try.prog 82 ctr82:=ok_tab okT82 call82 fun args K h=>by
  unfold ctr82 at h
  split at h
  · rename_i a0_Energy a0_Range_Low a0_Range_High c0
    have hk:=h
    exact ⟨(fun _ _=>[]),(fun _=>false),ann82,q82 c0 (⟨a0_Energy,(⟨a0_Range_Low,a0_Range_High⟩:Span)⟩:RangeRow) K hk⟩
  · exact h.elim
abbrev T83:Tabs:=Tabs.nil
theorem okT83:TabsOk Try.prog T83:=TabsOk.nil
abbrev G83:Ctrs:=csm T83 (fun _ _=>[]) (fun _=>false)
def ann83:Ann:=⟨8,[(0,⟨[1,2],[2],[],[],[]⟩),(1,⟨[3],[],[],[],[]⟩)],
  [],
  [],
  [],[]⟩
theorem f83_top (c0 : Int) (r_a0 : RangeRow) (K : List PA → Prop) :
  vcFun Try.prog G83 ann83 83 [.agg [.int .i64 r_a0.Energy,.int .i64 r_a0.Range.Low,.int .i64 r_a0.Range.High],.one (.fp (enc_3 c0) 0)] K =
  (K [.one (.bool (decide (r_a0.Energy ≥ c0)))]):=by kernel_rfl
abbrev e83 (r:Bool):List PA:=[.one (.bool r)]
def s83 (c0:Int) (r_a0:RangeRow):Bool :=
  (decide (r_a0.Energy ≥ c0))
theorem q83 (c0:Int) (r_a0:RangeRow) (K:List PA→Prop) (hk:K (e83 (s83 c0 r_a0))):vcFun Try.prog G83 ann83 83 [.agg [.int .i64 r_a0.Energy,.int .i64 r_a0.Range.Low,.int .i64 r_a0.Range.High],.one (.fp (enc_3 c0) 0)] K:=by
  refine ofEq (f83_top c0 r_a0 K) ?_
  unfold s83 at hk
  exact hk
def ctr83 : List PA → COut
  | [.agg [.int .i64 a0_Energy,.int .i64 a0_Range_Low,.int .i64 a0_Range_High],.one (.fp [.int .i64 c0] 0)]=>.tot [.one (.bool (s83 c0 (⟨a0_Energy,(⟨a0_Range_Low,a0_Range_High⟩:Span)⟩:RangeRow)))]
  | _=>.no
theorem call83:Callable Try.prog 83:=⟨_,rfl,rfl,by kernel_rfl⟩
theorem ok83:Ok Try.prog 83 ctr83:=ok_tab okT83 call83 fun args K h=>by
  unfold ctr83 at h
  split at h
  · rename_i a0_Energy a0_Range_Low a0_Range_High c0
    have hk:=h
    exact ⟨(fun _ _=>[]),(fun _=>false),ann83,q83 c0 (⟨a0_Energy,(⟨a0_Range_Low,a0_Range_High⟩:Span)⟩:RangeRow) K hk⟩
  · exact h.elim
abbrev T95:Tabs:=Tabs.nil
theorem okT95:TabsOk Try.prog T95:=TabsOk.nil
abbrev G95:Ctrs:=csm T95 (fun _ _=>[]) (fun _=>false)
def ann95:Ann:=⟨9,[(0,⟨[1,2],[2],[],[],[]⟩),(1,⟨[3],[],[],[],[]⟩)],
  [],
  [],
  [],[]⟩
theorem f95_top (c0 : Int) (r_a0 : RangeRow) (K : List PA → Prop) :
  vcFun Try.prog G95 ann95 95 [.agg [.int .i64 r_a0.Energy,.int .i64 r_a0.Range.Low,.int .i64 r_a0.Range.High],.one (.fp (enc_3 c0) 0)] K =
  (K [.one (.bool (decide (r_a0.Range.High ≥ c0)))]):=by kernel_rfl
abbrev e95 (r:Bool):List PA:=[.one (.bool r)]
def s95 (c0:Int) (r_a0:RangeRow):Bool :=
  (decide (r_a0.Range.High ≥ c0))
theorem q95 (c0:Int) (r_a0:RangeRow) (K:List PA→Prop) (hk:K (e95 (s95 c0 r_a0))):vcFun Try.prog G95 ann95 95 [.agg [.int .i64 r_a0.Energy,.int .i64 r_a0.Range.Low,.int .i64 r_a0.Range.High],.one (.fp (enc_3 c0) 0)] K:=by
  refine ofEq (f95_top c0 r_a0 K) ?_
  unfold s95 at hk
  exact hk
def ctr95 : List PA → COut
  | [.agg [.int .i64 a0_Energy,.int .i64 a0_Range_Low,.int .i64 a0_Range_High],.one (.fp [.int .i64 c0] 0)]=>.tot [.one (.bool (s95 c0 (⟨a0_Energy,(⟨a0_Range_Low,a0_Range_High⟩:Span)⟩:RangeRow)))]
  | _=>.no
theorem call95:Callable Try.prog 95:=⟨_,rfl,rfl,by kernel_rfl⟩
theorem ok95:Ok Try.prog 95 ctr95:=ok_tab okT95 call95 fun args K h=>by
  unfold ctr95 at h
  split at h
  · rename_i a0_Energy a0_Range_Low a0_Range_High c0
    have hk:=h
    exact ⟨(fun _ _=>[]),(fun _=>false),ann95,q95 c0 (⟨a0_Energy,(⟨a0_Range_Low,a0_Range_High⟩:Span)⟩:RangeRow) K hk⟩
  · exact h.elim
abbrev T96:Tabs:=Tabs.nil
theorem okT96:TabsOk Try.prog T96:=TabsOk.nil
abbrev G96:Ctrs:=csm T96 (fun _ _=>[]) (fun _=>false)
def ann96:Ann:=⟨9,[(0,⟨[1,2],[2],[],[],[]⟩),(1,⟨[3],[],[],[],[]⟩)],
  [],
  [],
  [],[]⟩
theorem f96_top (c0 : Int) (r_a0 : RangeRow) (K : List PA → Prop) :
  vcFun Try.prog G96 ann96 96 [.agg [.int .i64 r_a0.Energy,.int .i64 r_a0.Range.Low,.int .i64 r_a0.Range.High],.one (.fp (enc_3 c0) 0)] K =
  (K [.one (.bool (decide (r_a0.Range.Low ≥ c0)))]):=by kernel_rfl
abbrev e96 (r:Bool):List PA:=[.one (.bool r)]
def s96 (c0:Int) (r_a0:RangeRow):Bool :=
  (decide (r_a0.Range.Low ≥ c0))
theorem q96 (c0:Int) (r_a0:RangeRow) (K:List PA→Prop) (hk:K (e96 (s96 c0 r_a0))):vcFun Try.prog G96 ann96 96 [.agg [.int .i64 r_a0.Energy,.int .i64 r_a0.Range.Low,.int .i64 r_a0.Range.High],.one (.fp (enc_3 c0) 0)] K:=by
  refine ofEq (f96_top c0 r_a0 K) ?_
  unfold s96 at hk
  exact hk
def ctr96 : List PA → COut
  | [.agg [.int .i64 a0_Energy,.int .i64 a0_Range_Low,.int .i64 a0_Range_High],.one (.fp [.int .i64 c0] 0)]=>.tot [.one (.bool (s96 c0 (⟨a0_Energy,(⟨a0_Range_Low,a0_Range_High⟩:Span)⟩:RangeRow)))]
  | _=>.no
theorem call96:Callable Try.prog 96:=⟨_,rfl,rfl,by kernel_rfl⟩
theorem ok96:Ok Try.prog 96 ctr96:=ok_tab okT96 call96 fun args K h=>by
  unfold ctr96 at h
  split at h
  · rename_i a0_Energy a0_Range_Low a0_Range_High c0
    have hk:=h
    exact ⟨(fun _ _=>[]),(fun _=>false),ann96,q96 c0 (⟨a0_Energy,(⟨a0_Range_Low,a0_Range_High⟩:Span)⟩:RangeRow) K hk⟩
  · exact h.elim
end Go.Proofs
namespace Go.Proofs
open Go Go.Pm
set_option maxRecDepth 100000
set_option linter.unusedVariables false
attribute [local irreducible] Go.Pm.vcFun Go.Pm.vc Go.Pm.vcIter
abbrev T106:Tabs:=((((Tabs.nil.addF 82 ctr82).addF 83 ctr83).addF 95 ctr95).addF 96 ctr96)
theorem okT106:TabsOk Try.prog T106:=((((TabsOk.nil.addF ok82).addF ok83).addF ok95).addF ok96)
abbrev G106:Ctrs:=csm T106 (fun _ _=>[]) (fun _=>false)
def ann106:Ann:=⟨19,[(0,⟨[0,1],[],[],[],[]⟩),(1,⟨[0,1,7,8],[],[],[],[]⟩),(2,⟨[0,1,7,8,9],[],[],[],[]⟩),(3,⟨[0,1,5,7,8],[],[],[],[]⟩),(4,⟨[0,1,5,7,8,16],[],[],[],[]⟩),(5,⟨[4],[],[],[],[]⟩),(6,⟨[0,1,7,8],[],[],[],[]⟩),(7,⟨[4],[],[],[],[]⟩)],
  [(2,⟨[0,1,7,8],[],[],[],[]⟩)],
  [(5,⟨[0,1,5,7,8,16],[],[],[],[]⟩)],
  [],[]⟩
def f106_g0 (c0:Int) (sv0_n:Nat) (sv0_g:Nat→List PV) (t7v0:Int) (t8v0:Int):St:=⟨[(0,.one (.c (.p (.sl sv0_n 3 sv0_g)))),(1,.one (.c (.p (.fn 95 [] [.fp (enc_3 c0) 0])))),(7,.one (.c (.p (.int .i64 t7v0)))),(8,.one (.c (.p (.int .i64 t8v0))))],[],[]⟩
def f106_at0 (K:List PA→Prop) (c0:Int) (sv0_n:Nat) (sv0_g:Nat→List PV) (t7v0:Int) (t8v0:Int):Prop:=vc Try.prog G106 ann106 (cdF Try.f106 [1,0,1,0]) (blockK 0 (sqK Try.prog G106 ann106 (cdF Try.f106 [1,1]) (bodyK Try.prog Try.f106 K))) (f106_g0 c0 sv0_n sv0_g t7v0 t8v0)
def f106_g1 (c0:Int) (sv1_n:Nat) (sv1_g:Nat→List PV) (iv1:Int) (t7v1:Int) (t8v1:Int) (t16v1:Bool):St:=⟨[(0,.one (.c (.p (.sl sv1_n 3 sv1_g)))),(1,.one (.c (.p (.fn 95 [] [.fp (enc_3 c0) 0])))),(5,.one (.c (.p (.int .i64 iv1)))),(7,.one (.c (.p (.int .i64 t7v1)))),(8,.one (.c (.p (.int .i64 t8v1)))),(16,.one (.c (.p (.bool t16v1))))],[],[]⟩
def f106_at1 (K:List PA→Prop) (X0:St→Prop) (c0:Int) (sv1_n:Nat) (sv1_g:Nat→List PV) (iv1:Int) (t7v1:Int) (t8v1:Int) (t16v1:Bool):Prop:=vc Try.prog G106 ann106 (cdF Try.f106 [1,0,1,0,0,1,1,0,0,1,1]) (blockK 1 (sqK Try.prog G106 ann106 (cdF Try.f106 [1,0,1,0,0,1,1,1]) (loopK Try.prog ann106 2 X0 (blockK 0 (sqK Try.prog G106 ann106 (cdF Try.f106 [1,1]) (bodyK Try.prog Try.f106 K)))))) (f106_g1 c0 sv1_n sv1_g iv1 t7v1 t8v1 t16v1)
theorem f106_top (c0 : Int) (s : (Sl RangeRow)) (K : List PA → Prop) :
  vcFun Try.prog G106 ann106 106 [.one (.sl s.len 3 (fun i=>enc_42 (s.get i))),.one (.fn 95 [] [.fp (enc_3 c0) 0])] K =
  (f106_at0 K c0 s.len (fun i=>enc_42 (s.get i)) (s.len:Int) (0:Int)):=by kernel_rfl
def f106_step0 (K:List PA→Prop) (X0:St→Prop) (c0:Int) (sv0:(Sl RangeRow)) (t7v0:Int) (t8v0:Int):Prop :=
  (condP (decide (t8v0 < t7v0))
   (((0≤t8v0∧t8v0 < (sv0.len:Int))) ∧
   (f106_at1 K X0 c0 sv0.len (fun i=>enc_42 (sv0.get i)) t8v0 t7v0 t8v0 (s95 c0 (sv0.get t8v0.toNat))))
   (K [.one (.int .i64 (-1:Int))]))
theorem f106_stepeq0 (K : List PA → Prop) (X0 : St → Prop) (c0 : Int) (sv0 : (Sl RangeRow)) (t7v0 : Int) (t8v0 : Int) :
  vc Try.prog G106 ann106 (cd (cdF Try.f106 [1,0,1,0]) [0]) (loopK Try.prog ann106 2 X0 (blockK 0 (sqK Try.prog G106 ann106 (cdF Try.f106 [1,1]) (bodyK Try.prog Try.f106 K)))) (f106_g0 c0 sv0.len (fun i=>enc_42 (sv0.get i)) t7v0 t8v0) =
  f106_step0 K X0 c0 sv0 t7v0 t8v0:=by kernel_rfl
theorem f106_loop0 (K : List PA → Prop) (c0 : Int) (sv0_n : Nat) (sv0_g : Nat → List PV) (t7v0 : Int) (t8v0 : Int)
  (h:∀ X0:St→Prop,(∀ (sv0:(Sl RangeRow)) (t7v0:Int) (t8v0:Int),f106_step0 K X0 c0 sv0 t7v0 t8v0→X0 (f106_g0 c0 sv0.len (fun i=>enc_42 (sv0.get i)) t7v0 t8v0))→X0 (f106_g0 c0 sv0_n sv0_g t7v0 t8v0)) :
  f106_at0 K c0 sv0_n sv0_g t7v0 t8v0:=by
  have e:f106_at0 K c0 sv0_n sv0_g t7v0 t8v0=(∀ X:St→Prop,(∀ s,vc Try.prog G106 ann106 (cd (cdF Try.f106 [1,0,1,0]) [0]) (loopK Try.prog ann106 2 X (blockK 0 (sqK Try.prog G106 ann106 (cdF Try.f106 [1,1]) (bodyK Try.prog Try.f106 K)))) s→X s)→X (f106_g0 c0 sv0_n sv0_g t7v0 t8v0)):=by kernel_rfl
  refine ofEq e ?_
  intro X hX
  refine h X ?_
  intro sv0 t7v0 t8v0 hs
  refine hX _ ?_
  have e2:=f106_stepeq0 K X c0 sv0 t7v0 t8v0
  rw [e2]
  exact hs
theorem f106_eq1 (K : List PA → Prop) (X0 : St → Prop) (c0 : Int) (sv1 : (Sl RangeRow)) (iv1 : Int) (t7v1 : Int) (t8v1 : Int) (t16v1 : Bool) :
  f106_at1 K X0 c0 sv1.len (fun i=>enc_42 (sv1.get i)) iv1 t7v1 t8v1 t16v1 =
  (condP t16v1
   (K [.one (.int .i64 iv1)])
   (X0 (f106_g0 c0 sv1.len (fun i=>enc_42 (sv1.get i)) t7v1 (w64 (t8v1+(1:Int)))))):=by kernel_rfl
abbrev e106 (r:Int):List PA:=[.one (.int .i64 r)]
attribute [irreducible] f106_at0 f106_at1
def s106_at1 (S0:(Sl RangeRow)→Int→Int→Int) (c0:Int) (sv1:(Sl RangeRow)) (iv1:Int) (t7v1:Int) (t8v1:Int) (t16v1:Bool):Int :=
  (cond t16v1
   iv1
   (S0 sv1 t7v1 (w64 (t8v1+(1:Int)))))
def p106_at1 (P0:(Sl RangeRow)→Int→Int→Bool) (c0:Int) (sv1:(Sl RangeRow)) (iv1:Int) (t7v1:Int) (t8v1:Int) (t16v1:Bool):Bool :=
  (cond t16v1
   true
   (P0 sv1 t7v1 (w64 (t8v1+(1:Int)))))
theorem q106_at1 (K : List PA → Prop) (c0 : Int)
  (X0:St→Prop) (P0:(Sl RangeRow)→Int→Int→Bool) (S0:(Sl RangeRow)→Int→Int→Int)
  (hX0:∀ (sv0:(Sl RangeRow)) (t7v0:Int) (t8v0:Int) (sv0_g:Nat→List PV) (sv0_h:sv0_g=fun i=>enc_42 (sv0.get i)),P0 sv0 t7v0 t8v0=true→K (e106 (S0 sv0 t7v0 t8v0))→X0 (f106_g0 c0 sv0.len sv0_g t7v0 t8v0)) (sv1:(Sl RangeRow)) (iv1:Int) (t7v1:Int) (t8v1:Int) (t16v1:Bool) (sv1_g:Nat→List PV) (sv1_h:sv1_g=fun i=>enc_42 (sv1.get i)) (hs:p106_at1 P0 c0 sv1 iv1 t7v1 t8v1 t16v1=true) (hk:K (e106 (s106_at1 S0 c0 sv1 iv1 t7v1 t8v1 t16v1))):f106_at1 K X0 c0 sv1.len sv1_g iv1 t7v1 t8v1 t16v1:=by
  subst sv1_h
  refine ofEq (f106_eq1 K X0 c0 sv1 iv1 t7v1 t8v1 t16v1) ?_
  unfold p106_at1 at hs
  unfold s106_at1 at hk
  exact (condB_go (K := fun r => K (e106 r))
   (fun hs hk=>hk)
   (fun hs hk=>(hX0 sv1 t7v1 (w64 (t8v1+(1:Int))) (fun i=>enc_42 (sv1.get i)) rfl hs hk)) hs hk)
def s106_st0 (c0:Int) (S0:(Sl RangeRow)→Int→Int→Int) (sv0:(Sl RangeRow)) (t7v0:Int) (t8v0:Int):Int :=
  (cond (decide (t8v0 < t7v0))
   (s106_at1 S0 c0 sv0 t8v0 t7v0 t8v0 (s95 c0 (sv0.get t8v0.toNat)))
   (-1:Int))
def p106_st0 (c0:Int) (P0:(Sl RangeRow)→Int→Int→Bool) (sv0:(Sl RangeRow)) (t7v0:Int) (t8v0:Int):Bool :=
  (cond (decide (t8v0 < t7v0))
   (decide ((0≤t8v0∧t8v0 < (sv0.len:Int))) &&
   (p106_at1 P0 c0 sv0 t8v0 t7v0 t8v0 (s95 c0 (sv0.get t8v0.toNat))))
   true)
def s106_lp0 (c0 : Int) : Nat → (Sl RangeRow) → Int → Int → Int
  | 0=>fun _ _ _=>default
  | k+1=>s106_st0 c0 (s106_lp0 c0 k)
def p106_lp0 (c0 : Int) : Nat → (Sl RangeRow) → Int → Int → Bool
  | 0=>fun _ _ _=>false
  | k+1=>p106_st0 c0 (p106_lp0 c0 k)
def s106_at0 (c0:Int) (sv0:(Sl RangeRow)) (t7v0:Int) (t8v0:Int):Int:=s106_lp0 c0 Fuel sv0 t7v0 t8v0
def p106_at0 (c0:Int) (sv0:(Sl RangeRow)) (t7v0:Int) (t8v0:Int):Bool:=p106_lp0 c0 Fuel sv0 t7v0 t8v0
theorem q106_at0 (K:List PA→Prop) (c0:Int) (sv0:(Sl RangeRow)) (t7v0:Int) (t8v0:Int) (sv0_g:Nat→List PV) (sv0_h:sv0_g=fun i=>enc_42 (sv0.get i)) (hs:p106_at0 c0 sv0 t7v0 t8v0=true) (hk:K (e106 (s106_at0 c0 sv0 t7v0 t8v0))):f106_at0 K c0 sv0.len sv0_g t7v0 t8v0:=by
  refine f106_loop0 K c0 sv0.len sv0_g t7v0 t8v0 ?_
  intro X0 hstep
  have key:∀ (k:Nat) (sv0:(Sl RangeRow)) (t7v0:Int) (t8v0:Int) (sv0_g:Nat→List PV) (sv0_h:sv0_g=fun i=>enc_42 (sv0.get i)),p106_lp0 c0 k sv0 t7v0 t8v0=true→K (e106 (s106_lp0 c0 k sv0 t7v0 t8v0))→X0 (f106_g0 c0 sv0.len sv0_g t7v0 t8v0):=by
    intro k
    induction k with
    | zero=>intro sv0 t7v0 t8v0 sv0_g sv0_h hs;exact absurd hs Bool.false_ne_true
    | succ k ih =>
      intro sv0 t7v0 t8v0 sv0_g sv0_h hs hk
      subst sv0_h
      refine hstep sv0 t7v0 t8v0 ?_
      have hs:p106_st0 c0 (p106_lp0 c0 k) sv0 t7v0 t8v0=true:=hs
      have hk:K (e106 (s106_st0 c0 (s106_lp0 c0 k) sv0 t7v0 t8v0)):=hk
      unfold p106_st0 at hs
      unfold s106_st0 at hk
      generalize s106_lp0 c0 k=S0 at hk ih
      generalize p106_lp0 c0 k=P0 at hs ih
      have hX0:=ih
      exact (condB_go (K := fun r => K (e106 r))
       (fun hs hk=>(andK hs fun hc hs=>⟨hc,(q106_at1 K c0 X0 P0 S0 hX0 sv0 t8v0 t7v0 t8v0 (s95 c0 (sv0.get t8v0.toNat)) (fun i=>enc_42 (sv0.get i)) rfl hs hk)⟩))
       (fun hs hk=>hk) hs hk)
  exact key _ sv0 t7v0 t8v0 sv0_g sv0_h hs hk
def s106 (c0:Int) (s:(Sl RangeRow)):Int :=
  (s106_at0 c0 s (s.len:Int) (0:Int))
def p106 (c0:Int) (s:(Sl RangeRow)):Bool :=
  (p106_at0 c0 s (s.len:Int) (0:Int))
theorem q106 (c0:Int) (s:(Sl RangeRow)) (K:List PA→Prop) (hs:p106 c0 s=true) (hk:K (e106 (s106 c0 s))):vcFun Try.prog G106 ann106 106 [.one (.sl s.len 3 (fun i=>enc_42 (s.get i))),.one (.fn 95 [] [.fp (enc_3 c0) 0])] K:=by
  refine ofEq (f106_top c0 s K) ?_
  unfold p106 at hs
  unfold s106 at hk
  exact (q106_at0 K c0 s (s.len:Int) (0:Int) (fun i=>enc_42 (s.get i)) rfl hs hk)
abbrev G106a:Ctrs:=csm T106 (fun _ _=>[]) (fun _=>false)
def ann106a:Ann:=⟨19,[(0,⟨[0,1],[],[],[],[]⟩),(1,⟨[0,1,7,8],[],[],[],[]⟩),(2,⟨[0,1,7,8,9],[],[],[],[]⟩),(3,⟨[0,1,5,7,8],[],[],[],[]⟩),(4,⟨[0,1,5,7,8,16],[],[],[],[]⟩),(5,⟨[4],[],[],[],[]⟩),(6,⟨[0,1,7,8],[],[],[],[]⟩),(7,⟨[4],[],[],[],[]⟩)],
  [(2,⟨[0,1,7,8],[],[],[],[]⟩)],
  [(5,⟨[0,1,5,7,8,16],[],[],[],[]⟩)],
  [],[]⟩
def f106a_g0 (c0:Int) (sv0_n:Nat) (sv0_g:Nat→List PV) (t7v0:Int) (t8v0:Int):St:=⟨[(0,.one (.c (.p (.sl sv0_n 3 sv0_g)))),(1,.one (.c (.p (.fn 96 [] [.fp (enc_3 c0) 0])))),(7,.one (.c (.p (.int .i64 t7v0)))),(8,.one (.c (.p (.int .i64 t8v0))))],[],[]⟩
def f106a_at0 (K:List PA→Prop) (c0:Int) (sv0_n:Nat) (sv0_g:Nat→List PV) (t7v0:Int) (t8v0:Int):Prop:=vc Try.prog G106a ann106a (cdF Try.f106 [1,0,1,0]) (blockK 0 (sqK Try.prog G106a ann106a (cdF Try.f106 [1,1]) (bodyK Try.prog Try.f106 K))) (f106a_g0 c0 sv0_n sv0_g t7v0 t8v0)
def f106a_g1 (c0:Int) (sv1_n:Nat) (sv1_g:Nat→List PV) (iv1:Int) (t7v1:Int) (t8v1:Int) (t16v1:Bool):St:=⟨[(0,.one (.c (.p (.sl sv1_n 3 sv1_g)))),(1,.one (.c (.p (.fn 96 [] [.fp (enc_3 c0) 0])))),(5,.one (.c (.p (.int .i64 iv1)))),(7,.one (.c (.p (.int .i64 t7v1)))),(8,.one (.c (.p (.int .i64 t8v1)))),(16,.one (.c (.p (.bool t16v1))))],[],[]⟩
def f106a_at1 (K:List PA→Prop) (X0:St→Prop) (c0:Int) (sv1_n:Nat) (sv1_g:Nat→List PV) (iv1:Int) (t7v1:Int) (t8v1:Int) (t16v1:Bool):Prop:=vc Try.prog G106a ann106a (cdF Try.f106 [1,0,1,0,0,1,1,0,0,1,1]) (blockK 1 (sqK Try.prog G106a ann106a (cdF Try.f106 [1,0,1,0,0,1,1,1]) (loopK Try.prog ann106a 2 X0 (blockK 0 (sqK Try.prog G106a ann106a (cdF Try.f106 [1,1]) (bodyK Try.prog Try.f106 K)))))) (f106a_g1 c0 sv1_n sv1_g iv1 t7v1 t8v1 t16v1)
theorem f106a_top (c0 : Int) (s : (Sl RangeRow)) (K : List PA → Prop) :
  vcFun Try.prog G106a ann106a 106 [.one (.sl s.len 3 (fun i=>enc_42 (s.get i))),.one (.fn 96 [] [.fp (enc_3 c0) 0])] K =
  (f106a_at0 K c0 s.len (fun i=>enc_42 (s.get i)) (s.len:Int) (0:Int)):=by kernel_rfl
def f106a_step0 (K:List PA→Prop) (X0:St→Prop) (c0:Int) (sv0:(Sl RangeRow)) (t7v0:Int) (t8v0:Int):Prop :=
  (condP (decide (t8v0 < t7v0))
   (((0≤t8v0∧t8v0 < (sv0.len:Int))) ∧
   (f106a_at1 K X0 c0 sv0.len (fun i=>enc_42 (sv0.get i)) t8v0 t7v0 t8v0 (s96 c0 (sv0.get t8v0.toNat))))
   (K [.one (.int .i64 (-1:Int))]))
theorem f106a_stepeq0 (K : List PA → Prop) (X0 : St → Prop) (c0 : Int) (sv0 : (Sl RangeRow)) (t7v0 : Int) (t8v0 : Int) :
  vc Try.prog G106a ann106a (cd (cdF Try.f106 [1,0,1,0]) [0]) (loopK Try.prog ann106a 2 X0 (blockK 0 (sqK Try.prog G106a ann106a (cdF Try.f106 [1,1]) (bodyK Try.prog Try.f106 K)))) (f106a_g0 c0 sv0.len (fun i=>enc_42 (sv0.get i)) t7v0 t8v0) =
  f106a_step0 K X0 c0 sv0 t7v0 t8v0:=by kernel_rfl
theorem f106a_loop0 (K : List PA → Prop) (c0 : Int) (sv0_n : Nat) (sv0_g : Nat → List PV) (t7v0 : Int) (t8v0 : Int)
  (h:∀ X0:St→Prop,(∀ (sv0:(Sl RangeRow)) (t7v0:Int) (t8v0:Int),f106a_step0 K X0 c0 sv0 t7v0 t8v0→X0 (f106a_g0 c0 sv0.len (fun i=>enc_42 (sv0.get i)) t7v0 t8v0))→X0 (f106a_g0 c0 sv0_n sv0_g t7v0 t8v0)) :
  f106a_at0 K c0 sv0_n sv0_g t7v0 t8v0:=by
  have e:f106a_at0 K c0 sv0_n sv0_g t7v0 t8v0=(∀ X:St→Prop,(∀ s,vc Try.prog G106a ann106a (cd (cdF Try.f106 [1,0,1,0]) [0]) (loopK Try.prog ann106a 2 X (blockK 0 (sqK Try.prog G106a ann106a (cdF Try.f106 [1,1]) (bodyK Try.prog Try.f106 K)))) s→X s)→X (f106a_g0 c0 sv0_n sv0_g t7v0 t8v0)):=by kernel_rfl
  refine ofEq e ?_
  intro X hX
  refine h X ?_
  intro sv0 t7v0 t8v0 hs
  refine hX _ ?_
  have e2:=f106a_stepeq0 K X c0 sv0 t7v0 t8v0
  rw [e2]
  exact hs
theorem f106a_eq1 (K : List PA → Prop) (X0 : St → Prop) (c0 : Int) (sv1 : (Sl RangeRow)) (iv1 : Int) (t7v1 : Int) (t8v1 : Int) (t16v1 : Bool) :
  f106a_at1 K X0 c0 sv1.len (fun i=>enc_42 (sv1.get i)) iv1 t7v1 t8v1 t16v1 =
  (condP t16v1
   (K [.one (.int .i64 iv1)])
   (X0 (f106a_g0 c0 sv1.len (fun i=>enc_42 (sv1.get i)) t7v1 (w64 (t8v1+(1:Int)))))):=by kernel_rfl
abbrev e106a (r:Int):List PA:=[.one (.int .i64 r)]
attribute [irreducible] f106a_at0 f106a_at1
def s106a_at1 (S0:(Sl RangeRow)→Int→Int→Int) (c0:Int) (sv1:(Sl RangeRow)) (iv1:Int) (t7v1:Int) (t8v1:Int) (t16v1:Bool):Int :=
  (cond t16v1
   iv1
   (S0 sv1 t7v1 (w64 (t8v1+(1:Int)))))
def p106a_at1 (P0:(Sl RangeRow)→Int→Int→Bool) (c0:Int) (sv1:(Sl RangeRow)) (iv1:Int) (t7v1:Int) (t8v1:Int) (t16v1:Bool):Bool :=
  (cond t16v1
   true
   (P0 sv1 t7v1 (w64 (t8v1+(1:Int)))))
theorem q106a_at1 (K : List PA → Prop) (c0 : Int)
  (X0:St→Prop) (P0:(Sl RangeRow)→Int→Int→Bool) (S0:(Sl RangeRow)→Int→Int→Int)
  (hX0:∀ (sv0:(Sl RangeRow)) (t7v0:Int) (t8v0:Int) (sv0_g:Nat→List PV) (sv0_h:sv0_g=fun i=>enc_42 (sv0.get i)),P0 sv0 t7v0 t8v0=true→K (e106a (S0 sv0 t7v0 t8v0))→X0 (f106a_g0 c0 sv0.len sv0_g t7v0 t8v0)) (sv1:(Sl RangeRow)) (iv1:Int) (t7v1:Int) (t8v1:Int) (t16v1:Bool) (sv1_g:Nat→List PV) (sv1_h:sv1_g=fun i=>enc_42 (sv1.get i)) (hs:p106a_at1 P0 c0 sv1 iv1 t7v1 t8v1 t16v1=true) (hk:K (e106a (s106a_at1 S0 c0 sv1 iv1 t7v1 t8v1 t16v1))):f106a_at1 K X0 c0 sv1.len sv1_g iv1 t7v1 t8v1 t16v1:=by
  subst sv1_h
  refine ofEq (f106a_eq1 K X0 c0 sv1 iv1 t7v1 t8v1 t16v1) ?_
  unfold p106a_at1 at hs
  unfold s106a_at1 at hk
  exact (condB_go (K := fun r => K (e106a r))
   (fun hs hk=>hk)
   (fun hs hk=>(hX0 sv1 t7v1 (w64 (t8v1+(1:Int))) (fun i=>enc_42 (sv1.get i)) rfl hs hk)) hs hk)
def s106a_st0 (c0:Int) (S0:(Sl RangeRow)→Int→Int→Int) (sv0:(Sl RangeRow)) (t7v0:Int) (t8v0:Int):Int :=
  (cond (decide (t8v0 < t7v0))
   (s106a_at1 S0 c0 sv0 t8v0 t7v0 t8v0 (s96 c0 (sv0.get t8v0.toNat)))
   (-1:Int))
def p106a_st0 (c0:Int) (P0:(Sl RangeRow)→Int→Int→Bool) (sv0:(Sl RangeRow)) (t7v0:Int) (t8v0:Int):Bool :=
  (cond (decide (t8v0 < t7v0))
   (decide ((0≤t8v0∧t8v0 < (sv0.len:Int))) &&
   (p106a_at1 P0 c0 sv0 t8v0 t7v0 t8v0 (s96 c0 (sv0.get t8v0.toNat))))
   true)
def s106a_lp0 (c0 : Int) : Nat → (Sl RangeRow) → Int → Int → Int
  | 0=>fun _ _ _=>default
  | k+1=>s106a_st0 c0 (s106a_lp0 c0 k)
def p106a_lp0 (c0 : Int) : Nat → (Sl RangeRow) → Int → Int → Bool
  | 0=>fun _ _ _=>false
  | k+1=>p106a_st0 c0 (p106a_lp0 c0 k)
def s106a_at0 (c0:Int) (sv0:(Sl RangeRow)) (t7v0:Int) (t8v0:Int):Int:=s106a_lp0 c0 Fuel sv0 t7v0 t8v0
def p106a_at0 (c0:Int) (sv0:(Sl RangeRow)) (t7v0:Int) (t8v0:Int):Bool:=p106a_lp0 c0 Fuel sv0 t7v0 t8v0
theorem q106a_at0 (K:List PA→Prop) (c0:Int) (sv0:(Sl RangeRow)) (t7v0:Int) (t8v0:Int) (sv0_g:Nat→List PV) (sv0_h:sv0_g=fun i=>enc_42 (sv0.get i)) (hs:p106a_at0 c0 sv0 t7v0 t8v0=true) (hk:K (e106a (s106a_at0 c0 sv0 t7v0 t8v0))):f106a_at0 K c0 sv0.len sv0_g t7v0 t8v0:=by
  refine f106a_loop0 K c0 sv0.len sv0_g t7v0 t8v0 ?_
  intro X0 hstep
  have key:∀ (k:Nat) (sv0:(Sl RangeRow)) (t7v0:Int) (t8v0:Int) (sv0_g:Nat→List PV) (sv0_h:sv0_g=fun i=>enc_42 (sv0.get i)),p106a_lp0 c0 k sv0 t7v0 t8v0=true→K (e106a (s106a_lp0 c0 k sv0 t7v0 t8v0))→X0 (f106a_g0 c0 sv0.len sv0_g t7v0 t8v0):=by
    intro k
    induction k with
    | zero=>intro sv0 t7v0 t8v0 sv0_g sv0_h hs;exact absurd hs Bool.false_ne_true
    | succ k ih =>
      intro sv0 t7v0 t8v0 sv0_g sv0_h hs hk
      subst sv0_h
      refine hstep sv0 t7v0 t8v0 ?_
      have hs:p106a_st0 c0 (p106a_lp0 c0 k) sv0 t7v0 t8v0=true:=hs
      have hk:K (e106a (s106a_st0 c0 (s106a_lp0 c0 k) sv0 t7v0 t8v0)):=hk
      unfold p106a_st0 at hs
      unfold s106a_st0 at hk
      generalize s106a_lp0 c0 k=S0 at hk ih
      generalize p106a_lp0 c0 k=P0 at hs ih
      have hX0:=ih
      exact (condB_go (K := fun r => K (e106a r))
       (fun hs hk=>(andK hs fun hc hs=>⟨hc,(q106a_at1 K c0 X0 P0 S0 hX0 sv0 t8v0 t7v0 t8v0 (s96 c0 (sv0.get t8v0.toNat)) (fun i=>enc_42 (sv0.get i)) rfl hs hk)⟩))
       (fun hs hk=>hk) hs hk)
  exact key _ sv0 t7v0 t8v0 sv0_g sv0_h hs hk
def s106a (c0:Int) (s:(Sl RangeRow)):Int :=
  (s106a_at0 c0 s (s.len:Int) (0:Int))
def p106a (c0:Int) (s:(Sl RangeRow)):Bool :=
  (p106a_at0 c0 s (s.len:Int) (0:Int))
theorem q106a (c0:Int) (s:(Sl RangeRow)) (K:List PA→Prop) (hs:p106a c0 s=true) (hk:K (e106a (s106a c0 s))):vcFun Try.prog G106a ann106a 106 [.one (.sl s.len 3 (fun i=>enc_42 (s.get i))),.one (.fn 96 [] [.fp (enc_3 c0) 0])] K:=by
  refine ofEq (f106a_top c0 s K) ?_
  unfold p106a at hs
  unfold s106a at hk
  exact (q106a_at0 K c0 s (s.len:Int) (0:Int) (fun i=>enc_42 (s.get i)) rfl hs hk)
abbrev G106b:Ctrs:=csm T106 (fun _ _=>[]) (fun _=>false)
def ann106b:Ann:=⟨19,[(0,⟨[0,1],[],[],[],[]⟩),(1,⟨[0,1,7,8],[],[],[],[]⟩),(2,⟨[0,1,7,8,9],[],[],[],[]⟩),(3,⟨[0,1,5,7,8],[],[],[],[]⟩),(4,⟨[0,1,5,7,8,16],[],[],[],[]⟩),(5,⟨[4],[],[],[],[]⟩),(6,⟨[0,1,7,8],[],[],[],[]⟩),(7,⟨[4],[],[],[],[]⟩)],
  [(2,⟨[0,1,7,8],[],[],[],[]⟩)],
  [(5,⟨[0,1,5,7,8,16],[],[],[],[]⟩)],
  [],[]⟩
def f106b_g0 (c0:Int) (sv0_n:Nat) (sv0_g:Nat→List PV) (t7v0:Int) (t8v0:Int):St:=⟨[(0,.one (.c (.p (.sl sv0_n 3 sv0_g)))),(1,.one (.c (.p (.fn 82 [] [.fp (enc_3 c0) 0])))),(7,.one (.c (.p (.int .i64 t7v0)))),(8,.one (.c (.p (.int .i64 t8v0))))],[],[]⟩
def f106b_at0 (K:List PA→Prop) (c0:Int) (sv0_n:Nat) (sv0_g:Nat→List PV) (t7v0:Int) (t8v0:Int):Prop:=vc Try.prog G106b ann106b (cdF Try.f106 [1,0,1,0]) (blockK 0 (sqK Try.prog G106b ann106b (cdF Try.f106 [1,1]) (bodyK Try.prog Try.f106 K))) (f106b_g0 c0 sv0_n sv0_g t7v0 t8v0)
def f106b_g1 (c0:Int) (sv1_n:Nat) (sv1_g:Nat→List PV) (iv1:Int) (t7v1:Int) (t8v1:Int) (t16v1:Bool):St:=⟨[(0,.one (.c (.p (.sl sv1_n 3 sv1_g)))),(1,.one (.c (.p (.fn 82 [] [.fp (enc_3 c0) 0])))),(5,.one (.c (.p (.int .i64 iv1)))),(7,.one (.c (.p (.int .i64 t7v1)))),(8,.one (.c (.p (.int .i64 t8v1)))),(16,.one (.c (.p (.bool t16v1))))],[],[]⟩
def f106b_at1 (K:List PA→Prop) (X0:St→Prop) (c0:Int) (sv1_n:Nat) (sv1_g:Nat→List PV) (iv1:Int) (t7v1:Int) (t8v1:Int) (t16v1:Bool):Prop:=vc Try.prog G106b ann106b (cdF Try.f106 [1,0,1,0,0,1,1,0,0,1,1]) (blockK 1 (sqK Try.prog G106b ann106b (cdF Try.f106 [1,0,1,0,0,1,1,1]) (loopK Try.prog ann106b 2 X0 (blockK 0 (sqK Try.prog G106b ann106b (cdF Try.f106 [1,1]) (bodyK Try.prog Try.f106 K)))))) (f106b_g1 c0 sv1_n sv1_g iv1 t7v1 t8v1 t16v1)
theorem f106b_top (c0 : Int) (s : (Sl RangeRow)) (K : List PA → Prop) :
  vcFun Try.prog G106b ann106b 106 [.one (.sl s.len 3 (fun i=>enc_42 (s.get i))),.one (.fn 82 [] [.fp (enc_3 c0) 0])] K =
  (f106b_at0 K c0 s.len (fun i=>enc_42 (s.get i)) (s.len:Int) (0:Int)):=by kernel_rfl
def f106b_step0 (K:List PA→Prop) (X0:St→Prop) (c0:Int) (sv0:(Sl RangeRow)) (t7v0:Int) (t8v0:Int):Prop :=
  (condP (decide (t8v0 < t7v0))
   (((0≤t8v0∧t8v0 < (sv0.len:Int))) ∧
   (f106b_at1 K X0 c0 sv0.len (fun i=>enc_42 (sv0.get i)) t8v0 t7v0 t8v0 (s82 c0 (sv0.get t8v0.toNat))))
   (K [.one (.int .i64 (-1:Int))]))
theorem f106b_stepeq0 (K : List PA → Prop) (X0 : St → Prop) (c0 : Int) (sv0 : (Sl RangeRow)) (t7v0 : Int) (t8v0 : Int) :
  vc Try.prog G106b ann106b (cd (cdF Try.f106 [1,0,1,0]) [0]) (loopK Try.prog ann106b 2 X0 (blockK 0 (sqK Try.prog G106b ann106b (cdF Try.f106 [1,1]) (bodyK Try.prog Try.f106 K)))) (f106b_g0 c0 sv0.len (fun i=>enc_42 (sv0.get i)) t7v0 t8v0) =
  f106b_step0 K X0 c0 sv0 t7v0 t8v0:=by kernel_rfl
theorem f106b_loop0 (K : List PA → Prop) (c0 : Int) (sv0_n : Nat) (sv0_g : Nat → List PV) (t7v0 : Int) (t8v0 : Int)
  (h:∀ X0:St→Prop,(∀ (sv0:(Sl RangeRow)) (t7v0:Int) (t8v0:Int),f106b_step0 K X0 c0 sv0 t7v0 t8v0→X0 (f106b_g0 c0 sv0.len (fun i=>enc_42 (sv0.get i)) t7v0 t8v0))→X0 (f106b_g0 c0 sv0_n sv0_g t7v0 t8v0)) :
  f106b_at0 K c0 sv0_n sv0_g t7v0 t8v0:=by
  have e:f106b_at0 K c0 sv0_n sv0_g t7v0 t8v0=(∀ X:St→Prop,(∀ s,vc Try.prog G106b ann106b (cd (cdF Try.f106 [1,0,1,0]) [0]) (loopK Try.prog ann106b 2 X (blockK 0 (sqK Try.prog G106b ann106b (cdF Try.f106 [1,1]) (bodyK Try.prog Try.f106 K)))) s→X s)→X (f106b_g0 c0 sv0_n sv0_g t7v0 t8v0)):=by kernel_rfl
  refine ofEq e ?_
  intro X hX
  refine h X ?_
  intro sv0 t7v0 t8v0 hs
  refine hX _ ?_
  have e2:=f106b_stepeq0 K X c0 sv0 t7v0 t8v0
  rw [e2]
  exact hs
theorem f106b_eq1 (K : List PA → Prop) (X0 : St → Prop) (c0 : Int) (sv1 : (Sl RangeRow)) (iv1 : Int) (t7v1 : Int) (t8v1 : Int) (t16v1 : Bool) :
  f106b_at1 K X0 c0 sv1.len (fun i=>enc_42 (sv1.get i)) iv1 t7v1 t8v1 t16v1 =
  (condP t16v1
   (K [.one (.int .i64 iv1)])
   (X0 (f106b_g0 c0 sv1.len (fun i=>enc_42 (sv1.get i)) t7v1 (w64 (t8v1+(1:Int)))))):=by kernel_rfl
abbrev e106b (r:Int):List PA:=[.one (.int .i64 r)]
attribute [irreducible] f106b_at0 f106b_at1
def s106b_at1 (S0:(Sl RangeRow)→Int→Int→Int) (c0:Int) (sv1:(Sl RangeRow)) (iv1:Int) (t7v1:Int) (t8v1:Int) (t16v1:Bool):Int :=
  (cond t16v1
   iv1
   (S0 sv1 t7v1 (w64 (t8v1+(1:Int)))))
def p106b_at1 (P0:(Sl RangeRow)→Int→Int→Bool) (c0:Int) (sv1:(Sl RangeRow)) (iv1:Int) (t7v1:Int) (t8v1:Int) (t16v1:Bool):Bool :=
  (cond t16v1
   true
   (P0 sv1 t7v1 (w64 (t8v1+(1:Int)))))
theorem q106b_at1 (K : List PA → Prop) (c0 : Int)
  (X0:St→Prop) (P0:(Sl RangeRow)→Int→Int→Bool) (S0:(Sl RangeRow)→Int→Int→Int)
  (hX0:∀ (sv0:(Sl RangeRow)) (t7v0:Int) (t8v0:Int) (sv0_g:Nat→List PV) (sv0_h:sv0_g=fun i=>enc_42 (sv0.get i)),P0 sv0 t7v0 t8v0=true→K (e106b (S0 sv0 t7v0 t8v0))→X0 (f106b_g0 c0 sv0.len sv0_g t7v0 t8v0)) (sv1:(Sl RangeRow)) (iv1:Int) (t7v1:Int) (t8v1:Int) (t16v1:Bool) (sv1_g:Nat→List PV) (sv1_h:sv1_g=fun i=>enc_42 (sv1.get i)) (hs:p106b_at1 P0 c0 sv1 iv1 t7v1 t8v1 t16v1=true) (hk:K (e106b (s106b_at1 S0 c0 sv1 iv1 t7v1 t8v1 t16v1))):f106b_at1 K X0 c0 sv1.len sv1_g iv1 t7v1 t8v1 t16v1:=by
  subst sv1_h
  refine ofEq (f106b_eq1 K X0 c0 sv1 iv1 t7v1 t8v1 t16v1) ?_
  unfold p106b_at1 at hs
  unfold s106b_at1 at hk
  exact (condB_go (K := fun r => K (e106b r))
   (fun hs hk=>hk)
   (fun hs hk=>(hX0 sv1 t7v1 (w64 (t8v1+(1:Int))) (fun i=>enc_42 (sv1.get i)) rfl hs hk)) hs hk)
def s106b_st0 (c0:Int) (S0:(Sl RangeRow)→Int→Int→Int) (sv0:(Sl RangeRow)) (t7v0:Int) (t8v0:Int):Int :=
  (cond (decide (t8v0 < t7v0))
   (s106b_at1 S0 c0 sv0 t8v0 t7v0 t8v0 (s82 c0 (sv0.get t8v0.toNat)))
   (-1:Int))
def p106b_st0 (c0:Int) (P0:(Sl RangeRow)→Int→Int→Bool) (sv0:(Sl RangeRow)) (t7v0:Int) (t8v0:Int):Bool :=
  (cond (decide (t8v0 < t7v0))
   (decide ((0≤t8v0∧t8v0 < (sv0.len:Int))) &&
   (p106b_at1 P0 c0 sv0 t8v0 t7v0 t8v0 (s82 c0 (sv0.get t8v0.toNat))))
   true)
def s106b_lp0 (c0 : Int) : Nat → (Sl RangeRow) → Int → Int → Int
  | 0=>fun _ _ _=>default
  | k+1=>s106b_st0 c0 (s106b_lp0 c0 k)
def p106b_lp0 (c0 : Int) : Nat → (Sl RangeRow) → Int → Int → Bool
  | 0=>fun _ _ _=>false
  | k+1=>p106b_st0 c0 (p106b_lp0 c0 k)
def s106b_at0 (c0:Int) (sv0:(Sl RangeRow)) (t7v0:Int) (t8v0:Int):Int:=s106b_lp0 c0 Fuel sv0 t7v0 t8v0
def p106b_at0 (c0:Int) (sv0:(Sl RangeRow)) (t7v0:Int) (t8v0:Int):Bool:=p106b_lp0 c0 Fuel sv0 t7v0 t8v0
theorem q106b_at0 (K:List PA→Prop) (c0:Int) (sv0:(Sl RangeRow)) (t7v0:Int) (t8v0:Int) (sv0_g:Nat→List PV) (sv0_h:sv0_g=fun i=>enc_42 (sv0.get i)) (hs:p106b_at0 c0 sv0 t7v0 t8v0=true) (hk:K (e106b (s106b_at0 c0 sv0 t7v0 t8v0))):f106b_at0 K c0 sv0.len sv0_g t7v0 t8v0:=by
  refine f106b_loop0 K c0 sv0.len sv0_g t7v0 t8v0 ?_
  intro X0 hstep
  have key:∀ (k:Nat) (sv0:(Sl RangeRow)) (t7v0:Int) (t8v0:Int) (sv0_g:Nat→List PV) (sv0_h:sv0_g=fun i=>enc_42 (sv0.get i)),p106b_lp0 c0 k sv0 t7v0 t8v0=true→K (e106b (s106b_lp0 c0 k sv0 t7v0 t8v0))→X0 (f106b_g0 c0 sv0.len sv0_g t7v0 t8v0):=by
    intro k
    induction k with
    | zero=>intro sv0 t7v0 t8v0 sv0_g sv0_h hs;exact absurd hs Bool.false_ne_true
    | succ k ih =>
      intro sv0 t7v0 t8v0 sv0_g sv0_h hs hk
      subst sv0_h
      refine hstep sv0 t7v0 t8v0 ?_
      have hs:p106b_st0 c0 (p106b_lp0 c0 k) sv0 t7v0 t8v0=true:=hs
      have hk:K (e106b (s106b_st0 c0 (s106b_lp0 c0 k) sv0 t7v0 t8v0)):=hk
      unfold p106b_st0 at hs
      unfold s106b_st0 at hk
      generalize s106b_lp0 c0 k=S0 at hk ih
      generalize p106b_lp0 c0 k=P0 at hs ih
      have hX0:=ih
      exact (condB_go (K := fun r => K (e106b r))
       (fun hs hk=>(andK hs fun hc hs=>⟨hc,(q106b_at1 K c0 X0 P0 S0 hX0 sv0 t8v0 t7v0 t8v0 (s82 c0 (sv0.get t8v0.toNat)) (fun i=>enc_42 (sv0.get i)) rfl hs hk)⟩))
       (fun hs hk=>hk) hs hk)
  exact key _ sv0 t7v0 t8v0 sv0_g sv0_h hs hk
def s106b (c0:Int) (s:(Sl RangeRow)):Int :=
  (s106b_at0 c0 s (s.len:Int) (0:Int))
def p106b (c0:Int) (s:(Sl RangeRow)):Bool :=
  (p106b_at0 c0 s (s.len:Int) (0:Int))
theorem q106b (c0:Int) (s:(Sl RangeRow)) (K:List PA→Prop) (hs:p106b c0 s=true) (hk:K (e106b (s106b c0 s))):vcFun Try.prog G106b ann106b 106 [.one (.sl s.len 3 (fun i=>enc_42 (s.get i))),.one (.fn 82 [] [.fp (enc_3 c0) 0])] K:=by
  refine ofEq (f106b_top c0 s K) ?_
  unfold p106b at hs
  unfold s106b at hk
  exact (q106b_at0 K c0 s (s.len:Int) (0:Int) (fun i=>enc_42 (s.get i)) rfl hs hk)
abbrev G106c:Ctrs:=csm T106 (fun _ _=>[]) (fun _=>false)
def ann106c:Ann:=⟨19,[(0,⟨[0,1],[],[],[],[]⟩),(1,⟨[0,1,7,8],[],[],[],[]⟩),(2,⟨[0,1,7,8,9],[],[],[],[]⟩),(3,⟨[0,1,5,7,8],[],[],[],[]⟩),(4,⟨[0,1,5,7,8,16],[],[],[],[]⟩),(5,⟨[4],[],[],[],[]⟩),(6,⟨[0,1,7,8],[],[],[],[]⟩),(7,⟨[4],[],[],[],[]⟩)],
  [(2,⟨[0,1,7,8],[],[],[],[]⟩)],
  [(5,⟨[0,1,5,7,8,16],[],[],[],[]⟩)],
  [],[]⟩
def f106c_g0 (c0:Int) (sv0_n:Nat) (sv0_g:Nat→List PV) (t7v0:Int) (t8v0:Int):St:=⟨[(0,.one (.c (.p (.sl sv0_n 3 sv0_g)))),(1,.one (.c (.p (.fn 83 [] [.fp (enc_3 c0) 0])))),(7,.one (.c (.p (.int .i64 t7v0)))),(8,.one (.c (.p (.int .i64 t8v0))))],[],[]⟩
def f106c_at0 (K:List PA→Prop) (c0:Int) (sv0_n:Nat) (sv0_g:Nat→List PV) (t7v0:Int) (t8v0:Int):Prop:=vc Try.prog G106c ann106c (cdF Try.f106 [1,0,1,0]) (blockK 0 (sqK Try.prog G106c ann106c (cdF Try.f106 [1,1]) (bodyK Try.prog Try.f106 K))) (f106c_g0 c0 sv0_n sv0_g t7v0 t8v0)
def f106c_g1 (c0:Int) (sv1_n:Nat) (sv1_g:Nat→List PV) (iv1:Int) (t7v1:Int) (t8v1:Int) (t16v1:Bool):St:=⟨[(0,.one (.c (.p (.sl sv1_n 3 sv1_g)))),(1,.one (.c (.p (.fn 83 [] [.fp (enc_3 c0) 0])))),(5,.one (.c (.p (.int .i64 iv1)))),(7,.one (.c (.p (.int .i64 t7v1)))),(8,.one (.c (.p (.int .i64 t8v1)))),(16,.one (.c (.p (.bool t16v1))))],[],[]⟩
def f106c_at1 (K:List PA→Prop) (X0:St→Prop) (c0:Int) (sv1_n:Nat) (sv1_g:Nat→List PV) (iv1:Int) (t7v1:Int) (t8v1:Int) (t16v1:Bool):Prop:=vc Try.prog G106c ann106c (cdF Try.f106 [1,0,1,0,0,1,1,0,0,1,1]) (blockK 1 (sqK Try.prog G106c ann106c (cdF Try.f106 [1,0,1,0,0,1,1,1]) (loopK Try.prog ann106c 2 X0 (blockK 0 (sqK Try.prog G106c ann106c (cdF Try.f106 [1,1]) (bodyK Try.prog Try.f106 K)))))) (f106c_g1 c0 sv1_n sv1_g iv1 t7v1 t8v1 t16v1)
theorem f106c_top (c0 : Int) (s : (Sl RangeRow)) (K : List PA → Prop) :
  vcFun Try.prog G106c ann106c 106 [.one (.sl s.len 3 (fun i=>enc_42 (s.get i))),.one (.fn 83 [] [.fp (enc_3 c0) 0])] K =
  (f106c_at0 K c0 s.len (fun i=>enc_42 (s.get i)) (s.len:Int) (0:Int)):=by kernel_rfl
def f106c_step0 (K:List PA→Prop) (X0:St→Prop) (c0:Int) (sv0:(Sl RangeRow)) (t7v0:Int) (t8v0:Int):Prop :=
  (condP (decide (t8v0 < t7v0))
   (((0≤t8v0∧t8v0 < (sv0.len:Int))) ∧
   (f106c_at1 K X0 c0 sv0.len (fun i=>enc_42 (sv0.get i)) t8v0 t7v0 t8v0 (s83 c0 (sv0.get t8v0.toNat))))
   (K [.one (.int .i64 (-1:Int))]))
theorem f106c_stepeq0 (K : List PA → Prop) (X0 : St → Prop) (c0 : Int) (sv0 : (Sl RangeRow)) (t7v0 : Int) (t8v0 : Int) :
  vc Try.prog G106c ann106c (cd (cdF Try.f106 [1,0,1,0]) [0]) (loopK Try.prog ann106c 2 X0 (blockK 0 (sqK Try.prog G106c ann106c (cdF Try.f106 [1,1]) (bodyK Try.prog Try.f106 K)))) (f106c_g0 c0 sv0.len (fun i=>enc_42 (sv0.get i)) t7v0 t8v0) =
  f106c_step0 K X0 c0 sv0 t7v0 t8v0:=by kernel_rfl
theorem f106c_loop0 (K : List PA → Prop) (c0 : Int) (sv0_n : Nat) (sv0_g : Nat → List PV) (t7v0 : Int) (t8v0 : Int)
  (h:∀ X0:St→Prop,(∀ (sv0:(Sl RangeRow)) (t7v0:Int) (t8v0:Int),f106c_step0 K X0 c0 sv0 t7v0 t8v0→X0 (f106c_g0 c0 sv0.len (fun i=>enc_42 (sv0.get i)) t7v0 t8v0))→X0 (f106c_g0 c0 sv0_n sv0_g t7v0 t8v0)) :
  f106c_at0 K c0 sv0_n sv0_g t7v0 t8v0:=by
  have e:f106c_at0 K c0 sv0_n sv0_g t7v0 t8v0=(∀ X:St→Prop,(∀ s,vc Try.prog G106c ann106c (cd (cdF Try.f106 [1,0,1,0]) [0]) (loopK Try.prog ann106c 2 X (blockK 0 (sqK Try.prog G106c ann106c (cdF Try.f106 [1,1]) (bodyK Try.prog Try.f106 K)))) s→X s)→X (f106c_g0 c0 sv0_n sv0_g t7v0 t8v0)):=by kernel_rfl
  refine ofEq e ?_
  intro X hX
  refine h X ?_
  intro sv0 t7v0 t8v0 hs
  refine hX _ ?_
  have e2:=f106c_stepeq0 K X c0 sv0 t7v0 t8v0
  rw [e2]
  exact hs
theorem f106c_eq1 (K : List PA → Prop) (X0 : St → Prop) (c0 : Int) (sv1 : (Sl RangeRow)) (iv1 : Int) (t7v1 : Int) (t8v1 : Int) (t16v1 : Bool) :
  f106c_at1 K X0 c0 sv1.len (fun i=>enc_42 (sv1.get i)) iv1 t7v1 t8v1 t16v1 =
  (condP t16v1
   (K [.one (.int .i64 iv1)])
   (X0 (f106c_g0 c0 sv1.len (fun i=>enc_42 (sv1.get i)) t7v1 (w64 (t8v1+(1:Int)))))):=by kernel_rfl
abbrev e106c (r:Int):List PA:=[.one (.int .i64 r)]
attribute [irreducible] f106c_at0 f106c_at1
def s106c_at1 (S0:(Sl RangeRow)→Int→Int→Int) (c0:Int) (sv1:(Sl RangeRow)) (iv1:Int) (t7v1:Int) (t8v1:Int) (t16v1:Bool):Int :=
  (cond t16v1
   iv1
   (S0 sv1 t7v1 (w64 (t8v1+(1:Int)))))
def p106c_at1 (P0:(Sl RangeRow)→Int→Int→Bool) (c0:Int) (sv1:(Sl RangeRow)) (iv1:Int) (t7v1:Int) (t8v1:Int) (t16v1:Bool):Bool :=
  (cond t16v1
   true
   (P0 sv1 t7v1 (w64 (t8v1+(1:Int)))))
theorem q106c_at1 (K : List PA → Prop) (c0 : Int)
  (X0:St→Prop) (P0:(Sl RangeRow)→Int→Int→Bool) (S0:(Sl RangeRow)→Int→Int→Int)
  (hX0:∀ (sv0:(Sl RangeRow)) (t7v0:Int) (t8v0:Int) (sv0_g:Nat→List PV) (sv0_h:sv0_g=fun i=>enc_42 (sv0.get i)),P0 sv0 t7v0 t8v0=true→K (e106c (S0 sv0 t7v0 t8v0))→X0 (f106c_g0 c0 sv0.len sv0_g t7v0 t8v0)) (sv1:(Sl RangeRow)) (iv1:Int) (t7v1:Int) (t8v1:Int) (t16v1:Bool) (sv1_g:Nat→List PV) (sv1_h:sv1_g=fun i=>enc_42 (sv1.get i)) (hs:p106c_at1 P0 c0 sv1 iv1 t7v1 t8v1 t16v1=true) (hk:K (e106c (s106c_at1 S0 c0 sv1 iv1 t7v1 t8v1 t16v1))):f106c_at1 K X0 c0 sv1.len sv1_g iv1 t7v1 t8v1 t16v1:=by
  subst sv1_h
  refine ofEq (f106c_eq1 K X0 c0 sv1 iv1 t7v1 t8v1 t16v1) ?_
  unfold p106c_at1 at hs
  unfold s106c_at1 at hk
  exact (condB_go (K := fun r => K (e106c r))
   (fun hs hk=>hk)
   (fun hs hk=>(hX0 sv1 t7v1 (w64 (t8v1+(1:Int))) (fun i=>enc_42 (sv1.get i)) rfl hs hk)) hs hk)
def s106c_st0 (c0:Int) (S0:(Sl RangeRow)→Int→Int→Int) (sv0:(Sl RangeRow)) (t7v0:Int) (t8v0:Int):Int :=
  (cond (decide (t8v0 < t7v0))
   (s106c_at1 S0 c0 sv0 t8v0 t7v0 t8v0 (s83 c0 (sv0.get t8v0.toNat)))
   (-1:Int))
def p106c_st0 (c0:Int) (P0:(Sl RangeRow)→Int→Int→Bool) (sv0:(Sl RangeRow)) (t7v0:Int) (t8v0:Int):Bool :=
  (cond (decide (t8v0 < t7v0))
   (decide ((0≤t8v0∧t8v0 < (sv0.len:Int))) &&
   (p106c_at1 P0 c0 sv0 t8v0 t7v0 t8v0 (s83 c0 (sv0.get t8v0.toNat))))
   true)
def s106c_lp0 (c0 : Int) : Nat → (Sl RangeRow) → Int → Int → Int
  | 0=>fun _ _ _=>default
  | k+1=>s106c_st0 c0 (s106c_lp0 c0 k)
def p106c_lp0 (c0 : Int) : Nat → (Sl RangeRow) → Int → Int → Bool
  | 0=>fun _ _ _=>false
  | k+1=>p106c_st0 c0 (p106c_lp0 c0 k)
def s106c_at0 (c0:Int) (sv0:(Sl RangeRow)) (t7v0:Int) (t8v0:Int):Int:=s106c_lp0 c0 Fuel sv0 t7v0 t8v0
def p106c_at0 (c0:Int) (sv0:(Sl RangeRow)) (t7v0:Int) (t8v0:Int):Bool:=p106c_lp0 c0 Fuel sv0 t7v0 t8v0
theorem q106c_at0 (K:List PA→Prop) (c0:Int) (sv0:(Sl RangeRow)) (t7v0:Int) (t8v0:Int) (sv0_g:Nat→List PV) (sv0_h:sv0_g=fun i=>enc_42 (sv0.get i)) (hs:p106c_at0 c0 sv0 t7v0 t8v0=true) (hk:K (e106c (s106c_at0 c0 sv0 t7v0 t8v0))):f106c_at0 K c0 sv0.len sv0_g t7v0 t8v0:=by
  refine f106c_loop0 K c0 sv0.len sv0_g t7v0 t8v0 ?_
  intro X0 hstep
  have key:∀ (k:Nat) (sv0:(Sl RangeRow)) (t7v0:Int) (t8v0:Int) (sv0_g:Nat→List PV) (sv0_h:sv0_g=fun i=>enc_42 (sv0.get i)),p106c_lp0 c0 k sv0 t7v0 t8v0=true→K (e106c (s106c_lp0 c0 k sv0 t7v0 t8v0))→X0 (f106c_g0 c0 sv0.len sv0_g t7v0 t8v0):=by
    intro k
    induction k with
    | zero=>intro sv0 t7v0 t8v0 sv0_g sv0_h hs;exact absurd hs Bool.false_ne_true
    | succ k ih =>
      intro sv0 t7v0 t8v0 sv0_g sv0_h hs hk
      subst sv0_h
      refine hstep sv0 t7v0 t8v0 ?_
      have hs:p106c_st0 c0 (p106c_lp0 c0 k) sv0 t7v0 t8v0=true:=hs
      have hk:K (e106c (s106c_st0 c0 (s106c_lp0 c0 k) sv0 t7v0 t8v0)):=hk
      unfold p106c_st0 at hs
      unfold s106c_st0 at hk
      generalize s106c_lp0 c0 k=S0 at hk ih
      generalize p106c_lp0 c0 k=P0 at hs ih
      have hX0:=ih
      exact (condB_go (K := fun r => K (e106c r))
       (fun hs hk=>(andK hs fun hc hs=>⟨hc,(q106c_at1 K c0 X0 P0 S0 hX0 sv0 t8v0 t7v0 t8v0 (s83 c0 (sv0.get t8v0.toNat)) (fun i=>enc_42 (sv0.get i)) rfl hs hk)⟩))
       (fun hs hk=>hk) hs hk)
  exact key _ sv0 t7v0 t8v0 sv0_g sv0_h hs hk
def s106c (c0:Int) (s:(Sl RangeRow)):Int :=
  (s106c_at0 c0 s (s.len:Int) (0:Int))
def p106c (c0:Int) (s:(Sl RangeRow)):Bool :=
  (p106c_at0 c0 s (s.len:Int) (0:Int))
theorem q106c (c0:Int) (s:(Sl RangeRow)) (K:List PA→Prop) (hs:p106c c0 s=true) (hk:K (e106c (s106c c0 s))):vcFun Try.prog G106c ann106c 106 [.one (.sl s.len 3 (fun i=>enc_42 (s.get i))),.one (.fn 83 [] [.fp (enc_3 c0) 0])] K:=by
  refine ofEq (f106c_top c0 s K) ?_
  unfold p106c at hs
  unfold s106c at hk
  exact (q106c_at0 K c0 s (s.len:Int) (0:Int) (fun i=>enc_42 (s.get i)) rfl hs hk)
def ctr106 : List PA → COut
  | [.one (.sl a0_n a0_s a0_g),.one (.fn 95 [] [.fp [.int .i64 c0] 0])]=>.det (IsE enc_42 3 a0_s a0_g∧p106 c0 (⟨a0_n,decF_42 a0_g⟩:(Sl RangeRow))=true) [.one (.int .i64 (s106 c0 (⟨a0_n,decF_42 a0_g⟩:(Sl RangeRow))))]
  | [.one (.sl a0_n a0_s a0_g),.one (.fn 96 [] [.fp [.int .i64 c0] 0])]=>.det (IsE enc_42 3 a0_s a0_g∧p106a c0 (⟨a0_n,decF_42 a0_g⟩:(Sl RangeRow))=true) [.one (.int .i64 (s106a c0 (⟨a0_n,decF_42 a0_g⟩:(Sl RangeRow))))]
  | [.one (.sl a0_n a0_s a0_g),.one (.fn 82 [] [.fp [.int .i64 c0] 0])]=>.det (IsE enc_42 3 a0_s a0_g∧p106b c0 (⟨a0_n,decF_42 a0_g⟩:(Sl RangeRow))=true) [.one (.int .i64 (s106b c0 (⟨a0_n,decF_42 a0_g⟩:(Sl RangeRow))))]
  | [.one (.sl a0_n a0_s a0_g),.one (.fn 83 [] [.fp [.int .i64 c0] 0])]=>.det (IsE enc_42 3 a0_s a0_g∧p106c c0 (⟨a0_n,decF_42 a0_g⟩:(Sl RangeRow))=true) [.one (.int .i64 (s106c c0 (⟨a0_n,decF_42 a0_g⟩:(Sl RangeRow))))]
  | _=>.no
theorem call106:Callable Try.prog 106:=⟨_,rfl,rfl,by kernel_rfl⟩
theorem ok106:Ok Try.prog 106 ctr106:=ok_tab okT106 call106 fun args K h=>by
  unfold ctr106 at h
  split at h
  · rename_i a0_n a0_s a0_g c0
    obtain ⟨⟨⟨rfl,a0_f,rfl⟩,hs⟩,hk⟩:=h
    try rw [decF_enc_42 a0_f] at hs
    try rw [decF_enc_42 a0_f] at hk
    exact ⟨(fun _ _=>[]),(fun _=>false),ann106,q106 c0 (⟨a0_n,a0_f⟩:(Sl RangeRow)) K hs hk⟩
  · rename_i a0_n a0_s a0_g c0
    obtain ⟨⟨⟨rfl,a0_f,rfl⟩,hs⟩,hk⟩:=h
    try rw [decF_enc_42 a0_f] at hs
    try rw [decF_enc_42 a0_f] at hk
    exact ⟨(fun _ _=>[]),(fun _=>false),ann106a,q106a c0 (⟨a0_n,a0_f⟩:(Sl RangeRow)) K hs hk⟩
  · rename_i a0_n a0_s a0_g c0
    obtain ⟨⟨⟨rfl,a0_f,rfl⟩,hs⟩,hk⟩:=h
    try rw [decF_enc_42 a0_f] at hs
    try rw [decF_enc_42 a0_f] at hk
    exact ⟨(fun _ _=>[]),(fun _=>false),ann106b,q106b c0 (⟨a0_n,a0_f⟩:(Sl RangeRow)) K hs hk⟩
  · rename_i a0_n a0_s a0_g c0
    obtain ⟨⟨⟨rfl,a0_f,rfl⟩,hs⟩,hk⟩:=h
    try rw [decF_enc_42 a0_f] at hs
    try rw [decF_enc_42 a0_f] at hk
    exact ⟨(fun _ _=>[]),(fun _=>false),ann106c,q106c c0 (⟨a0_n,a0_f⟩:(Sl RangeRow)) K hs hk⟩
  · exact h.elim
abbrev T81:Tabs:=(Tabs.nil.addF 106 ctr106)
theorem okT81:TabsOk Try.prog T81:=(TabsOk.nil.addF ok106)
abbrev G81:Ctrs:=csm T81 (fun _ _=>[]) (fun _=>false)
def ann81:Ann:=⟨14,[(0,⟨[0,1],[],[],[],[]⟩),(1,⟨[0,5],[],[],[],[]⟩),(2,⟨[0,5,10],[],[],[],[]⟩),(3,⟨[4],[],[],[],[]⟩),(4,⟨[4],[],[],[],[]⟩)],
  [],
  [],
  [],[]⟩
theorem f81_top (c0 : Int) (rows : (Sl RangeRow)) (K : List PA → Prop) :
  vcFun Try.prog G81 ann81 81 [.one (.sl rows.len 3 (fun i=>enc_42 (rows.get i))),.one (.fn 95 [] [.fp (enc_3 c0) 0])] K =
  ((IsE enc_42 3 3 (fun i=>enc_42 (rows.get i))∧(p106 c0 rows=true)) ∧
  (condP (decide ((s106 c0 rows) ≥ (0:Int)))
   (K [.one (.int .i64 (s106 c0 rows))])
   (K [.one (.int .i64 (rows.len:Int))]))):=by kernel_rfl
abbrev e81 (r:Int):List PA:=[.one (.int .i64 r)]
def s81 (c0:Int) (rows:(Sl RangeRow)):Int :=
  (cond (decide ((s106 c0 rows) ≥ (0:Int)))
   (s106 c0 rows)
   (rows.len:Int))
def p81 (c0:Int) (rows:(Sl RangeRow)):Bool :=
  (decide ((p106 c0 rows=true)) &&
  true)
theorem q81 (c0:Int) (rows:(Sl RangeRow)) (K:List PA→Prop) (hs:p81 c0 rows=true) (hk:K (e81 (s81 c0 rows))):vcFun Try.prog G81 ann81 81 [.one (.sl rows.len 3 (fun i=>enc_42 (rows.get i))),.one (.fn 95 [] [.fp (enc_3 c0) 0])] K:=by
  refine ofEq (f81_top c0 rows K) ?_
  unfold p81 at hs
  unfold s81 at hk
  exact (andK hs fun hc hs => ⟨⟨isE, hc⟩, (condP_gt (K := fun r => K (e81 r))
   (fun hk=>hk)
   (fun hk=>hk) hk)⟩)
abbrev G81a:Ctrs:=csm T81 (fun _ _=>[]) (fun _=>false)
def ann81a:Ann:=⟨14,[(0,⟨[0,1],[],[],[],[]⟩),(1,⟨[0,5],[],[],[],[]⟩),(2,⟨[0,5,10],[],[],[],[]⟩),(3,⟨[4],[],[],[],[]⟩),(4,⟨[4],[],[],[],[]⟩)],
  [],
  [],
  [],[]⟩
theorem f81a_top (c0 : Int) (rows : (Sl RangeRow)) (K : List PA → Prop) :
  vcFun Try.prog G81a ann81a 81 [.one (.sl rows.len 3 (fun i=>enc_42 (rows.get i))),.one (.fn 96 [] [.fp (enc_3 c0) 0])] K =
  ((IsE enc_42 3 3 (fun i=>enc_42 (rows.get i))∧(p106a c0 rows=true)) ∧
  (condP (decide ((s106a c0 rows) ≥ (0:Int)))
   (K [.one (.int .i64 (s106a c0 rows))])
   (K [.one (.int .i64 (rows.len:Int))]))):=by kernel_rfl
abbrev e81a (r:Int):List PA:=[.one (.int .i64 r)]
def s81a (c0:Int) (rows:(Sl RangeRow)):Int :=
  (cond (decide ((s106a c0 rows) ≥ (0:Int)))
   (s106a c0 rows)
   (rows.len:Int))
def p81a (c0:Int) (rows:(Sl RangeRow)):Bool :=
  (decide ((p106a c0 rows=true)) &&
  true)
theorem q81a (c0:Int) (rows:(Sl RangeRow)) (K:List PA→Prop) (hs:p81a c0 rows=true) (hk:K (e81a (s81a c0 rows))):vcFun Try.prog G81a ann81a 81 [.one (.sl rows.len 3 (fun i=>enc_42 (rows.get i))),.one (.fn 96 [] [.fp (enc_3 c0) 0])] K:=by
  refine ofEq (f81a_top c0 rows K) ?_
  unfold p81a at hs
  unfold s81a at hk
  exact (andK hs fun hc hs => ⟨⟨isE, hc⟩, (condP_gt (K := fun r => K (e81a r))
   (fun hk=>hk)
   (fun hk=>hk) hk)⟩)
abbrev G81b:Ctrs:=csm T81 (fun _ _=>[]) (fun _=>false)
def ann81b:Ann:=⟨14,[(0,⟨[0,1],[],[],[],[]⟩),(1,⟨[0,5],[],[],[],[]⟩),(2,⟨[0,5,10],[],[],[],[]⟩),(3,⟨[4],[],[],[],[]⟩),(4,⟨[4],[],[],[],[]⟩)],
  [],
  [],
  [],[]⟩
theorem f81b_top (c0 : Int) (rows : (Sl RangeRow)) (K : List PA → Prop) :
  vcFun Try.prog G81b ann81b 81 [.one (.sl rows.len 3 (fun i=>enc_42 (rows.get i))),.one (.fn 82 [] [.fp (enc_3 c0) 0])] K =
  ((IsE enc_42 3 3 (fun i=>enc_42 (rows.get i))∧(p106b c0 rows=true)) ∧
  (condP (decide ((s106b c0 rows) ≥ (0:Int)))
   (K [.one (.int .i64 (s106b c0 rows))])
   (K [.one (.int .i64 (rows.len:Int))]))):=by kernel_rfl
abbrev e81b (r:Int):List PA:=[.one (.int .i64 r)]
def s81b (c0:Int) (rows:(Sl RangeRow)):Int :=
  (cond (decide ((s106b c0 rows) ≥ (0:Int)))
   (s106b c0 rows)
   (rows.len:Int))
def p81b (c0:Int) (rows:(Sl RangeRow)):Bool :=
  (decide ((p106b c0 rows=true)) &&
  true)
theorem q81b (c0:Int) (rows:(Sl RangeRow)) (K:List PA→Prop) (hs:p81b c0 rows=true) (hk:K (e81b (s81b c0 rows))):vcFun Try.prog G81b ann81b 81 [.one (.sl rows.len 3 (fun i=>enc_42 (rows.get i))),.one (.fn 82 [] [.fp (enc_3 c0) 0])] K:=by
  refine ofEq (f81b_top c0 rows K) ?_
  unfold p81b at hs
  unfold s81b at hk
  exact (andK hs fun hc hs => ⟨⟨isE, hc⟩, (condP_gt (K := fun r => K (e81b r))
   (fun hk=>hk)
   (fun hk=>hk) hk)⟩)
abbrev G81c:Ctrs:=csm T81 (fun _ _=>[]) (fun _=>false)
def ann81c:Ann:=⟨14,[(0,⟨[0,1],[],[],[],[]⟩),(1,⟨[0,5],[],[],[],[]⟩),(2,⟨[0,5,10],[],[],[],[]⟩),(3,⟨[4],[],[],[],[]⟩),(4,⟨[4],[],[],[],[]⟩)],
  [],
  [],
  [],[]⟩
theorem f81c_top (c0 : Int) (rows : (Sl RangeRow)) (K : List PA → Prop) :
  vcFun Try.prog G81c ann81c 81 [.one (.sl rows.len 3 (fun i=>enc_42 (rows.get i))),.one (.fn 83 [] [.fp (enc_3 c0) 0])] K =
  ((IsE enc_42 3 3 (fun i=>enc_42 (rows.get i))∧(p106c c0 rows=true)) ∧
  (condP (decide ((s106c c0 rows) ≥ (0:Int)))
   (K [.one (.int .i64 (s106c c0 rows))])
   (K [.one (.int .i64 (rows.len:Int))]))):=by kernel_rfl
abbrev e81c (r:Int):List PA:=[.one (.int .i64 r)]
def s81c (c0:Int) (rows:(Sl RangeRow)):Int :=
  (cond (decide ((s106c c0 rows) ≥ (0:Int)))
   (s106c c0 rows)
   (rows.len:Int))
def p81c (c0:Int) (rows:(Sl RangeRow)):Bool :=
  (decide ((p106c c0 rows=true)) &&
  true)
theorem q81c (c0:Int) (rows:(Sl RangeRow)) (K:List PA→Prop) (hs:p81c c0 rows=true) (hk:K (e81c (s81c c0 rows))):vcFun Try.prog G81c ann81c 81 [.one (.sl rows.len 3 (fun i=>enc_42 (rows.get i))),.one (.fn 83 [] [.fp (enc_3 c0) 0])] K:=by
  refine ofEq (f81c_top c0 rows K) ?_
  unfold p81c at hs
  unfold s81c at hk
  exact (andK hs fun hc hs => ⟨⟨isE, hc⟩, (condP_gt (K := fun r => K (e81c r))
   (fun hk=>hk)
   (fun hk=>hk) hk)⟩)
def ctr81 : List PA → COut
  | [.one (.sl a0_n a0_s a0_g),.one (.fn 95 [] [.fp [.int .i64 c0] 0])]=>.det (IsE enc_42 3 a0_s a0_g∧p81 c0 (⟨a0_n,decF_42 a0_g⟩:(Sl RangeRow))=true) [.one (.int .i64 (s81 c0 (⟨a0_n,decF_42 a0_g⟩:(Sl RangeRow))))]
  | [.one (.sl a0_n a0_s a0_g),.one (.fn 96 [] [.fp [.int .i64 c0] 0])]=>.det (IsE enc_42 3 a0_s a0_g∧p81a c0 (⟨a0_n,decF_42 a0_g⟩:(Sl RangeRow))=true) [.one (.int .i64 (s81a c0 (⟨a0_n,decF_42 a0_g⟩:(Sl RangeRow))))]
  | [.one (.sl a0_n a0_s a0_g),.one (.fn 82 [] [.fp [.int .i64 c0] 0])]=>.det (IsE enc_42 3 a0_s a0_g∧p81b c0 (⟨a0_n,decF_42 a0_g⟩:(Sl RangeRow))=true) [.one (.int .i64 (s81b c0 (⟨a0_n,decF_42 a0_g⟩:(Sl RangeRow))))]
  | [.one (.sl a0_n a0_s a0_g),.one (.fn 83 [] [.fp [.int .i64 c0] 0])]=>.det (IsE enc_42 3 a0_s a0_g∧p81c c0 (⟨a0_n,decF_42 a0_g⟩:(Sl RangeRow))=true) [.one (.int .i64 (s81c c0 (⟨a0_n,decF_42 a0_g⟩:(Sl RangeRow))))]
  | _=>.no
theorem call81:Callable Try.prog 81:=⟨_,rfl,rfl,by kernel_rfl⟩
theorem ok81:Ok Try.prog 81 ctr81:=ok_tab okT81 call81 fun args K h=>by
  unfold ctr81 at h
  split at h
  · rename_i a0_n a0_s a0_g c0
    obtain ⟨⟨⟨rfl,a0_f,rfl⟩,hs⟩,hk⟩:=h
    try rw [decF_enc_42 a0_f] at hs
    try rw [decF_enc_42 a0_f] at hk
    exact ⟨(fun _ _=>[]),(fun _=>false),ann81,q81 c0 (⟨a0_n,a0_f⟩:(Sl RangeRow)) K hs hk⟩
  · rename_i a0_n a0_s a0_g c0
    obtain ⟨⟨⟨rfl,a0_f,rfl⟩,hs⟩,hk⟩:=h
    try rw [decF_enc_42 a0_f] at hs
    try rw [decF_enc_42 a0_f] at hk
    exact ⟨(fun _ _=>[]),(fun _=>false),ann81a,q81a c0 (⟨a0_n,a0_f⟩:(Sl RangeRow)) K hs hk⟩
  · rename_i a0_n a0_s a0_g c0
    obtain ⟨⟨⟨rfl,a0_f,rfl⟩,hs⟩,hk⟩:=h
    try rw [decF_enc_42 a0_f] at hs
    try rw [decF_enc_42 a0_f] at hk
    exact ⟨(fun _ _=>[]),(fun _=>false),ann81b,q81b c0 (⟨a0_n,a0_f⟩:(Sl RangeRow)) K hs hk⟩
  · rename_i a0_n a0_s a0_g c0
    obtain ⟨⟨⟨rfl,a0_f,rfl⟩,hs⟩,hk⟩:=h
    try rw [decF_enc_42 a0_f] at hs
    try rw [decF_enc_42 a0_f] at hk
    exact ⟨(fun _ _=>[]),(fun _=>false),ann81c,q81c c0 (⟨a0_n,a0_f⟩:(Sl RangeRow)) K hs hk⟩
  · exact h.elim
abbrev T64:Tabs:=(Tabs.nil.addF 81 ctr81)
theorem okT64:TabsOk Try.prog T64:=(TabsOk.nil.addF ok81)
abbrev G64:Ctrs:=csm T64 (fun _ _=>[]) (fun _=>false)
def ann64:Ann:=⟨40,[(0,⟨[0,3,4],[3,4],[],[],[]⟩),(1,⟨[0,3,4,5],[3,4,5],[],[],[]⟩),(2,⟨[0,3,4,5,10],[3,4,5],[],[],[]⟩),(3,⟨[4],[4],[],[],[]⟩),(4,⟨[0,3,4,5,6],[3,4,5],[],[],[]⟩),(5,⟨[0,3,4,5,6,16],[3,4,5],[],[],[]⟩),(6,⟨[0,3,4,5],[3,4,5],[],[],[]⟩),(7,⟨[0,3,4,5],[3,4,5],[],[],[]⟩),(8,⟨[0,4,5,7],[4,5],[],[],[]⟩),(9,⟨[0,4,5,7,32],[4,5],[],[],[]⟩),(10,⟨[4,5],[4,5],[],[],[]⟩),(11,⟨[4],[4],[],[],[]⟩)],
  [],
  [(4,⟨[0,3,4,5],[3,4,5],[],[],[]⟩),(5,⟨[0,3,4,5,6],[3,4,5],[],[],[]⟩),(7,⟨[0,3,4,5],[3,4,5],[],[],[]⟩),(9,⟨[0,4,5,7],[4,5],[],[],[]⟩)],
  [],[]⟩
def f64_g0 (t:(Sl RangeRow)) (opacity:Int):St:=⟨[(0,.one (.c (.p (.sl t.len 3 (fun i=>enc_42 (t.get i)))))),(3,.one (.c (.ptr 3 0))),(4,.one (.c (.ptr 4 0))),(5,.one (.c (.ptr 5 0)))],[(3,.box 3 [.p (.int .i64 opacity)]),(4,.box 24 [.p (.int .i64 (0:Int)),.p (.int .i64 (0:Int))]),(5,.box 24 [.p (.int .i64 (1:Int)),.p (.int .i64 (1:Int))])],[]⟩
def f64_at0 (K:List PA→Prop) (t:(Sl RangeRow)) (opacity:Int):Prop:=vc Try.prog G64 ann64 (cdF Try.f64 [1,1,1]) (bodyK Try.prog Try.f64 K) (f64_g0 t opacity)
def f64_g1 (t:(Sl RangeRow)) (opacity:Int) (iv1:Int):St:=⟨[(0,.one (.c (.p (.sl t.len 3 (fun i=>enc_42 (t.get i)))))),(3,.one (.c (.ptr 3 0))),(4,.one (.c (.ptr 4 0))),(5,.one (.c (.ptr 5 0))),(6,.one (.c (.p (.int .i64 iv1))))],[(3,.fbox [.int .i64 opacity]),(4,.box 24 [.p (.int .i64 (0:Int)),.p (.int .i64 (0:Int))]),(5,.box 24 [.p (.int .i64 (1:Int)),.p (.int .i64 (1:Int))])],[]⟩
def f64_at1 (K:List PA→Prop) (t:(Sl RangeRow)) (opacity:Int) (iv1:Int):Prop:=vc Try.prog G64 ann64 (cdF Try.f64 [1,1,1,0,1]) (sqK Try.prog G64 ann64 (cdF Try.f64 [1,1,1,1]) (bodyK Try.prog Try.f64 K)) (f64_g1 t opacity iv1)
def f64_g2 (t:(Sl RangeRow)) (opacity:Int) (out_0v2:Int):St:=⟨[(0,.one (.c (.p (.sl t.len 3 (fun i=>enc_42 (t.get i)))))),(3,.one (.c (.ptr 3 0))),(4,.one (.c (.ptr 4 0))),(5,.one (.c (.ptr 5 0)))],[(3,.fbox [.int .i64 opacity]),(4,.box 24 [.p (.int .i64 (0:Int)),.p (.int .i64 (0:Int))]),(5,.box 24 [.p (.int .i64 out_0v2),.p (.int .i64 (1:Int))])],[]⟩
def f64_at2 (K:List PA→Prop) (t:(Sl RangeRow)) (opacity:Int) (out_0v2:Int):Prop:=vc Try.prog G64 ann64 (cdF Try.f64 [1,1,1,1]) (bodyK Try.prog Try.f64 K) (f64_g2 t opacity out_0v2)
def f64_g3 (t:(Sl RangeRow)) (out_0v2:Int) (iv3:Int):St:=⟨[(0,.one (.c (.p (.sl t.len 3 (fun i=>enc_42 (t.get i)))))),(4,.one (.c (.ptr 4 0))),(5,.one (.c (.ptr 5 0))),(7,.one (.c (.p (.int .i64 iv3))))],[(4,.box 24 [.p (.int .i64 (0:Int)),.p (.int .i64 (0:Int))]),(5,.box 24 [.p (.int .i64 out_0v2),.p (.int .i64 (-1:Int))])],[]⟩
def f64_at3 (K:List PA→Prop) (t:(Sl RangeRow)) (out_0v2:Int) (iv3:Int):Prop:=vc Try.prog G64 ann64 (cdF Try.f64 [1,1,1,1,1,0,1]) (sqK Try.prog G64 ann64 (cdF Try.f64 [1,1,1,1,1,1]) (bodyK Try.prog Try.f64 K)) (f64_g3 t out_0v2 iv3)
theorem f64_top (t : (Sl RangeRow)) (opacity : Int) (K : List PA → Prop) :
  vcFun Try.prog G64 ann64 64 [.one (.sl t.len 3 (fun i=>enc_42 (t.get i))),.one (.int .i64 opacity)] K =
  (condP (opacity == (0:Int))
   (K [.agg [.int .i64 (1:Int),.int .i64 (1:Int)]])
   (f64_at0 K t opacity)):=by kernel_rfl
theorem f64_eq0 (K : List PA → Prop) (t : (Sl RangeRow)) (opacity : Int) :
  f64_at0 K t opacity =
  ((IsE enc_42 3 3 (fun i=>enc_42 (t.get i))∧(p81 opacity t=true)) ∧
  (f64_at1 K t opacity (s81 opacity t))):=by kernel_rfl
theorem f64_eq1 (K : List PA → Prop) (t : (Sl RangeRow)) (opacity : Int) (iv1 : Int) :
  f64_at1 K t opacity iv1 =
  (condP (decide (iv1 > (0:Int)))
   (((0≤(w64 (iv1 - (1:Int)))∧(w64 (iv1 - (1:Int))) < (t.len:Int))) ∧
   (f64_at2 K t opacity (w64 ((t.get ((w64 (iv1 - (1:Int))).toNat)).Energy+(1:Int)))))
   (f64_at2 K t opacity (1:Int))):=by kernel_rfl
theorem f64_eq2 (K : List PA → Prop) (t : (Sl RangeRow)) (opacity : Int) (out_0v2 : Int) :
  f64_at2 K t opacity out_0v2 =
  ((IsE enc_42 3 3 (fun i=>enc_42 (t.get i))∧(p81a opacity t=true)) ∧
  (f64_at3 K t out_0v2 (s81a opacity t))):=by kernel_rfl
theorem f64_eq3 (K : List PA → Prop) (t : (Sl RangeRow)) (out_0v2 : Int) (iv3 : Int) :
  f64_at3 K t out_0v2 iv3 =
  (condP (decide (iv3 < (t.len : Int)))
   (((0≤iv3∧iv3 < (t.len:Int))) ∧
   (K [.agg [.int .i64 out_0v2,.int .i64 ((t.get iv3.toNat).Energy)]]))
   (K [.agg [.int .i64 out_0v2,.int .i64 (-1:Int)]])):=by kernel_rfl
abbrev e64 (r:Span):List PA:=[.agg [.int .i64 r.Low,.int .i64 r.High]]
attribute [irreducible] f64_at0 f64_at1 f64_at2 f64_at3
def s64_at3 (t:(Sl RangeRow)) (out_0v2:Int) (iv3:Int):Span :=
  (cond (decide (iv3 < (t.len : Int)))
   (⟨out_0v2,(t.get iv3.toNat).Energy⟩:Span)
   (⟨out_0v2,(-1:Int)⟩:Span))
def p64_at3 (t:(Sl RangeRow)) (out_0v2:Int) (iv3:Int):Bool :=
  (cond (decide (iv3 < (t.len : Int)))
   (decide ((0≤iv3∧iv3 < (t.len:Int))) &&
   true)
   true)
theorem q64_at3 (K:List PA→Prop) (t:(Sl RangeRow)) (out_0v2:Int) (iv3:Int) (hs:p64_at3 t out_0v2 iv3=true) (hk:K (e64 (s64_at3 t out_0v2 iv3))):f64_at3 K t out_0v2 iv3:=by
  refine ofEq (f64_eq3 K t out_0v2 iv3) ?_
  unfold p64_at3 at hs
  unfold s64_at3 at hk
  exact (condB_go (K := fun r => K (e64 r))
   (fun hs hk=>(andK hs fun hc hs=>⟨hc,hk⟩))
   (fun hs hk=>hk) hs hk)
def s64_at2 (t:(Sl RangeRow)) (opacity:Int) (out_0v2:Int):Span :=
  (s64_at3 t out_0v2 (s81a opacity t))
def p64_at2 (t:(Sl RangeRow)) (opacity:Int) (out_0v2:Int):Bool :=
  (decide ((p81a opacity t=true)) &&
  (p64_at3 t out_0v2 (s81a opacity t)))
theorem q64_at2 (K:List PA→Prop) (t:(Sl RangeRow)) (opacity:Int) (out_0v2:Int) (hs:p64_at2 t opacity out_0v2=true) (hk:K (e64 (s64_at2 t opacity out_0v2))):f64_at2 K t opacity out_0v2:=by
  refine ofEq (f64_eq2 K t opacity out_0v2) ?_
  unfold p64_at2 at hs
  unfold s64_at2 at hk
  exact (andK hs fun hc hs=>⟨⟨isE,hc⟩,(q64_at3 K t out_0v2 (s81a opacity t) hs hk)⟩)
def s64_at1 (t:(Sl RangeRow)) (opacity:Int) (iv1:Int):Span :=
  (cond (decide (iv1 > (0:Int)))
   (s64_at2 t opacity (w64 ((t.get ((w64 (iv1 - (1:Int))).toNat)).Energy+(1:Int))))
   (s64_at2 t opacity (1:Int)))
def p64_at1 (t:(Sl RangeRow)) (opacity:Int) (iv1:Int):Bool :=
  (cond (decide (iv1 > (0:Int)))
   (decide ((0≤(w64 (iv1 - (1:Int)))∧(w64 (iv1 - (1:Int))) < (t.len:Int))) &&
   (p64_at2 t opacity (w64 ((t.get ((w64 (iv1 - (1:Int))).toNat)).Energy+(1:Int)))))
   (p64_at2 t opacity (1:Int)))
theorem q64_at1 (K:List PA→Prop) (t:(Sl RangeRow)) (opacity:Int) (iv1:Int) (hs:p64_at1 t opacity iv1=true) (hk:K (e64 (s64_at1 t opacity iv1))):f64_at1 K t opacity iv1:=by
  refine ofEq (f64_eq1 K t opacity iv1) ?_
  unfold p64_at1 at hs
  unfold s64_at1 at hk
  exact (condB_go (K := fun r => K (e64 r))
   (fun hs hk=>(andK hs fun hc hs=>⟨hc,(q64_at2 K t opacity (w64 ((t.get ((w64 (iv1 - (1:Int))).toNat)).Energy+(1:Int))) hs hk)⟩))
   (fun hs hk=>(q64_at2 K t opacity (1:Int) hs hk)) hs hk)
def s64_at0 (t:(Sl RangeRow)) (opacity:Int):Span :=
  (s64_at1 t opacity (s81 opacity t))
def p64_at0 (t:(Sl RangeRow)) (opacity:Int):Bool :=
  (decide ((p81 opacity t=true)) &&
  (p64_at1 t opacity (s81 opacity t)))
theorem q64_at0 (K:List PA→Prop) (t:(Sl RangeRow)) (opacity:Int) (hs:p64_at0 t opacity=true) (hk:K (e64 (s64_at0 t opacity))):f64_at0 K t opacity:=by
  refine ofEq (f64_eq0 K t opacity) ?_
  unfold p64_at0 at hs
  unfold s64_at0 at hk
  exact (andK hs fun hc hs=>⟨⟨isE,hc⟩,(q64_at1 K t opacity (s81 opacity t) hs hk)⟩)
def s64 (t:(Sl RangeRow)) (opacity:Int):Span :=
  (cond (opacity == (0:Int))
   (⟨(1:Int),(1:Int)⟩:Span)
   (s64_at0 t opacity))
def p64 (t:(Sl RangeRow)) (opacity:Int):Bool :=
  (cond (opacity == (0:Int))
   true
   (p64_at0 t opacity))
theorem q64 (t:(Sl RangeRow)) (opacity:Int) (K:List PA→Prop) (hs:p64 t opacity=true) (hk:K (e64 (s64 t opacity))):vcFun Try.prog G64 ann64 64 [.one (.sl t.len 3 (fun i=>enc_42 (t.get i))),.one (.int .i64 opacity)] K:=by
  refine ofEq (f64_top t opacity K) ?_
  unfold p64 at hs
  unfold s64 at hk
  exact (condB_go (K := fun r => K (e64 r))
   (fun hs hk=>hk)
   (fun hs hk=>(q64_at0 K t opacity hs hk)) hs hk)
def ctr64 : List PA → COut
  | [.one (.sl a0_n a0_s a0_g),.one (.int .i64 a1)]=>.det (IsE enc_42 3 a0_s a0_g∧p64 (⟨a0_n,decF_42 a0_g⟩:(Sl RangeRow)) a1=true) [.agg [.int .i64 ((s64 (⟨a0_n,decF_42 a0_g⟩:(Sl RangeRow)) a1).Low),.int .i64 ((s64 (⟨a0_n,decF_42 a0_g⟩:(Sl RangeRow)) a1).High)]]
  | _=>.no
theorem call64:Callable Try.prog 64:=⟨_,rfl,rfl,by kernel_rfl⟩
theorem ok64:Ok Try.prog 64 ctr64:=ok_tab okT64 call64 fun args K h=>by
  unfold ctr64 at h
  split at h
  · rename_i a0_n a0_s a0_g a1
    obtain ⟨⟨⟨rfl,a0_f,rfl⟩,hs⟩,hk⟩:=h
    try rw [decF_enc_42 a0_f] at hs
    try rw [decF_enc_42 a0_f] at hk
    exact ⟨(fun _ _=>[]),(fun _=>false),ann64,q64 (⟨a0_n,a0_f⟩:(Sl RangeRow)) a1 K hs hk⟩
  · exact h.elim
abbrev T19:Tabs:=(((Tabs.nil.addF 62 ctr62).addF 63 ctr63).addF 64 ctr64)
theorem okT19:TabsOk Try.prog T19:=(((TabsOk.nil.addF ok62).addF ok63).addF ok64)
abbrev G19:Ctrs:=csm T19 (fun _ _=>[]) (fun _=>false)
def ann19:Ann:=⟨18,[(0,⟨[0,1,4],[4],[],[],[]⟩),(1,⟨[0,1,4,13],[4],[],[],[]⟩),(2,⟨[4,5],[4],[],[],[]⟩),(3,⟨[4,5],[4],[],[],[]⟩)],
  [],
  [],
  [],[]⟩
theorem f19_top (t : (Sl RangeRow)) (opacity : Int) (K : List PA → Prop) :
  vcFun Try.prog G19 ann19 19 [.one (.sl t.len 3 (fun i=>enc_42 (t.get i))),.one (.int .i64 opacity)] K =
  ((IsE enc_42 3 3 (fun i=>enc_42 (t.get i))∧(p62 t=true)) ∧
  (condP (!(s62 t))
   (K [.agg [.int .i64 (0:Int),.int .i64 (0:Int)],.one (.int .i64 (2:Int))])
   (condP (!(s63 opacity (0:Int) (1000000:Int)))
    (K [.agg [.int .i64 (0:Int),.int .i64 (0:Int)],.one (.int .i64 (2:Int))])
    ((IsE enc_42 3 3 (fun i=>enc_42 (t.get i))∧(p64 t opacity=true)) ∧
    (K [.agg [.int .i64 ((s64 t opacity).Low),.int .i64 ((s64 t opacity).High)],.one (.int .i64 (0:Int))]))))):=by kernel_rfl
abbrev e19 (r:(Span×Int)):List PA:=[.agg [.int .i64 r.1.Low,.int .i64 r.1.High],.one (.int .i64 r.2)]
def s19 (t:(Sl RangeRow)) (opacity:Int):(Span×Int) :=
  (cond (!(s62 t))
   ((⟨(0:Int),(0:Int)⟩:Span),(2:Int))
   (cond (!(s63 opacity (0:Int) (1000000:Int)))
    ((⟨(0:Int),(0:Int)⟩:Span),(2:Int))
    ((s64 t opacity),(0:Int))))
def p19 (t:(Sl RangeRow)) (opacity:Int):Bool :=
  (decide ((p62 t=true)) &&
  (cond (!(s62 t))
   true
   (cond (!(s63 opacity (0:Int) (1000000:Int)))
    true
    (decide ((p64 t opacity=true)) &&
    true))))
theorem q19 (t:(Sl RangeRow)) (opacity:Int) (K:List PA→Prop) (hs:p19 t opacity=true) (hk:K (e19 (s19 t opacity))):vcFun Try.prog G19 ann19 19 [.one (.sl t.len 3 (fun i=>enc_42 (t.get i))),.one (.int .i64 opacity)] K:=by
  refine ofEq (f19_top t opacity K) ?_
  unfold p19 at hs
  unfold s19 at hk
  exact (andK hs fun hc hs => ⟨⟨isE, hc⟩, (condB_go (K := fun r => K (e19 r))
   (fun hs hk=>hk)
   (fun hs hk => (condB_go (K := fun r => K (e19 r))
    (fun hs hk=>hk)
    (fun hs hk=>(andK hs fun hc hs=>⟨⟨isE,hc⟩,hk⟩)) hs hk)) hs hk)⟩)
def ctr19 : List PA → COut
  | [.one (.sl a0_n a0_s a0_g),.one (.int .i64 a1)]=>.det (IsE enc_42 3 a0_s a0_g∧p19 (⟨a0_n,decF_42 a0_g⟩:(Sl RangeRow)) a1=true) [.agg [.int .i64 (((s19 (⟨a0_n,decF_42 a0_g⟩:(Sl RangeRow)) a1).1).Low),.int .i64 (((s19 (⟨a0_n,decF_42 a0_g⟩:(Sl RangeRow)) a1).1).High)],.one (.int .i64 ((s19 (⟨a0_n,decF_42 a0_g⟩:(Sl RangeRow)) a1).2))]
  | _=>.no
theorem call19:Callable Try.prog 19:=⟨_,rfl,rfl,by kernel_rfl⟩
theorem ok19:Ok Try.prog 19 ctr19:=ok_tab okT19 call19 fun args K h=>by
  unfold ctr19 at h
  split at h
  · rename_i a0_n a0_s a0_g a1
    obtain ⟨⟨⟨rfl,a0_f,rfl⟩,hs⟩,hk⟩:=h
    try rw [decF_enc_42 a0_f] at hs
    try rw [decF_enc_42 a0_f] at hk
    exact ⟨(fun _ _=>[]),(fun _=>false),ann19,q19 (⟨a0_n,a0_f⟩:(Sl RangeRow)) a1 K hs hk⟩
  · exact h.elim
end Go.Proofs
namespace Go.Proofs
open Go Go.Pm
set_option maxRecDepth 100000
set_option linter.unusedVariables false
attribute [local irreducible] Go.Pm.vcFun Go.Pm.vc Go.Pm.vcIter
abbrev T102:Tabs:=Tabs.nil
theorem okT102:TabsOk Try.prog T102:=TabsOk.nil
abbrev G102:Ctrs:=csm T102 (fun _ _=>[]) (fun _=>false)
def ann102:Ann:=⟨5,[(0,⟨[1],[1],[],[],[]⟩),(1,⟨[2],[],[],[],[]⟩)],
  [],
  [],
  [],[]⟩
theorem f102_top (r_a0 : FluxRow) (K : List PA → Prop) :
  vcFun Try.prog G102 ann102 102 [.agg [.int .i64 r_a0.Energy,.int .i64 r_a0.Rate.Low,.int .i64 r_a0.Rate.High]] K =
  (K [.one (.int .i64 r_a0.Energy)]):=by kernel_rfl
abbrev e102 (r:Int):List PA:=[.one (.int .i64 r)]
def s102 (r_a0:FluxRow):Int :=
  r_a0.Energy
theorem q102 (r_a0:FluxRow) (K:List PA→Prop) (hk:K (e102 (s102 r_a0))):vcFun Try.prog G102 ann102 102 [.agg [.int .i64 r_a0.Energy,.int .i64 r_a0.Rate.Low,.int .i64 r_a0.Rate.High]] K:=by
  refine ofEq (f102_top r_a0 K) ?_
  unfold s102 at hk
  exact hk
def ctr102 : List PA → COut
  | [.agg [.int .i64 a0_Energy,.int .i64 a0_Rate_Low,.int .i64 a0_Rate_High]]=>.tot [.one (.int .i64 (s102 (⟨a0_Energy,(⟨a0_Rate_Low,a0_Rate_High⟩:Span)⟩:FluxRow)))]
  | _=>.no
theorem call102:Callable Try.prog 102:=⟨_,rfl,rfl,by kernel_rfl⟩
theorem ok102:Ok Try.prog 102 ctr102:=ok_tab okT102 call102 fun args K h=>by
  unfold ctr102 at h
  split at h
  · rename_i a0_Energy a0_Rate_Low a0_Rate_High
    have hk:=h
    exact ⟨(fun _ _=>[]),(fun _=>false),ann102,q102 (⟨a0_Energy,(⟨a0_Rate_Low,a0_Rate_High⟩:Span)⟩:FluxRow) K hk⟩
  · exact h.elim
abbrev T103:Tabs:=Tabs.nil
theorem okT103:TabsOk Try.prog T103:=TabsOk.nil
abbrev G103:Ctrs:=csm T103 (fun _ _=>[]) (fun _=>false)
def ann103:Ann:=⟨5,[(0,⟨[1,2],[1,2],[],[],[]⟩),(1,⟨[2],[2],[],[],[]⟩)],
  [],
  [],
  [],[]⟩
theorem f103_top (r_a0 : FluxRow) (K : List PA → Prop) :
  vcFun Try.prog G103 ann103 103 [.agg [.int .i64 r_a0.Energy,.int .i64 r_a0.Rate.Low,.int .i64 r_a0.Rate.High]] K =
  (K [.agg [.int .i64 r_a0.Rate.Low,.int .i64 r_a0.Rate.High]]):=by kernel_rfl
abbrev e103 (r:Span):List PA:=[.agg [.int .i64 r.Low,.int .i64 r.High]]
def s103 (r_a0:FluxRow):Span :=
  r_a0.Rate
theorem q103 (r_a0:FluxRow) (K:List PA→Prop) (hk:K (e103 (s103 r_a0))):vcFun Try.prog G103 ann103 103 [.agg [.int .i64 r_a0.Energy,.int .i64 r_a0.Rate.Low,.int .i64 r_a0.Rate.High]] K:=by
  refine ofEq (f103_top r_a0 K) ?_
  unfold s103 at hk
  exact hk
def ctr103 : List PA → COut
  | [.agg [.int .i64 a0_Energy,.int .i64 a0_Rate_Low,.int .i64 a0_Rate_High]]=>.tot [.agg [.int .i64 ((s103 (⟨a0_Energy,(⟨a0_Rate_Low,a0_Rate_High⟩:Span)⟩:FluxRow)).Low),.int .i64 ((s103 (⟨a0_Energy,(⟨a0_Rate_Low,a0_Rate_High⟩:Span)⟩:FluxRow)).High)]]
  | _=>.no
theorem call103:Callable Try.prog 103:=⟨_,rfl,rfl,by kernel_rfl⟩
theorem ok103:Ok Try.prog 103 ctr103:=ok_tab okT103 call103 fun args K h=>by
  unfold ctr103 at h
  split at h
  · rename_i a0_Energy a0_Rate_Low a0_Rate_High
    have hk:=h
    exact ⟨(fun _ _=>[]),(fun _=>false),ann103,q103 (⟨a0_Energy,(⟨a0_Rate_Low,a0_Rate_High⟩:Span)⟩:FluxRow) K hk⟩
  · exact h.elim
abbrev T104:Tabs:=(Tabs.nil.addF 94 ctr94)
theorem okT104:TabsOk Try.prog T104:=(TabsOk.nil.addF ok94)
abbrev G104:Ctrs:=csm T104 (fun _ _=>[]) (fun _=>false)
def ann104:Ann:=⟨8,[(0,⟨[2,3],[2,3],[],[],[]⟩),(1,⟨[4],[],[],[],[]⟩)],
  [],
  [],
  [],[]⟩
theorem f104_top (a : Span) (b : Span) (K : List PA → Prop) :
  vcFun Try.prog G104 ann104 104 [.agg [.int .i64 a.Low,.int .i64 a.High],.agg [.int .i64 b.Low,.int .i64 b.High]] K =
  (K [.one (.bool (s94 b a))]):=by kernel_rfl
abbrev e104 (r:Bool):List PA:=[.one (.bool r)]
def s104 (a:Span) (b:Span):Bool :=
  (s94 b a)
theorem q104 (a:Span) (b:Span) (K:List PA→Prop) (hk:K (e104 (s104 a b))):vcFun Try.prog G104 ann104 104 [.agg [.int .i64 a.Low,.int .i64 a.High],.agg [.int .i64 b.Low,.int .i64 b.High]] K:=by
  refine ofEq (f104_top a b K) ?_
  unfold s104 at hk
  exact hk
def ctr104 : List PA → COut
  | [.agg [.int .i64 a0_Low,.int .i64 a0_High],.agg [.int .i64 a1_Low,.int .i64 a1_High]]=>.tot [.one (.bool (s104 (⟨a0_Low,a0_High⟩:Span) (⟨a1_Low,a1_High⟩:Span)))]
  | _=>.no
theorem call104:Callable Try.prog 104:=⟨_,rfl,rfl,by kernel_rfl⟩
theorem ok104:Ok Try.prog 104 ctr104:=ok_tab okT104 call104 fun args K h=>by
  unfold ctr104 at h
  split at h
  · rename_i a0_Low a0_High a1_Low a1_High
    have hk:=h
    exact ⟨(fun _ _=>[]),(fun _=>false),ann104,q104 (⟨a0_Low,a0_High⟩:Span) (⟨a1_Low,a1_High⟩:Span) K hk⟩
  · exact h.elim
abbrev T101:Tabs:=(((((Tabs.nil.addF 63 ctr63).addF 69 ctr69).addF 102 ctr102).addF 103 ctr103).addF 104 ctr104)
theorem okT101:TabsOk Try.prog T101:=(((((TabsOk.nil.addF ok63).addF ok69).addF ok102).addF ok103).addF ok104)
abbrev G101:Ctrs:=csm T101 (fun _ _=>[]) (fun _=>false)
def ann101:Ann:=⟨73,[(0,⟨[0,1,2,3,4,5,6],[],[],[],[]⟩),(1,⟨[0,1,2,3,4,5,6,17,18,19],[],[],[],[]⟩),(2,⟨[0,1,2,3,4,5,6,17,18,19,20],[],[],[],[]⟩),(3,⟨[0,1,2,3,4,5,6,15,16,17,18,19],[16],[],[],[]⟩),(4,⟨[0,1,2,3,4,5,6,15,16,17,18,19,38],[16],[],[],[]⟩),(5,⟨[14],[],[],[],[]⟩),(6,⟨[0,1,2,3,4,5,6,17,18,19,68],[],[],[],[]⟩),(7,⟨[14],[],[],[],[]⟩),(8,⟨[0,1,2,3,4,5,6,17,18,19],[],[],[],[]⟩),(9,⟨[14],[],[],[],[]⟩)],
  [(2,⟨[0,1,2,3,4,5,6,17,18,19],[],[],[],[]⟩)],
  [(5,⟨[0,1,2,3,4,5,6,15,16,17,18,19,38],[16],[],[],[]⟩),(6,⟨[0,1,2,3,4,5,6,15,16,17,18,19],[16],[],[],[]⟩),(7,⟨[0,1,2,3,4,5,6,17,18,19,68],[],[],[],[]⟩)],
  [],[]⟩
def f101_g0 (rows:(Sl FluxRow)) (from_a1:Int) (until_a2:Int) (most:Int) (t19v0:Int):St:=⟨[(0,.one (.c (.p (.sl rows.len 3 (fun i=>enc_44 (rows.get i)))))),(1,.one (.c (.p (.int .i64 from_a1)))),(2,.one (.c (.p (.int .i64 until_a2)))),(3,.one (.c (.p (.fn 102 [] [])))),(4,.one (.c (.p (.fn 103 [] [])))),(5,.one (.c (.p (.int .i64 most)))),(6,.one (.c (.p (.fn 104 [] [])))),(17,.one (.c (.p (.sl rows.len 3 (fun i=>enc_44 (rows.get i)))))),(18,.one (.c (.p (.int .i64 (rows.len:Int))))),(19,.one (.c (.p (.int .i64 t19v0))))],[],[]⟩
def f101_at0 (K:List PA→Prop) (rows:(Sl FluxRow)) (from_a1:Int) (until_a2:Int) (most:Int) (t19v0:Int):Prop:=vc Try.prog G101 ann101 (cdF Try.f101 [1,0,1,0]) (blockK 0 (sqK Try.prog G101 ann101 (cdF Try.f101 [1,1]) (bodyK Try.prog Try.f101 K))) (f101_g0 rows from_a1 until_a2 most t19v0)
def f101_g1 (rows:(Sl FluxRow)) (from_a1:Int) (until_a2:Int) (most:Int) (iv1:Int) (t19v1:Int) (t38v1:Bool) (r_0v1:Int) (r_1v1:Int) (r_2v1:Int):St:=⟨[(0,.one (.c (.p (.sl rows.len 3 (fun i=>enc_44 (rows.get i)))))),(1,.one (.c (.p (.int .i64 from_a1)))),(2,.one (.c (.p (.int .i64 until_a2)))),(3,.one (.c (.p (.fn 102 [] [])))),(4,.one (.c (.p (.fn 103 [] [])))),(5,.one (.c (.p (.int .i64 most)))),(6,.one (.c (.p (.fn 104 [] [])))),(15,.one (.c (.p (.int .i64 iv1)))),(16,.one (.c (.ptr 16 0))),(17,.one (.c (.p (.sl rows.len 3 (fun i=>enc_44 (rows.get i)))))),(18,.one (.c (.p (.int .i64 (rows.len:Int))))),(19,.one (.c (.p (.int .i64 t19v1)))),(38,.one (.c (.p (.bool t38v1))))],[(16,.box 44 [.p (.int .i64 r_0v1),.p (.int .i64 r_1v1),.p (.int .i64 r_2v1)])],[]⟩
def f101_at1 (K:List PA→Prop) (X0:St→Prop) (rows:(Sl FluxRow)) (from_a1:Int) (until_a2:Int) (most:Int) (iv1:Int) (t19v1:Int) (t38v1:Bool) (r_0v1:Int) (r_1v1:Int) (r_2v1:Int):Prop:=vc Try.prog G101 ann101 (cdF Try.f101 [1,0,1,0,0,1,1,0,0,1,0,1]) (sqK Try.prog G101 ann101 (cdF Try.f101 [1,0,1,0,0,1,1,0,0,1,1]) (blockK 1 (sqK Try.prog G101 ann101 (cdF Try.f101 [1,0,1,0,0,1,1,1]) (loopK Try.prog ann101 2 X0 (blockK 0 (sqK Try.prog G101 ann101 (cdF Try.f101 [1,1]) (bodyK Try.prog Try.f101 K))))))) (f101_g1 rows from_a1 until_a2 most iv1 t19v1 t38v1 r_0v1 r_1v1 r_2v1)
def f101_g2 (rows:(Sl FluxRow)) (from_a1:Int) (until_a2:Int) (most:Int) (iv2:Int) (t19v2:Int) (r_0v2:Int) (r_1v2:Int) (r_2v2:Int):St:=⟨[(0,.one (.c (.p (.sl rows.len 3 (fun i=>enc_44 (rows.get i)))))),(1,.one (.c (.p (.int .i64 from_a1)))),(2,.one (.c (.p (.int .i64 until_a2)))),(3,.one (.c (.p (.fn 102 [] [])))),(4,.one (.c (.p (.fn 103 [] [])))),(5,.one (.c (.p (.int .i64 most)))),(6,.one (.c (.p (.fn 104 [] [])))),(15,.one (.c (.p (.int .i64 iv2)))),(16,.one (.c (.ptr 16 0))),(17,.one (.c (.p (.sl rows.len 3 (fun i=>enc_44 (rows.get i)))))),(18,.one (.c (.p (.int .i64 (rows.len:Int))))),(19,.one (.c (.p (.int .i64 t19v2))))],[(16,.box 44 [.p (.int .i64 r_0v2),.p (.int .i64 r_1v2),.p (.int .i64 r_2v2)])],[]⟩
def f101_at2 (K:List PA→Prop) (X0:St→Prop) (rows:(Sl FluxRow)) (from_a1:Int) (until_a2:Int) (most:Int) (iv2:Int) (t19v2:Int) (r_0v2:Int) (r_1v2:Int) (r_2v2:Int):Prop:=vc Try.prog G101 ann101 (cdF Try.f101 [1,0,1,0,0,1,1,0,0,1,1]) (blockK 1 (sqK Try.prog G101 ann101 (cdF Try.f101 [1,0,1,0,0,1,1,1]) (loopK Try.prog ann101 2 X0 (blockK 0 (sqK Try.prog G101 ann101 (cdF Try.f101 [1,1]) (bodyK Try.prog Try.f101 K)))))) (f101_g2 rows from_a1 until_a2 most iv2 t19v2 r_0v2 r_1v2 r_2v2)
def f101_g3 (rows:(Sl FluxRow)) (from_a1:Int) (until_a2:Int) (most:Int) (t19v3:Int) (t68v3:Bool):St:=⟨[(0,.one (.c (.p (.sl rows.len 3 (fun i=>enc_44 (rows.get i)))))),(1,.one (.c (.p (.int .i64 from_a1)))),(2,.one (.c (.p (.int .i64 until_a2)))),(3,.one (.c (.p (.fn 102 [] [])))),(4,.one (.c (.p (.fn 103 [] [])))),(5,.one (.c (.p (.int .i64 most)))),(6,.one (.c (.p (.fn 104 [] [])))),(17,.one (.c (.p (.sl rows.len 3 (fun i=>enc_44 (rows.get i)))))),(18,.one (.c (.p (.int .i64 (rows.len:Int))))),(19,.one (.c (.p (.int .i64 t19v3)))),(68,.one (.c (.p (.bool t68v3))))],[],[]⟩
def f101_at3 (K:List PA→Prop) (X0:St→Prop) (rows:(Sl FluxRow)) (from_a1:Int) (until_a2:Int) (most:Int) (t19v3:Int) (t68v3:Bool):Prop:=vc Try.prog G101 ann101 (cdF Try.f101 [1,0,1,0,0,1,1,0,0,1,1,1]) (blockK 1 (sqK Try.prog G101 ann101 (cdF Try.f101 [1,0,1,0,0,1,1,1]) (loopK Try.prog ann101 2 X0 (blockK 0 (sqK Try.prog G101 ann101 (cdF Try.f101 [1,1]) (bodyK Try.prog Try.f101 K)))))) (f101_g3 rows from_a1 until_a2 most t19v3 t68v3)
theorem f101_top (rows : (Sl FluxRow)) (from_a1 : Int) (until_a2 : Int) (most : Int) (K : List PA → Prop) :
  vcFun Try.prog G101 ann101 101 [.one (.sl rows.len 3 (fun i=>enc_44 (rows.get i))),.one (.int .i64 from_a1),.one (.int .i64 until_a2),.one (.fn 102 [] []),.one (.fn 103 [] []),.one (.int .i64 most),.one (.fn 104 [] [])] K =
  (f101_at0 K rows from_a1 until_a2 most (0:Int)):=by kernel_rfl
def f101_step0 (K:List PA→Prop) (X0:St→Prop) (rows:(Sl FluxRow)) (from_a1:Int) (until_a2:Int) (most:Int) (t19v0:Int):Prop :=
  (condP (decide (t19v0 < (rows.len : Int)))
   (((0≤t19v0∧t19v0 < (rows.len:Int))) ∧
   (condP (!(s63 (s102 (rows.get t19v0.toNat)) from_a1 until_a2))
    (f101_at1 K X0 rows from_a1 until_a2 most t19v0 t19v0 true ((rows.get t19v0.toNat).Energy) ((rows.get t19v0.toNat).Rate.Low) ((rows.get t19v0.toNat).Rate.High))
    (f101_at1 K X0 rows from_a1 until_a2 most t19v0 t19v0 (!(s69 (s103 (rows.get t19v0.toNat)) (0:Int) most)) ((rows.get t19v0.toNat).Energy) ((rows.get t19v0.toNat).Rate.Low) ((rows.get t19v0.toNat).Rate.High))))
   (K [.one (.bool (s63 (rows.len:Int) (1:Int) (40:Int)))]))
theorem f101_stepeq0 (K : List PA → Prop) (X0 : St → Prop) (rows : (Sl FluxRow)) (from_a1 : Int) (until_a2 : Int) (most : Int) (t19v0 : Int) :
  vc Try.prog G101 ann101 (cd (cdF Try.f101 [1,0,1,0]) [0]) (loopK Try.prog ann101 2 X0 (blockK 0 (sqK Try.prog G101 ann101 (cdF Try.f101 [1,1]) (bodyK Try.prog Try.f101 K)))) (f101_g0 rows from_a1 until_a2 most t19v0) =
  f101_step0 K X0 rows from_a1 until_a2 most t19v0:=by kernel_rfl
theorem f101_loop0 (K : List PA → Prop) (rows : (Sl FluxRow)) (from_a1 : Int) (until_a2 : Int) (most : Int) (t19v0 : Int)
  (h:∀ X0:St→Prop,(∀ (t19v0:Int),f101_step0 K X0 rows from_a1 until_a2 most t19v0→X0 (f101_g0 rows from_a1 until_a2 most t19v0))→X0 (f101_g0 rows from_a1 until_a2 most t19v0)) :
  f101_at0 K rows from_a1 until_a2 most t19v0:=by
  have e:f101_at0 K rows from_a1 until_a2 most t19v0=(∀ X:St→Prop,(∀ s,vc Try.prog G101 ann101 (cd (cdF Try.f101 [1,0,1,0]) [0]) (loopK Try.prog ann101 2 X (blockK 0 (sqK Try.prog G101 ann101 (cdF Try.f101 [1,1]) (bodyK Try.prog Try.f101 K)))) s→X s)→X (f101_g0 rows from_a1 until_a2 most t19v0)):=by kernel_rfl
  refine ofEq e ?_
  intro X hX
  refine h X ?_
  intro t19v0 hs
  refine hX _ ?_
  have e2:=f101_stepeq0 K X rows from_a1 until_a2 most t19v0
  rw [e2]
  exact hs
theorem f101_eq1 (K : List PA → Prop) (X0 : St → Prop) (rows : (Sl FluxRow)) (from_a1 : Int) (until_a2 : Int) (most : Int) (iv1 : Int) (t19v1 : Int) (t38v1 : Bool) (r_0v1 : Int) (r_1v1 : Int) (r_2v1 : Int) :
  f101_at1 K X0 rows from_a1 until_a2 most iv1 t19v1 t38v1 r_0v1 r_1v1 r_2v1 =
  (condP t38v1
   (K [.one (.bool false)])
   (f101_at2 K X0 rows from_a1 until_a2 most iv1 t19v1 r_0v1 r_1v1 r_2v1)):=by kernel_rfl
theorem f101_eq2 (K : List PA → Prop) (X0 : St → Prop) (rows : (Sl FluxRow)) (from_a1 : Int) (until_a2 : Int) (most : Int) (iv2 : Int) (t19v2 : Int) (r_0v2 : Int) (r_1v2 : Int) (r_2v2 : Int) :
  f101_at2 K X0 rows from_a1 until_a2 most iv2 t19v2 r_0v2 r_1v2 r_2v2 =
  (condP (decide (iv2 > (0:Int)))
   (((0≤(w64 (iv2 - (1:Int)))∧(w64 (iv2 - (1:Int))) < (rows.len:Int))) ∧
   (condP (decide ((s102 (⟨r_0v2, (⟨r_1v2, r_2v2⟩ : Span)⟩ : FluxRow)) ≤ (s102 (rows.get ((w64 (iv2 - (1:Int))).toNat)))))
    (f101_at3 K X0 rows from_a1 until_a2 most t19v2 true)
    (((0≤(w64 (iv2 - (1:Int)))∧(w64 (iv2 - (1:Int))) < (rows.len:Int))) ∧
    (f101_at3 K X0 rows from_a1 until_a2 most t19v2 (!(s104 (s103 (rows.get ((w64 (iv2 - (1:Int))).toNat))) (s103 (⟨r_0v2,(⟨r_1v2,r_2v2⟩:Span)⟩:FluxRow))))))))
   (f101_at3 K X0 rows from_a1 until_a2 most t19v2 false)):=by kernel_rfl
theorem f101_eq3 (K : List PA → Prop) (X0 : St → Prop) (rows : (Sl FluxRow)) (from_a1 : Int) (until_a2 : Int) (most : Int) (t19v3 : Int) (t68v3 : Bool) :
  f101_at3 K X0 rows from_a1 until_a2 most t19v3 t68v3 =
  (condP t68v3
   (K [.one (.bool false)])
   (X0 (f101_g0 rows from_a1 until_a2 most (w64 (t19v3+(1:Int)))))):=by kernel_rfl
abbrev e101 (r:Bool):List PA:=[.one (.bool r)]
attribute [irreducible] f101_at0 f101_at1 f101_at2 f101_at3
def s101_at3 (S0:Int→Bool) (rows:(Sl FluxRow)) (from_a1:Int) (until_a2:Int) (most:Int) (t19v3:Int) (t68v3:Bool):Bool :=
  (cond t68v3
   false
   (S0 (w64 (t19v3+(1:Int)))))
def p101_at3 (P0:Int→Bool) (rows:(Sl FluxRow)) (from_a1:Int) (until_a2:Int) (most:Int) (t19v3:Int) (t68v3:Bool):Bool :=
  (cond t68v3
   true
   (P0 (w64 (t19v3+(1:Int)))))
theorem q101_at3 (K : List PA → Prop) (rows : (Sl FluxRow)) (from_a1 : Int) (until_a2 : Int) (most : Int)
  (X0:St→Prop) (P0:Int→Bool) (S0:Int→Bool)
  (hX0:∀ (t19v0:Int),P0 t19v0=true→K (e101 (S0 t19v0))→X0 (f101_g0 rows from_a1 until_a2 most t19v0)) (t19v3:Int) (t68v3:Bool) (hs:p101_at3 P0 rows from_a1 until_a2 most t19v3 t68v3=true) (hk:K (e101 (s101_at3 S0 rows from_a1 until_a2 most t19v3 t68v3))):f101_at3 K X0 rows from_a1 until_a2 most t19v3 t68v3:=by
  refine ofEq (f101_eq3 K X0 rows from_a1 until_a2 most t19v3 t68v3) ?_
  unfold p101_at3 at hs
  unfold s101_at3 at hk
  exact (condB_go (K := fun r => K (e101 r))
   (fun hs hk=>hk)
   (fun hs hk=>(hX0 (w64 (t19v3+(1:Int))) hs hk)) hs hk)
def s101_at2 (S0:Int→Bool) (rows:(Sl FluxRow)) (from_a1:Int) (until_a2:Int) (most:Int) (iv2:Int) (t19v2:Int) (r_0v2:Int) (r_1v2:Int) (r_2v2:Int):Bool :=
  (cond (decide (iv2 > (0:Int)))
   (cond (decide ((s102 (⟨r_0v2, (⟨r_1v2, r_2v2⟩ : Span)⟩ : FluxRow)) ≤ (s102 (rows.get ((w64 (iv2 - (1:Int))).toNat)))))
    (s101_at3 S0 rows from_a1 until_a2 most t19v2 true)
    (s101_at3 S0 rows from_a1 until_a2 most t19v2 (!(s104 (s103 (rows.get ((w64 (iv2 - (1:Int))).toNat))) (s103 (⟨r_0v2,(⟨r_1v2,r_2v2⟩:Span)⟩:FluxRow))))))
   (s101_at3 S0 rows from_a1 until_a2 most t19v2 false))
def p101_at2 (P0:Int→Bool) (rows:(Sl FluxRow)) (from_a1:Int) (until_a2:Int) (most:Int) (iv2:Int) (t19v2:Int) (r_0v2:Int) (r_1v2:Int) (r_2v2:Int):Bool :=
  (cond (decide (iv2 > (0:Int)))
   (decide ((0≤(w64 (iv2 - (1:Int)))∧(w64 (iv2 - (1:Int))) < (rows.len:Int))) &&
   (cond (decide ((s102 (⟨r_0v2, (⟨r_1v2, r_2v2⟩ : Span)⟩ : FluxRow)) ≤ (s102 (rows.get ((w64 (iv2 - (1:Int))).toNat)))))
    (p101_at3 P0 rows from_a1 until_a2 most t19v2 true)
    (decide ((0≤(w64 (iv2 - (1:Int)))∧(w64 (iv2 - (1:Int))) < (rows.len:Int))) &&
    (p101_at3 P0 rows from_a1 until_a2 most t19v2 (!(s104 (s103 (rows.get ((w64 (iv2 - (1:Int))).toNat))) (s103 (⟨r_0v2,(⟨r_1v2,r_2v2⟩:Span)⟩:FluxRow))))))))
   (p101_at3 P0 rows from_a1 until_a2 most t19v2 false))
theorem q101_at2 (K : List PA → Prop) (rows : (Sl FluxRow)) (from_a1 : Int) (until_a2 : Int) (most : Int)
  (X0:St→Prop) (P0:Int→Bool) (S0:Int→Bool)
  (hX0:∀ (t19v0:Int),P0 t19v0=true→K (e101 (S0 t19v0))→X0 (f101_g0 rows from_a1 until_a2 most t19v0)) (iv2:Int) (t19v2:Int) (r_0v2:Int) (r_1v2:Int) (r_2v2:Int) (hs:p101_at2 P0 rows from_a1 until_a2 most iv2 t19v2 r_0v2 r_1v2 r_2v2=true) (hk:K (e101 (s101_at2 S0 rows from_a1 until_a2 most iv2 t19v2 r_0v2 r_1v2 r_2v2))):f101_at2 K X0 rows from_a1 until_a2 most iv2 t19v2 r_0v2 r_1v2 r_2v2:=by
  refine ofEq (f101_eq2 K X0 rows from_a1 until_a2 most iv2 t19v2 r_0v2 r_1v2 r_2v2) ?_
  unfold p101_at2 at hs
  unfold s101_at2 at hk
  exact (condB_go (K := fun r => K (e101 r))
   (fun hs hk => (andK hs fun hc hs => ⟨hc, (condB_go (K := fun r => K (e101 r))
    (fun hs hk=>(q101_at3 K rows from_a1 until_a2 most X0 P0 S0 hX0 t19v2 true hs hk))
    (fun hs hk=>(andK hs fun hc hs=>⟨hc,(q101_at3 K rows from_a1 until_a2 most X0 P0 S0 hX0 t19v2 (!(s104 (s103 (rows.get ((w64 (iv2 - (1:Int))).toNat))) (s103 (⟨r_0v2,(⟨r_1v2,r_2v2⟩:Span)⟩:FluxRow)))) hs hk)⟩)) hs hk)⟩))
   (fun hs hk=>(q101_at3 K rows from_a1 until_a2 most X0 P0 S0 hX0 t19v2 false hs hk)) hs hk)
def s101_at1 (S0:Int→Bool) (rows:(Sl FluxRow)) (from_a1:Int) (until_a2:Int) (most:Int) (iv1:Int) (t19v1:Int) (t38v1:Bool) (r_0v1:Int) (r_1v1:Int) (r_2v1:Int):Bool :=
  (cond t38v1
   false
   (s101_at2 S0 rows from_a1 until_a2 most iv1 t19v1 r_0v1 r_1v1 r_2v1))
def p101_at1 (P0:Int→Bool) (rows:(Sl FluxRow)) (from_a1:Int) (until_a2:Int) (most:Int) (iv1:Int) (t19v1:Int) (t38v1:Bool) (r_0v1:Int) (r_1v1:Int) (r_2v1:Int):Bool :=
  (cond t38v1
   true
   (p101_at2 P0 rows from_a1 until_a2 most iv1 t19v1 r_0v1 r_1v1 r_2v1))
theorem q101_at1 (K : List PA → Prop) (rows : (Sl FluxRow)) (from_a1 : Int) (until_a2 : Int) (most : Int)
  (X0:St→Prop) (P0:Int→Bool) (S0:Int→Bool)
  (hX0:∀ (t19v0:Int),P0 t19v0=true→K (e101 (S0 t19v0))→X0 (f101_g0 rows from_a1 until_a2 most t19v0)) (iv1:Int) (t19v1:Int) (t38v1:Bool) (r_0v1:Int) (r_1v1:Int) (r_2v1:Int) (hs:p101_at1 P0 rows from_a1 until_a2 most iv1 t19v1 t38v1 r_0v1 r_1v1 r_2v1=true) (hk:K (e101 (s101_at1 S0 rows from_a1 until_a2 most iv1 t19v1 t38v1 r_0v1 r_1v1 r_2v1))):f101_at1 K X0 rows from_a1 until_a2 most iv1 t19v1 t38v1 r_0v1 r_1v1 r_2v1:=by
  refine ofEq (f101_eq1 K X0 rows from_a1 until_a2 most iv1 t19v1 t38v1 r_0v1 r_1v1 r_2v1) ?_
  unfold p101_at1 at hs
  unfold s101_at1 at hk
  exact (condB_go (K := fun r => K (e101 r))
   (fun hs hk=>hk)
   (fun hs hk=>(q101_at2 K rows from_a1 until_a2 most X0 P0 S0 hX0 iv1 t19v1 r_0v1 r_1v1 r_2v1 hs hk)) hs hk)
def s101_st0 (rows:(Sl FluxRow)) (from_a1:Int) (until_a2:Int) (most:Int) (S0:Int→Bool) (t19v0:Int):Bool :=
  (cond (decide (t19v0 < (rows.len : Int)))
   (cond (!(s63 (s102 (rows.get t19v0.toNat)) from_a1 until_a2))
    (s101_at1 S0 rows from_a1 until_a2 most t19v0 t19v0 true ((rows.get t19v0.toNat).Energy) ((rows.get t19v0.toNat).Rate.Low) ((rows.get t19v0.toNat).Rate.High))
    (s101_at1 S0 rows from_a1 until_a2 most t19v0 t19v0 (!(s69 (s103 (rows.get t19v0.toNat)) (0:Int) most)) ((rows.get t19v0.toNat).Energy) ((rows.get t19v0.toNat).Rate.Low) ((rows.get t19v0.toNat).Rate.High)))
   (s63 (rows.len:Int) (1:Int) (40:Int)))
def p101_st0 (rows:(Sl FluxRow)) (from_a1:Int) (until_a2:Int) (most:Int) (P0:Int→Bool) (t19v0:Int):Bool :=
  (cond (decide (t19v0 < (rows.len : Int)))
   (decide ((0≤t19v0∧t19v0 < (rows.len:Int))) &&
   (cond (!(s63 (s102 (rows.get t19v0.toNat)) from_a1 until_a2))
    (p101_at1 P0 rows from_a1 until_a2 most t19v0 t19v0 true ((rows.get t19v0.toNat).Energy) ((rows.get t19v0.toNat).Rate.Low) ((rows.get t19v0.toNat).Rate.High))
    (p101_at1 P0 rows from_a1 until_a2 most t19v0 t19v0 (!(s69 (s103 (rows.get t19v0.toNat)) (0:Int) most)) ((rows.get t19v0.toNat).Energy) ((rows.get t19v0.toNat).Rate.Low) ((rows.get t19v0.toNat).Rate.High))))
   true)
def s101_lp0 (rows : (Sl FluxRow)) (from_a1 : Int) (until_a2 : Int) (most : Int) : Nat → Int → Bool
  | 0=>fun _=>default
  | k+1=>s101_st0 rows from_a1 until_a2 most (s101_lp0 rows from_a1 until_a2 most k)
def p101_lp0 (rows : (Sl FluxRow)) (from_a1 : Int) (until_a2 : Int) (most : Int) : Nat → Int → Bool
  | 0=>fun _=>false
  | k+1=>p101_st0 rows from_a1 until_a2 most (p101_lp0 rows from_a1 until_a2 most k)
def s101_at0 (rows:(Sl FluxRow)) (from_a1:Int) (until_a2:Int) (most:Int) (t19v0:Int):Bool:=s101_lp0 rows from_a1 until_a2 most Fuel t19v0
def p101_at0 (rows:(Sl FluxRow)) (from_a1:Int) (until_a2:Int) (most:Int) (t19v0:Int):Bool:=p101_lp0 rows from_a1 until_a2 most Fuel t19v0
theorem q101_at0 (K:List PA→Prop) (rows:(Sl FluxRow)) (from_a1:Int) (until_a2:Int) (most:Int) (t19v0:Int) (hs:p101_at0 rows from_a1 until_a2 most t19v0=true) (hk:K (e101 (s101_at0 rows from_a1 until_a2 most t19v0))):f101_at0 K rows from_a1 until_a2 most t19v0:=by
  refine f101_loop0 K rows from_a1 until_a2 most t19v0 ?_
  intro X0 hstep
  have key:∀ (k:Nat) (t19v0:Int),p101_lp0 rows from_a1 until_a2 most k t19v0=true→K (e101 (s101_lp0 rows from_a1 until_a2 most k t19v0))→X0 (f101_g0 rows from_a1 until_a2 most t19v0):=by
    intro k
    induction k with
    | zero=>intro t19v0 hs;exact absurd hs Bool.false_ne_true
    | succ k ih =>
      intro t19v0 hs hk
      refine hstep t19v0 ?_
      have hs:p101_st0 rows from_a1 until_a2 most (p101_lp0 rows from_a1 until_a2 most k) t19v0=true:=hs
      have hk:K (e101 (s101_st0 rows from_a1 until_a2 most (s101_lp0 rows from_a1 until_a2 most k) t19v0)):=hk
      unfold p101_st0 at hs
      unfold s101_st0 at hk
      generalize s101_lp0 rows from_a1 until_a2 most k=S0 at hk ih
      generalize p101_lp0 rows from_a1 until_a2 most k=P0 at hs ih
      have hX0:=ih
      exact (condB_go (K := fun r => K (e101 r))
       (fun hs hk => (andK hs fun hc hs => ⟨hc, (condB_go (K := fun r => K (e101 r))
        (fun hs hk=>(q101_at1 K rows from_a1 until_a2 most X0 P0 S0 hX0 t19v0 t19v0 true ((rows.get t19v0.toNat).Energy) ((rows.get t19v0.toNat).Rate.Low) ((rows.get t19v0.toNat).Rate.High) hs hk))
        (fun hs hk=>(q101_at1 K rows from_a1 until_a2 most X0 P0 S0 hX0 t19v0 t19v0 (!(s69 (s103 (rows.get t19v0.toNat)) (0:Int) most)) ((rows.get t19v0.toNat).Energy) ((rows.get t19v0.toNat).Rate.Low) ((rows.get t19v0.toNat).Rate.High) hs hk)) hs hk)⟩))
       (fun hs hk=>hk) hs hk)
  exact key _ t19v0 hs hk
def s101 (rows:(Sl FluxRow)) (from_a1:Int) (until_a2:Int) (most:Int):Bool :=
  (s101_at0 rows from_a1 until_a2 most (0:Int))
def p101 (rows:(Sl FluxRow)) (from_a1:Int) (until_a2:Int) (most:Int):Bool :=
  (p101_at0 rows from_a1 until_a2 most (0:Int))
theorem q101 (rows:(Sl FluxRow)) (from_a1:Int) (until_a2:Int) (most:Int) (K:List PA→Prop) (hs:p101 rows from_a1 until_a2 most=true) (hk:K (e101 (s101 rows from_a1 until_a2 most))):vcFun Try.prog G101 ann101 101 [.one (.sl rows.len 3 (fun i=>enc_44 (rows.get i))),.one (.int .i64 from_a1),.one (.int .i64 until_a2),.one (.fn 102 [] []),.one (.fn 103 [] []),.one (.int .i64 most),.one (.fn 104 [] [])] K:=by
  refine ofEq (f101_top rows from_a1 until_a2 most K) ?_
  unfold p101 at hs
  unfold s101 at hk
  exact (q101_at0 K rows from_a1 until_a2 most (0:Int) hs hk)
def ctr101 : List PA → COut
  | [.one (.sl a0_n a0_s a0_g),.one (.int .i64 a1),.one (.int .i64 a2),.one (.fn 102 [] []),.one (.fn 103 [] []),.one (.int .i64 a5),.one (.fn 104 [] [])]=>.det (IsE enc_44 3 a0_s a0_g∧p101 (⟨a0_n,decF_44 a0_g⟩:(Sl FluxRow)) a1 a2 a5=true) [.one (.bool (s101 (⟨a0_n,decF_44 a0_g⟩:(Sl FluxRow)) a1 a2 a5))]
  | _=>.no
theorem call101:Callable Try.prog 101:=⟨_,rfl,rfl,by kernel_rfl⟩
theorem ok101:Ok Try.prog 101 ctr101:=ok_tab okT101 call101 fun args K h=>by
  unfold ctr101 at h
  split at h
  · rename_i a0_n a0_s a0_g a1 a2 a5
    obtain ⟨⟨⟨rfl,a0_f,rfl⟩,hs⟩,hk⟩:=h
    try rw [decF_enc_44 a0_f] at hs
    try rw [decF_enc_44 a0_f] at hk
    exact ⟨(fun _ _=>[]),(fun _=>false),ann101,q101 (⟨a0_n,a0_f⟩:(Sl FluxRow)) a1 a2 a5 K hs hk⟩
  · exact h.elim
abbrev T75:Tabs:=(((Tabs.nil.addF 63 ctr63).addF 69 ctr69).addF 101 ctr101)
theorem okT75:TabsOk Try.prog T75:=(((TabsOk.nil.addF ok63).addF ok69).addF ok101)
abbrev G75:Ctrs:=csm T75 (fun _ _=>[]) (fun _=>false)
def ann75:Ann:=⟨44,[(0,⟨[1],[1],[],[],[]⟩),(1,⟨[1,6,7,8],[1],[],[],[]⟩),(2,⟨[1,6,7,8,9],[1],[],[],[]⟩),(3,⟨[1,4,6,7,8],[1],[],[],[]⟩),(4,⟨[1,6,7,8,23],[1],[],[],[]⟩),(5,⟨[2],[],[],[],[]⟩),(6,⟨[1,6,7,8],[1],[],[],[]⟩),(7,⟨[2],[],[],[],[]⟩)],
  [(2,⟨[1,6,7,8],[1],[],[],[]⟩)],
  [(5,⟨[1,6,7,8,23],[1],[],[],[]⟩),(7,⟨[1],[1],[],[],[]⟩)],
  [],[]⟩
def f75_g0 (s:Sky) (t6v0_n:Nat) (t6v0_g:Nat→List PV) (t7v0:Int) (t8v0:Int) (s_1v0_n:Nat) (s_1v0_g:Nat→List PV):St:=⟨[(1,.one (.c (.ptr 1 0))),(6,.one (.c (.p (.sl t6v0_n 1 t6v0_g)))),(7,.one (.c (.p (.int .i64 t7v0)))),(8,.one (.c (.p (.int .i64 t8v0))))],[(1,.box 26 [.p (.int .i64 s.Parts),.p (.sl s_1v0_n 1 s_1v0_g),.p (.int .i64 s.Beta.Low),.p (.int .i64 s.Beta.High),.p (.int .i64 s.Alpha.Low),.p (.int .i64 s.Alpha.High)])],[]⟩
def f75_at0 (K:List PA→Prop) (s:Sky) (t6v0_n:Nat) (t6v0_g:Nat→List PV) (t7v0:Int) (t8v0:Int) (s_1v0_n:Nat) (s_1v0_g:Nat→List PV):Prop:=vc Try.prog G75 ann75 (cdF Try.f75 [1,0,1,0]) (blockK 0 (sqK Try.prog G75 ann75 (cdF Try.f75 [1,1]) (bodyK Try.prog Try.f75 K))) (f75_g0 s t6v0_n t6v0_g t7v0 t8v0 s_1v0_n s_1v0_g)
def f75_g1 (s:Sky) (t6v1_n:Nat) (t6v1_g:Nat→List PV) (t7v1:Int) (t8v1:Int) (t23v1:Bool) (s_1v1_n:Nat) (s_1v1_g:Nat→List PV):St:=⟨[(1,.one (.c (.ptr 1 0))),(6,.one (.c (.p (.sl t6v1_n 1 t6v1_g)))),(7,.one (.c (.p (.int .i64 t7v1)))),(8,.one (.c (.p (.int .i64 t8v1)))),(23,.one (.c (.p (.bool t23v1))))],[(1,.box 26 [.p (.int .i64 s.Parts),.p (.sl s_1v1_n 1 s_1v1_g),.p (.int .i64 s.Beta.Low),.p (.int .i64 s.Beta.High),.p (.int .i64 s.Alpha.Low),.p (.int .i64 s.Alpha.High)])],[]⟩
def f75_at1 (K:List PA→Prop) (X0:St→Prop) (s:Sky) (t6v1_n:Nat) (t6v1_g:Nat→List PV) (t7v1:Int) (t8v1:Int) (t23v1:Bool) (s_1v1_n:Nat) (s_1v1_g:Nat→List PV):Prop:=vc Try.prog G75 ann75 (cdF Try.f75 [1,0,1,0,0,1,1,0,0,1,1]) (blockK 1 (sqK Try.prog G75 ann75 (cdF Try.f75 [1,0,1,0,0,1,1,1]) (loopK Try.prog ann75 2 X0 (blockK 0 (sqK Try.prog G75 ann75 (cdF Try.f75 [1,1]) (bodyK Try.prog Try.f75 K)))))) (f75_g1 s t6v1_n t6v1_g t7v1 t8v1 t23v1 s_1v1_n s_1v1_g)
def f75_g2 (s:Sky) (s_1v2_n:Nat) (s_1v2_g:Nat→List PV):St:=⟨[(1,.one (.c (.ptr 1 0)))],[(1,.box 26 [.p (.int .i64 s.Parts),.p (.sl s_1v2_n 1 s_1v2_g),.p (.int .i64 s.Beta.Low),.p (.int .i64 s.Beta.High),.p (.int .i64 s.Alpha.Low),.p (.int .i64 s.Alpha.High)])],[]⟩
def f75_at2 (K:List PA→Prop) (s:Sky) (s_1v2_n:Nat) (s_1v2_g:Nat→List PV):Prop:=vc Try.prog G75 ann75 (cdF Try.f75 [1,1]) (bodyK Try.prog Try.f75 K) (f75_g2 s s_1v2_n s_1v2_g)
theorem f75_top (s : Sky) (K : List PA → Prop) :
  vcFun Try.prog G75 ann75 75 [.agg [.int .i64 s.Parts,.sl s.Bins.len 1 (fun i=>enc_32 (s.Bins.get i)),.int .i64 s.Beta.Low,.int .i64 s.Beta.High,.int .i64 s.Alpha.Low,.int .i64 s.Alpha.High]] K =
  (f75_at0 K s s.Bins.len (fun i=>enc_32 (s.Bins.get i)) (s.Bins.len:Int) (0:Int) s.Bins.len (fun i=>enc_32 (s.Bins.get i))):=by kernel_rfl
def f75_step0 (K:List PA→Prop) (X0:St→Prop) (s:Sky) (t6v0:(Sl (Sl FluxRow))) (t7v0:Int) (t8v0:Int) (s_1v0:(Sl (Sl FluxRow))):Prop :=
  (condP (decide (t8v0 < t7v0))
   (((0≤t8v0∧t8v0 < (t6v0.len:Int))) ∧
   ((IsE enc_44 3 3 (fun i=>enc_44 ((t6v0.get t8v0.toNat).get i))∧(p101 (t6v0.get t8v0.toNat) (1:Int) (1000000:Int) s.Parts=true)) ∧
   (condP (!(s101 (t6v0.get t8v0.toNat) (1:Int) (1000000:Int) s.Parts))
    (f75_at1 K X0 s t6v0.len (fun i=>enc_32 (t6v0.get i)) t7v0 t8v0 true s_1v0.len (fun i=>enc_32 (s_1v0.get i)))
    (((0≤(0:Int)∧(0:Int) < ((t6v0.get t8v0.toNat).len:Int))) ∧
    (f75_at1 K X0 s t6v0.len (fun i=>enc_32 (t6v0.get i)) t7v0 t8v0 (((t6v0.get t8v0.toNat).get 0).Energy != (1:Int)) s_1v0.len (fun i=>enc_32 (s_1v0.get i)))))))
   (f75_at2 K s s_1v0.len (fun i=>enc_32 (s_1v0.get i))))
theorem f75_stepeq0 (K : List PA → Prop) (X0 : St → Prop) (s : Sky) (t6v0 : (Sl (Sl FluxRow))) (t7v0 : Int) (t8v0 : Int) (s_1v0 : (Sl (Sl FluxRow))) :
  vc Try.prog G75 ann75 (cd (cdF Try.f75 [1,0,1,0]) [0]) (loopK Try.prog ann75 2 X0 (blockK 0 (sqK Try.prog G75 ann75 (cdF Try.f75 [1,1]) (bodyK Try.prog Try.f75 K)))) (f75_g0 s t6v0.len (fun i=>enc_32 (t6v0.get i)) t7v0 t8v0 s_1v0.len (fun i=>enc_32 (s_1v0.get i))) =
  f75_step0 K X0 s t6v0 t7v0 t8v0 s_1v0:=by kernel_rfl
theorem f75_loop0 (K : List PA → Prop) (s : Sky) (t6v0_n : Nat) (t6v0_g : Nat → List PV) (t7v0 : Int) (t8v0 : Int) (s_1v0_n : Nat) (s_1v0_g : Nat → List PV)
  (h:∀ X0:St→Prop,(∀ (t6v0:(Sl (Sl FluxRow))) (t7v0:Int) (t8v0:Int) (s_1v0:(Sl (Sl FluxRow))),f75_step0 K X0 s t6v0 t7v0 t8v0 s_1v0→X0 (f75_g0 s t6v0.len (fun i=>enc_32 (t6v0.get i)) t7v0 t8v0 s_1v0.len (fun i=>enc_32 (s_1v0.get i))))→X0 (f75_g0 s t6v0_n t6v0_g t7v0 t8v0 s_1v0_n s_1v0_g)) :
  f75_at0 K s t6v0_n t6v0_g t7v0 t8v0 s_1v0_n s_1v0_g:=by
  have e:f75_at0 K s t6v0_n t6v0_g t7v0 t8v0 s_1v0_n s_1v0_g=(∀ X:St→Prop,(∀ s,vc Try.prog G75 ann75 (cd (cdF Try.f75 [1,0,1,0]) [0]) (loopK Try.prog ann75 2 X (blockK 0 (sqK Try.prog G75 ann75 (cdF Try.f75 [1,1]) (bodyK Try.prog Try.f75 K)))) s→X s)→X (f75_g0 s t6v0_n t6v0_g t7v0 t8v0 s_1v0_n s_1v0_g)):=by kernel_rfl
  refine ofEq e ?_
  intro X hX
  refine h X ?_
  intro t6v0 t7v0 t8v0 s_1v0 hs
  refine hX _ ?_
  have e2:=f75_stepeq0 K X s t6v0 t7v0 t8v0 s_1v0
  rw [e2]
  exact hs
theorem f75_eq1 (K : List PA → Prop) (X0 : St → Prop) (s : Sky) (t6v1 : (Sl (Sl FluxRow))) (t7v1 : Int) (t8v1 : Int) (t23v1 : Bool) (s_1v1 : (Sl (Sl FluxRow))) :
  f75_at1 K X0 s t6v1.len (fun i=>enc_32 (t6v1.get i)) t7v1 t8v1 t23v1 s_1v1.len (fun i=>enc_32 (s_1v1.get i)) =
  (condP t23v1
   (K [.one (.bool false)])
   (X0 (f75_g0 s t6v1.len (fun i=>enc_32 (t6v1.get i)) t7v1 (w64 (t8v1+(1:Int))) s_1v1.len (fun i=>enc_32 (s_1v1.get i))))):=by kernel_rfl
theorem f75_eq2 (K : List PA → Prop) (s : Sky) (s_1v2 : (Sl (Sl FluxRow))) :
  f75_at2 K s s_1v2.len (fun i=>enc_32 (s_1v2.get i)) =
  (condP (s63 s.Parts (2:Int) (1000000:Int))
   (condP (s63 (s_1v2.len : Int) (1:Int) (20:Int))
    (condP (s69 s.Beta (-100:Int) (100:Int))
     (K [.one (.bool (s69 s.Alpha (-100:Int) (100:Int)))])
     (K [.one (.bool false)]))
    (K [.one (.bool false)]))
   (K [.one (.bool false)])):=by kernel_rfl
abbrev e75 (r:Bool):List PA:=[.one (.bool r)]
attribute [irreducible] f75_at0 f75_at1 f75_at2
def s75_at2 (s:Sky) (s_1v2:(Sl (Sl FluxRow))):Bool :=
  (cond (s63 s.Parts (2:Int) (1000000:Int))
   (cond (s63 (s_1v2.len : Int) (1:Int) (20:Int))
    (cond (s69 s.Beta (-100:Int) (100:Int))
     (s69 s.Alpha (-100:Int) (100:Int))
     false)
    false)
   false)
theorem q75_at2 (K:List PA→Prop) (s:Sky) (s_1v2:(Sl (Sl FluxRow))) (s_1v2_g:Nat→List PV) (s_1v2_h:s_1v2_g=fun i=>enc_32 (s_1v2.get i)) (hk:K (e75 (s75_at2 s s_1v2))):f75_at2 K s s_1v2.len s_1v2_g:=by
  subst s_1v2_h
  refine ofEq (f75_eq2 K s s_1v2) ?_
  unfold s75_at2 at hk
  exact (condP_gt (K := fun r => K (e75 r))
   (fun hk => (condP_gt (K := fun r => K (e75 r))
    (fun hk => (condP_gt (K := fun r => K (e75 r))
     (fun hk=>hk)
     (fun hk=>hk) hk))
    (fun hk=>hk) hk))
   (fun hk=>hk) hk)
def s75_at1 (S0:(Sl (Sl FluxRow))→Int→Int→(Sl (Sl FluxRow))→Bool) (s:Sky) (t6v1:(Sl (Sl FluxRow))) (t7v1:Int) (t8v1:Int) (t23v1:Bool) (s_1v1:(Sl (Sl FluxRow))):Bool :=
  (cond t23v1
   false
   (S0 t6v1 t7v1 (w64 (t8v1+(1:Int))) s_1v1))
def p75_at1 (P0:(Sl (Sl FluxRow))→Int→Int→(Sl (Sl FluxRow))→Bool) (s:Sky) (t6v1:(Sl (Sl FluxRow))) (t7v1:Int) (t8v1:Int) (t23v1:Bool) (s_1v1:(Sl (Sl FluxRow))):Bool :=
  (cond t23v1
   true
   (P0 t6v1 t7v1 (w64 (t8v1+(1:Int))) s_1v1))
theorem q75_at1 (K : List PA → Prop) (s : Sky)
  (X0:St→Prop) (P0:(Sl (Sl FluxRow))→Int→Int→(Sl (Sl FluxRow))→Bool) (S0:(Sl (Sl FluxRow))→Int→Int→(Sl (Sl FluxRow))→Bool)
  (hX0:∀ (t6v0:(Sl (Sl FluxRow))) (t7v0:Int) (t8v0:Int) (s_1v0:(Sl (Sl FluxRow))) (t6v0_g:Nat→List PV) (t6v0_h:t6v0_g=fun i=>enc_32 (t6v0.get i)) (s_1v0_g:Nat→List PV) (s_1v0_h:s_1v0_g=fun i=>enc_32 (s_1v0.get i)),P0 t6v0 t7v0 t8v0 s_1v0=true→K (e75 (S0 t6v0 t7v0 t8v0 s_1v0))→X0 (f75_g0 s t6v0.len t6v0_g t7v0 t8v0 s_1v0.len s_1v0_g)) (t6v1:(Sl (Sl FluxRow))) (t7v1:Int) (t8v1:Int) (t23v1:Bool) (s_1v1:(Sl (Sl FluxRow))) (t6v1_g:Nat→List PV) (t6v1_h:t6v1_g=fun i=>enc_32 (t6v1.get i)) (s_1v1_g:Nat→List PV) (s_1v1_h:s_1v1_g=fun i=>enc_32 (s_1v1.get i)) (hs:p75_at1 P0 s t6v1 t7v1 t8v1 t23v1 s_1v1=true) (hk:K (e75 (s75_at1 S0 s t6v1 t7v1 t8v1 t23v1 s_1v1))):f75_at1 K X0 s t6v1.len t6v1_g t7v1 t8v1 t23v1 s_1v1.len s_1v1_g:=by
  subst t6v1_h
  subst s_1v1_h
  refine ofEq (f75_eq1 K X0 s t6v1 t7v1 t8v1 t23v1 s_1v1) ?_
  unfold p75_at1 at hs
  unfold s75_at1 at hk
  exact (condB_go (K := fun r => K (e75 r))
   (fun hs hk=>hk)
   (fun hs hk=>(hX0 t6v1 t7v1 (w64 (t8v1+(1:Int))) s_1v1 (fun i=>enc_32 (t6v1.get i)) rfl (fun i=>enc_32 (s_1v1.get i)) rfl hs hk)) hs hk)
def s75_st0 (s:Sky) (S0:(Sl (Sl FluxRow))→Int→Int→(Sl (Sl FluxRow))→Bool) (t6v0:(Sl (Sl FluxRow))) (t7v0:Int) (t8v0:Int) (s_1v0:(Sl (Sl FluxRow))):Bool :=
  (cond (decide (t8v0 < t7v0))
   (cond (!(s101 (t6v0.get t8v0.toNat) (1:Int) (1000000:Int) s.Parts))
    (s75_at1 S0 s t6v0 t7v0 t8v0 true s_1v0)
    (s75_at1 S0 s t6v0 t7v0 t8v0 (((t6v0.get t8v0.toNat).get 0).Energy != (1:Int)) s_1v0))
   (s75_at2 s s_1v0))
def p75_st0 (s:Sky) (P0:(Sl (Sl FluxRow))→Int→Int→(Sl (Sl FluxRow))→Bool) (t6v0:(Sl (Sl FluxRow))) (t7v0:Int) (t8v0:Int) (s_1v0:(Sl (Sl FluxRow))):Bool :=
  (cond (decide (t8v0 < t7v0))
   (decide ((0≤t8v0∧t8v0 < (t6v0.len:Int))) &&
   (decide ((p101 (t6v0.get t8v0.toNat) (1:Int) (1000000:Int) s.Parts=true)) &&
   (cond (!(s101 (t6v0.get t8v0.toNat) (1:Int) (1000000:Int) s.Parts))
    (p75_at1 P0 s t6v0 t7v0 t8v0 true s_1v0)
    (decide ((0≤(0:Int)∧(0:Int) < ((t6v0.get t8v0.toNat).len:Int))) &&
    (p75_at1 P0 s t6v0 t7v0 t8v0 (((t6v0.get t8v0.toNat).get 0).Energy != (1:Int)) s_1v0)))))
   true)
def s75_lp0 (s : Sky) : Nat → (Sl (Sl FluxRow)) → Int → Int → (Sl (Sl FluxRow)) → Bool
  | 0=>fun _ _ _ _=>default
  | k+1=>s75_st0 s (s75_lp0 s k)
def p75_lp0 (s : Sky) : Nat → (Sl (Sl FluxRow)) → Int → Int → (Sl (Sl FluxRow)) → Bool
  | 0=>fun _ _ _ _=>false
  | k+1=>p75_st0 s (p75_lp0 s k)
def s75_at0 (s:Sky) (t6v0:(Sl (Sl FluxRow))) (t7v0:Int) (t8v0:Int) (s_1v0:(Sl (Sl FluxRow))):Bool:=s75_lp0 s Fuel t6v0 t7v0 t8v0 s_1v0
def p75_at0 (s:Sky) (t6v0:(Sl (Sl FluxRow))) (t7v0:Int) (t8v0:Int) (s_1v0:(Sl (Sl FluxRow))):Bool:=p75_lp0 s Fuel t6v0 t7v0 t8v0 s_1v0
theorem q75_at0 (K:List PA→Prop) (s:Sky) (t6v0:(Sl (Sl FluxRow))) (t7v0:Int) (t8v0:Int) (s_1v0:(Sl (Sl FluxRow))) (t6v0_g:Nat→List PV) (t6v0_h:t6v0_g=fun i=>enc_32 (t6v0.get i)) (s_1v0_g:Nat→List PV) (s_1v0_h:s_1v0_g=fun i=>enc_32 (s_1v0.get i)) (hs:p75_at0 s t6v0 t7v0 t8v0 s_1v0=true) (hk:K (e75 (s75_at0 s t6v0 t7v0 t8v0 s_1v0))):f75_at0 K s t6v0.len t6v0_g t7v0 t8v0 s_1v0.len s_1v0_g:=by
  refine f75_loop0 K s t6v0.len t6v0_g t7v0 t8v0 s_1v0.len s_1v0_g ?_
  intro X0 hstep
  have key:∀ (k:Nat) (t6v0:(Sl (Sl FluxRow))) (t7v0:Int) (t8v0:Int) (s_1v0:(Sl (Sl FluxRow))) (t6v0_g:Nat→List PV) (t6v0_h:t6v0_g=fun i=>enc_32 (t6v0.get i)) (s_1v0_g:Nat→List PV) (s_1v0_h:s_1v0_g=fun i=>enc_32 (s_1v0.get i)),p75_lp0 s k t6v0 t7v0 t8v0 s_1v0=true→K (e75 (s75_lp0 s k t6v0 t7v0 t8v0 s_1v0))→X0 (f75_g0 s t6v0.len t6v0_g t7v0 t8v0 s_1v0.len s_1v0_g):=by
    intro k
    induction k with
    | zero=>intro t6v0 t7v0 t8v0 s_1v0 t6v0_g t6v0_h s_1v0_g s_1v0_h hs;exact absurd hs Bool.false_ne_true
    | succ k ih =>
      intro t6v0 t7v0 t8v0 s_1v0 t6v0_g t6v0_h s_1v0_g s_1v0_h hs hk
      subst t6v0_h
      subst s_1v0_h
      refine hstep t6v0 t7v0 t8v0 s_1v0 ?_
      have hs:p75_st0 s (p75_lp0 s k) t6v0 t7v0 t8v0 s_1v0=true:=hs
      have hk:K (e75 (s75_st0 s (s75_lp0 s k) t6v0 t7v0 t8v0 s_1v0)):=hk
      unfold p75_st0 at hs
      unfold s75_st0 at hk
      generalize s75_lp0 s k=S0 at hk ih
      generalize p75_lp0 s k=P0 at hs ih
      have hX0:=ih
      exact (condB_go (K := fun r => K (e75 r))
       (fun hs hk => (andK hs fun hc hs => ⟨hc, (andK hs fun hc hs => ⟨⟨isE, hc⟩, (condB_go (K := fun r => K (e75 r))
        (fun hs hk=>(q75_at1 K s X0 P0 S0 hX0 t6v0 t7v0 t8v0 true s_1v0 (fun i=>enc_32 (t6v0.get i)) rfl (fun i=>enc_32 (s_1v0.get i)) rfl hs hk))
        (fun hs hk=>(andK hs fun hc hs=>⟨hc,(q75_at1 K s X0 P0 S0 hX0 t6v0 t7v0 t8v0 (((t6v0.get t8v0.toNat).get 0).Energy != (1:Int)) s_1v0 (fun i=>enc_32 (t6v0.get i)) rfl (fun i=>enc_32 (s_1v0.get i)) rfl hs hk)⟩)) hs hk)⟩)⟩))
       (fun hs hk=>(q75_at2 K s s_1v0 (fun i=>enc_32 (s_1v0.get i)) rfl hk)) hs hk)
  exact key _ t6v0 t7v0 t8v0 s_1v0 t6v0_g t6v0_h s_1v0_g s_1v0_h hs hk
def s75 (s:Sky):Bool :=
  (s75_at0 s s.Bins (s.Bins.len:Int) (0:Int) s.Bins)
def p75 (s:Sky):Bool :=
  (p75_at0 s s.Bins (s.Bins.len:Int) (0:Int) s.Bins)
theorem q75 (s:Sky) (K:List PA→Prop) (hs:p75 s=true) (hk:K (e75 (s75 s))):vcFun Try.prog G75 ann75 75 [.agg [.int .i64 s.Parts,.sl s.Bins.len 1 (fun i=>enc_32 (s.Bins.get i)),.int .i64 s.Beta.Low,.int .i64 s.Beta.High,.int .i64 s.Alpha.Low,.int .i64 s.Alpha.High]] K:=by
  refine ofEq (f75_top s K) ?_
  unfold p75 at hs
  unfold s75 at hk
  exact (q75_at0 K s s.Bins (s.Bins.len:Int) (0:Int) s.Bins (fun i=>enc_32 (s.Bins.get i)) rfl (fun i=>enc_32 (s.Bins.get i)) rfl hs hk)
def ctr75 : List PA → COut
  | [.agg [.int .i64 a0_Parts,.sl a0_Bins_n a0_Bins_s a0_Bins_g,.int .i64 a0_Beta_Low,.int .i64 a0_Beta_High,.int .i64 a0_Alpha_Low,.int .i64 a0_Alpha_High]]=>.det (IsE enc_32 1 a0_Bins_s a0_Bins_g∧p75 (⟨a0_Parts,(⟨a0_Bins_n,decF_32 a0_Bins_g⟩:(Sl (Sl FluxRow))),(⟨a0_Beta_Low,a0_Beta_High⟩:Span),(⟨a0_Alpha_Low,a0_Alpha_High⟩:Span)⟩:Sky)=true) [.one (.bool (s75 (⟨a0_Parts,(⟨a0_Bins_n,decF_32 a0_Bins_g⟩:(Sl (Sl FluxRow))),(⟨a0_Beta_Low,a0_Beta_High⟩:Span),(⟨a0_Alpha_Low,a0_Alpha_High⟩:Span)⟩:Sky)))]
  | _=>.no
theorem call75:Callable Try.prog 75:=⟨_,rfl,rfl,by kernel_rfl⟩
theorem ok75:Ok Try.prog 75 ctr75:=ok_tab okT75 call75 fun args K h=>by
  unfold ctr75 at h
  split at h
  · rename_i a0_Parts a0_Bins_n a0_Bins_s a0_Bins_g a0_Beta_Low a0_Beta_High a0_Alpha_Low a0_Alpha_High
    obtain ⟨⟨⟨rfl,a0_Bins_f,rfl⟩,hs⟩,hk⟩:=h
    try rw [decF_enc_32 a0_Bins_f] at hs
    try rw [decF_enc_32 a0_Bins_f] at hk
    exact ⟨(fun _ _=>[]),(fun _=>false),ann75,q75 (⟨a0_Parts,(⟨a0_Bins_n,a0_Bins_f⟩:(Sl (Sl FluxRow))),(⟨a0_Beta_Low,a0_Beta_High⟩:Span),(⟨a0_Alpha_Low,a0_Alpha_High⟩:Span)⟩:Sky) K hs hk⟩
  · exact h.elim
abbrev T108:Tabs:=Tabs.nil
theorem okT108:TabsOk Try.prog T108:=TabsOk.nil
abbrev G108:Ctrs:=csm T108 (fun _ _=>[]) (fun _=>false)
def ann108:Ann:=⟨9,[(0,⟨[1,2],[2],[],[],[]⟩),(1,⟨[3],[],[],[],[]⟩)],
  [],
  [],
  [],[]⟩
theorem f108_top (c0 : Span) (r_a0 : FluxRow) (K : List PA → Prop) :
  vcFun Try.prog G108 ann108 108 [.agg [.int .i64 r_a0.Energy,.int .i64 r_a0.Rate.Low,.int .i64 r_a0.Rate.High],.one (.fp (enc_24 c0) 0)] K =
  (K [.one (.bool (decide (r_a0.Energy > c0.Low)))]):=by kernel_rfl
abbrev e108 (r:Bool):List PA:=[.one (.bool r)]
def s108 (c0:Span) (r_a0:FluxRow):Bool :=
  (decide (r_a0.Energy > c0.Low))
theorem q108 (c0:Span) (r_a0:FluxRow) (K:List PA→Prop) (hk:K (e108 (s108 c0 r_a0))):vcFun Try.prog G108 ann108 108 [.agg [.int .i64 r_a0.Energy,.int .i64 r_a0.Rate.Low,.int .i64 r_a0.Rate.High],.one (.fp (enc_24 c0) 0)] K:=by
  refine ofEq (f108_top c0 r_a0 K) ?_
  unfold s108 at hk
  exact hk
def ctr108 : List PA → COut
  | [.agg [.int .i64 a0_Energy,.int .i64 a0_Rate_Low,.int .i64 a0_Rate_High],.one (.fp [.int .i64 c0_Low,.int .i64 c0_High] 0)]=>.tot [.one (.bool (s108 (⟨c0_Low,c0_High⟩:Span) (⟨a0_Energy,(⟨a0_Rate_Low,a0_Rate_High⟩:Span)⟩:FluxRow)))]
  | _=>.no
theorem call108:Callable Try.prog 108:=⟨_,rfl,rfl,by kernel_rfl⟩
theorem ok108:Ok Try.prog 108 ctr108:=ok_tab okT108 call108 fun args K h=>by
  unfold ctr108 at h
  split at h
  · rename_i a0_Energy a0_Rate_Low a0_Rate_High c0_Low c0_High
    have hk:=h
    exact ⟨(fun _ _=>[]),(fun _=>false),ann108,q108 (⟨c0_Low,c0_High⟩:Span) (⟨a0_Energy,(⟨a0_Rate_Low,a0_Rate_High⟩:Span)⟩:FluxRow) K hk⟩
  · exact h.elim
abbrev T109:Tabs:=Tabs.nil
theorem okT109:TabsOk Try.prog T109:=TabsOk.nil
abbrev G109:Ctrs:=csm T109 (fun _ _=>[]) (fun _=>false)
def ann109:Ann:=⟨9,[(0,⟨[1,2],[2],[],[],[]⟩),(1,⟨[3],[],[],[],[]⟩)],
  [],
  [],
  [],[]⟩
theorem f109_top (c0 : Span) (r_a0 : FluxRow) (K : List PA → Prop) :
  vcFun Try.prog G109 ann109 109 [.agg [.int .i64 r_a0.Energy,.int .i64 r_a0.Rate.Low,.int .i64 r_a0.Rate.High],.one (.fp (enc_24 c0) 0)] K =
  (K [.one (.bool (decide (r_a0.Energy ≥ c0.High)))]):=by kernel_rfl
abbrev e109 (r:Bool):List PA:=[.one (.bool r)]
def s109 (c0:Span) (r_a0:FluxRow):Bool :=
  (decide (r_a0.Energy ≥ c0.High))
theorem q109 (c0:Span) (r_a0:FluxRow) (K:List PA→Prop) (hk:K (e109 (s109 c0 r_a0))):vcFun Try.prog G109 ann109 109 [.agg [.int .i64 r_a0.Energy,.int .i64 r_a0.Rate.Low,.int .i64 r_a0.Rate.High],.one (.fp (enc_24 c0) 0)] K:=by
  refine ofEq (f109_top c0 r_a0 K) ?_
  unfold s109 at hk
  exact hk
def ctr109 : List PA → COut
  | [.agg [.int .i64 a0_Energy,.int .i64 a0_Rate_Low,.int .i64 a0_Rate_High],.one (.fp [.int .i64 c0_Low,.int .i64 c0_High] 0)]=>.tot [.one (.bool (s109 (⟨c0_Low,c0_High⟩:Span) (⟨a0_Energy,(⟨a0_Rate_Low,a0_Rate_High⟩:Span)⟩:FluxRow)))]
  | _=>.no
theorem call109:Callable Try.prog 109:=⟨_,rfl,rfl,by kernel_rfl⟩
theorem ok109:Ok Try.prog 109 ctr109:=ok_tab okT109 call109 fun args K h=>by
  unfold ctr109 at h
  split at h
  · rename_i a0_Energy a0_Rate_Low a0_Rate_High c0_Low c0_High
    have hk:=h
    exact ⟨(fun _ _=>[]),(fun _=>false),ann109,q109 (⟨c0_Low,c0_High⟩:Span) (⟨a0_Energy,(⟨a0_Rate_Low,a0_Rate_High⟩:Span)⟩:FluxRow) K hk⟩
  · exact h.elim
end Go.Proofs
namespace Go.Proofs
open Go Go.Pm
set_option maxRecDepth 100000
set_option linter.unusedVariables false
attribute [local irreducible] Go.Pm.vcFun Go.Pm.vc Go.Pm.vcIter
abbrev T118:Tabs:=((Tabs.nil.addF 108 ctr108).addF 109 ctr109)
theorem okT118:TabsOk Try.prog T118:=((TabsOk.nil.addF ok108).addF ok109)
abbrev G118:Ctrs:=csm T118 (fun _ _=>[]) (fun _=>false)
def ann118:Ann:=⟨19,[(0,⟨[0,1],[],[],[],[]⟩),(1,⟨[0,1,7,8],[],[],[],[]⟩),(2,⟨[0,1,7,8,9],[],[],[],[]⟩),(3,⟨[0,1,5,7,8],[],[],[],[]⟩),(4,⟨[0,1,5,7,8,16],[],[],[],[]⟩),(5,⟨[4],[],[],[],[]⟩),(6,⟨[0,1,7,8],[],[],[],[]⟩),(7,⟨[4],[],[],[],[]⟩)],
  [(2,⟨[0,1,7,8],[],[],[],[]⟩)],
  [(5,⟨[0,1,5,7,8,16],[],[],[],[]⟩)],
  [],[]⟩
def f118_g0 (c0:Span) (sv0_n:Nat) (sv0_g:Nat→List PV) (t7v0:Int) (t8v0:Int):St:=⟨[(0,.one (.c (.p (.sl sv0_n 3 sv0_g)))),(1,.one (.c (.p (.fn 108 [] [.fp (enc_24 c0) 0])))),(7,.one (.c (.p (.int .i64 t7v0)))),(8,.one (.c (.p (.int .i64 t8v0))))],[],[]⟩
def f118_at0 (K:List PA→Prop) (c0:Span) (sv0_n:Nat) (sv0_g:Nat→List PV) (t7v0:Int) (t8v0:Int):Prop:=vc Try.prog G118 ann118 (cdF Try.f118 [1,0,1,0]) (blockK 0 (sqK Try.prog G118 ann118 (cdF Try.f118 [1,1]) (bodyK Try.prog Try.f118 K))) (f118_g0 c0 sv0_n sv0_g t7v0 t8v0)
def f118_g1 (c0:Span) (sv1_n:Nat) (sv1_g:Nat→List PV) (iv1:Int) (t7v1:Int) (t8v1:Int) (t16v1:Bool):St:=⟨[(0,.one (.c (.p (.sl sv1_n 3 sv1_g)))),(1,.one (.c (.p (.fn 108 [] [.fp (enc_24 c0) 0])))),(5,.one (.c (.p (.int .i64 iv1)))),(7,.one (.c (.p (.int .i64 t7v1)))),(8,.one (.c (.p (.int .i64 t8v1)))),(16,.one (.c (.p (.bool t16v1))))],[],[]⟩
def f118_at1 (K:List PA→Prop) (X0:St→Prop) (c0:Span) (sv1_n:Nat) (sv1_g:Nat→List PV) (iv1:Int) (t7v1:Int) (t8v1:Int) (t16v1:Bool):Prop:=vc Try.prog G118 ann118 (cdF Try.f118 [1,0,1,0,0,1,1,0,0,1,1]) (blockK 1 (sqK Try.prog G118 ann118 (cdF Try.f118 [1,0,1,0,0,1,1,1]) (loopK Try.prog ann118 2 X0 (blockK 0 (sqK Try.prog G118 ann118 (cdF Try.f118 [1,1]) (bodyK Try.prog Try.f118 K)))))) (f118_g1 c0 sv1_n sv1_g iv1 t7v1 t8v1 t16v1)
theorem f118_top (c0 : Span) (s : (Sl FluxRow)) (K : List PA → Prop) :
  vcFun Try.prog G118 ann118 118 [.one (.sl s.len 3 (fun i=>enc_44 (s.get i))),.one (.fn 108 [] [.fp (enc_24 c0) 0])] K =
  (f118_at0 K c0 s.len (fun i=>enc_44 (s.get i)) (s.len:Int) (0:Int)):=by kernel_rfl
def f118_step0 (K:List PA→Prop) (X0:St→Prop) (c0:Span) (sv0:(Sl FluxRow)) (t7v0:Int) (t8v0:Int):Prop :=
  (condP (decide (t8v0 < t7v0))
   (((0≤t8v0∧t8v0 < (sv0.len:Int))) ∧
   (f118_at1 K X0 c0 sv0.len (fun i=>enc_44 (sv0.get i)) t8v0 t7v0 t8v0 (s108 c0 (sv0.get t8v0.toNat))))
   (K [.one (.int .i64 (-1:Int))]))
theorem f118_stepeq0 (K : List PA → Prop) (X0 : St → Prop) (c0 : Span) (sv0 : (Sl FluxRow)) (t7v0 : Int) (t8v0 : Int) :
  vc Try.prog G118 ann118 (cd (cdF Try.f118 [1,0,1,0]) [0]) (loopK Try.prog ann118 2 X0 (blockK 0 (sqK Try.prog G118 ann118 (cdF Try.f118 [1,1]) (bodyK Try.prog Try.f118 K)))) (f118_g0 c0 sv0.len (fun i=>enc_44 (sv0.get i)) t7v0 t8v0) =
  f118_step0 K X0 c0 sv0 t7v0 t8v0:=by kernel_rfl
theorem f118_loop0 (K : List PA → Prop) (c0 : Span) (sv0_n : Nat) (sv0_g : Nat → List PV) (t7v0 : Int) (t8v0 : Int)
  (h:∀ X0:St→Prop,(∀ (sv0:(Sl FluxRow)) (t7v0:Int) (t8v0:Int),f118_step0 K X0 c0 sv0 t7v0 t8v0→X0 (f118_g0 c0 sv0.len (fun i=>enc_44 (sv0.get i)) t7v0 t8v0))→X0 (f118_g0 c0 sv0_n sv0_g t7v0 t8v0)) :
  f118_at0 K c0 sv0_n sv0_g t7v0 t8v0:=by
  have e:f118_at0 K c0 sv0_n sv0_g t7v0 t8v0=(∀ X:St→Prop,(∀ s,vc Try.prog G118 ann118 (cd (cdF Try.f118 [1,0,1,0]) [0]) (loopK Try.prog ann118 2 X (blockK 0 (sqK Try.prog G118 ann118 (cdF Try.f118 [1,1]) (bodyK Try.prog Try.f118 K)))) s→X s)→X (f118_g0 c0 sv0_n sv0_g t7v0 t8v0)):=by kernel_rfl
  refine ofEq e ?_
  intro X hX
  refine h X ?_
  intro sv0 t7v0 t8v0 hs
  refine hX _ ?_
  have e2:=f118_stepeq0 K X c0 sv0 t7v0 t8v0
  rw [e2]
  exact hs
theorem f118_eq1 (K : List PA → Prop) (X0 : St → Prop) (c0 : Span) (sv1 : (Sl FluxRow)) (iv1 : Int) (t7v1 : Int) (t8v1 : Int) (t16v1 : Bool) :
  f118_at1 K X0 c0 sv1.len (fun i=>enc_44 (sv1.get i)) iv1 t7v1 t8v1 t16v1 =
  (condP t16v1
   (K [.one (.int .i64 iv1)])
   (X0 (f118_g0 c0 sv1.len (fun i=>enc_44 (sv1.get i)) t7v1 (w64 (t8v1+(1:Int)))))):=by kernel_rfl
abbrev e118 (r:Int):List PA:=[.one (.int .i64 r)]
attribute [irreducible] f118_at0 f118_at1
def s118_at1 (S0:(Sl FluxRow)→Int→Int→Int) (c0:Span) (sv1:(Sl FluxRow)) (iv1:Int) (t7v1:Int) (t8v1:Int) (t16v1:Bool):Int :=
  (cond t16v1
   iv1
   (S0 sv1 t7v1 (w64 (t8v1+(1:Int)))))
def p118_at1 (P0:(Sl FluxRow)→Int→Int→Bool) (c0:Span) (sv1:(Sl FluxRow)) (iv1:Int) (t7v1:Int) (t8v1:Int) (t16v1:Bool):Bool :=
  (cond t16v1
   true
   (P0 sv1 t7v1 (w64 (t8v1+(1:Int)))))
theorem q118_at1 (K : List PA → Prop) (c0 : Span)
  (X0:St→Prop) (P0:(Sl FluxRow)→Int→Int→Bool) (S0:(Sl FluxRow)→Int→Int→Int)
  (hX0:∀ (sv0:(Sl FluxRow)) (t7v0:Int) (t8v0:Int) (sv0_g:Nat→List PV) (sv0_h:sv0_g=fun i=>enc_44 (sv0.get i)),P0 sv0 t7v0 t8v0=true→K (e118 (S0 sv0 t7v0 t8v0))→X0 (f118_g0 c0 sv0.len sv0_g t7v0 t8v0)) (sv1:(Sl FluxRow)) (iv1:Int) (t7v1:Int) (t8v1:Int) (t16v1:Bool) (sv1_g:Nat→List PV) (sv1_h:sv1_g=fun i=>enc_44 (sv1.get i)) (hs:p118_at1 P0 c0 sv1 iv1 t7v1 t8v1 t16v1=true) (hk:K (e118 (s118_at1 S0 c0 sv1 iv1 t7v1 t8v1 t16v1))):f118_at1 K X0 c0 sv1.len sv1_g iv1 t7v1 t8v1 t16v1:=by
  subst sv1_h
  refine ofEq (f118_eq1 K X0 c0 sv1 iv1 t7v1 t8v1 t16v1) ?_
  unfold p118_at1 at hs
  unfold s118_at1 at hk
  exact (condB_go (K := fun r => K (e118 r))
   (fun hs hk=>hk)
   (fun hs hk=>(hX0 sv1 t7v1 (w64 (t8v1+(1:Int))) (fun i=>enc_44 (sv1.get i)) rfl hs hk)) hs hk)
def s118_st0 (c0:Span) (S0:(Sl FluxRow)→Int→Int→Int) (sv0:(Sl FluxRow)) (t7v0:Int) (t8v0:Int):Int :=
  (cond (decide (t8v0 < t7v0))
   (s118_at1 S0 c0 sv0 t8v0 t7v0 t8v0 (s108 c0 (sv0.get t8v0.toNat)))
   (-1:Int))
def p118_st0 (c0:Span) (P0:(Sl FluxRow)→Int→Int→Bool) (sv0:(Sl FluxRow)) (t7v0:Int) (t8v0:Int):Bool :=
  (cond (decide (t8v0 < t7v0))
   (decide ((0≤t8v0∧t8v0 < (sv0.len:Int))) &&
   (p118_at1 P0 c0 sv0 t8v0 t7v0 t8v0 (s108 c0 (sv0.get t8v0.toNat))))
   true)
def s118_lp0 (c0 : Span) : Nat → (Sl FluxRow) → Int → Int → Int
  | 0=>fun _ _ _=>default
  | k+1=>s118_st0 c0 (s118_lp0 c0 k)
def p118_lp0 (c0 : Span) : Nat → (Sl FluxRow) → Int → Int → Bool
  | 0=>fun _ _ _=>false
  | k+1=>p118_st0 c0 (p118_lp0 c0 k)
def s118_at0 (c0:Span) (sv0:(Sl FluxRow)) (t7v0:Int) (t8v0:Int):Int:=s118_lp0 c0 Fuel sv0 t7v0 t8v0
def p118_at0 (c0:Span) (sv0:(Sl FluxRow)) (t7v0:Int) (t8v0:Int):Bool:=p118_lp0 c0 Fuel sv0 t7v0 t8v0
theorem q118_at0 (K:List PA→Prop) (c0:Span) (sv0:(Sl FluxRow)) (t7v0:Int) (t8v0:Int) (sv0_g:Nat→List PV) (sv0_h:sv0_g=fun i=>enc_44 (sv0.get i)) (hs:p118_at0 c0 sv0 t7v0 t8v0=true) (hk:K (e118 (s118_at0 c0 sv0 t7v0 t8v0))):f118_at0 K c0 sv0.len sv0_g t7v0 t8v0:=by
  refine f118_loop0 K c0 sv0.len sv0_g t7v0 t8v0 ?_
  intro X0 hstep
  have key:∀ (k:Nat) (sv0:(Sl FluxRow)) (t7v0:Int) (t8v0:Int) (sv0_g:Nat→List PV) (sv0_h:sv0_g=fun i=>enc_44 (sv0.get i)),p118_lp0 c0 k sv0 t7v0 t8v0=true→K (e118 (s118_lp0 c0 k sv0 t7v0 t8v0))→X0 (f118_g0 c0 sv0.len sv0_g t7v0 t8v0):=by
    intro k
    induction k with
    | zero=>intro sv0 t7v0 t8v0 sv0_g sv0_h hs;exact absurd hs Bool.false_ne_true
    | succ k ih =>
      intro sv0 t7v0 t8v0 sv0_g sv0_h hs hk
      subst sv0_h
      refine hstep sv0 t7v0 t8v0 ?_
      have hs:p118_st0 c0 (p118_lp0 c0 k) sv0 t7v0 t8v0=true:=hs
      have hk:K (e118 (s118_st0 c0 (s118_lp0 c0 k) sv0 t7v0 t8v0)):=hk
      unfold p118_st0 at hs
      unfold s118_st0 at hk
      generalize s118_lp0 c0 k=S0 at hk ih
      generalize p118_lp0 c0 k=P0 at hs ih
      have hX0:=ih
      exact (condB_go (K := fun r => K (e118 r))
       (fun hs hk=>(andK hs fun hc hs=>⟨hc,(q118_at1 K c0 X0 P0 S0 hX0 sv0 t8v0 t7v0 t8v0 (s108 c0 (sv0.get t8v0.toNat)) (fun i=>enc_44 (sv0.get i)) rfl hs hk)⟩))
       (fun hs hk=>hk) hs hk)
  exact key _ sv0 t7v0 t8v0 sv0_g sv0_h hs hk
def s118 (c0:Span) (s:(Sl FluxRow)):Int :=
  (s118_at0 c0 s (s.len:Int) (0:Int))
def p118 (c0:Span) (s:(Sl FluxRow)):Bool :=
  (p118_at0 c0 s (s.len:Int) (0:Int))
theorem q118 (c0:Span) (s:(Sl FluxRow)) (K:List PA→Prop) (hs:p118 c0 s=true) (hk:K (e118 (s118 c0 s))):vcFun Try.prog G118 ann118 118 [.one (.sl s.len 3 (fun i=>enc_44 (s.get i))),.one (.fn 108 [] [.fp (enc_24 c0) 0])] K:=by
  refine ofEq (f118_top c0 s K) ?_
  unfold p118 at hs
  unfold s118 at hk
  exact (q118_at0 K c0 s (s.len:Int) (0:Int) (fun i=>enc_44 (s.get i)) rfl hs hk)
abbrev G118a:Ctrs:=csm T118 (fun _ _=>[]) (fun _=>false)
def ann118a:Ann:=⟨19,[(0,⟨[0,1],[],[],[],[]⟩),(1,⟨[0,1,7,8],[],[],[],[]⟩),(2,⟨[0,1,7,8,9],[],[],[],[]⟩),(3,⟨[0,1,5,7,8],[],[],[],[]⟩),(4,⟨[0,1,5,7,8,16],[],[],[],[]⟩),(5,⟨[4],[],[],[],[]⟩),(6,⟨[0,1,7,8],[],[],[],[]⟩),(7,⟨[4],[],[],[],[]⟩)],
  [(2,⟨[0,1,7,8],[],[],[],[]⟩)],
  [(5,⟨[0,1,5,7,8,16],[],[],[],[]⟩)],
  [],[]⟩
def f118a_g0 (c0:Span) (sv0_n:Nat) (sv0_g:Nat→List PV) (t7v0:Int) (t8v0:Int):St:=⟨[(0,.one (.c (.p (.sl sv0_n 3 sv0_g)))),(1,.one (.c (.p (.fn 109 [] [.fp (enc_24 c0) 0])))),(7,.one (.c (.p (.int .i64 t7v0)))),(8,.one (.c (.p (.int .i64 t8v0))))],[],[]⟩
def f118a_at0 (K:List PA→Prop) (c0:Span) (sv0_n:Nat) (sv0_g:Nat→List PV) (t7v0:Int) (t8v0:Int):Prop:=vc Try.prog G118a ann118a (cdF Try.f118 [1,0,1,0]) (blockK 0 (sqK Try.prog G118a ann118a (cdF Try.f118 [1,1]) (bodyK Try.prog Try.f118 K))) (f118a_g0 c0 sv0_n sv0_g t7v0 t8v0)
def f118a_g1 (c0:Span) (sv1_n:Nat) (sv1_g:Nat→List PV) (iv1:Int) (t7v1:Int) (t8v1:Int) (t16v1:Bool):St:=⟨[(0,.one (.c (.p (.sl sv1_n 3 sv1_g)))),(1,.one (.c (.p (.fn 109 [] [.fp (enc_24 c0) 0])))),(5,.one (.c (.p (.int .i64 iv1)))),(7,.one (.c (.p (.int .i64 t7v1)))),(8,.one (.c (.p (.int .i64 t8v1)))),(16,.one (.c (.p (.bool t16v1))))],[],[]⟩
def f118a_at1 (K:List PA→Prop) (X0:St→Prop) (c0:Span) (sv1_n:Nat) (sv1_g:Nat→List PV) (iv1:Int) (t7v1:Int) (t8v1:Int) (t16v1:Bool):Prop:=vc Try.prog G118a ann118a (cdF Try.f118 [1,0,1,0,0,1,1,0,0,1,1]) (blockK 1 (sqK Try.prog G118a ann118a (cdF Try.f118 [1,0,1,0,0,1,1,1]) (loopK Try.prog ann118a 2 X0 (blockK 0 (sqK Try.prog G118a ann118a (cdF Try.f118 [1,1]) (bodyK Try.prog Try.f118 K)))))) (f118a_g1 c0 sv1_n sv1_g iv1 t7v1 t8v1 t16v1)
theorem f118a_top (c0 : Span) (s : (Sl FluxRow)) (K : List PA → Prop) :
  vcFun Try.prog G118a ann118a 118 [.one (.sl s.len 3 (fun i=>enc_44 (s.get i))),.one (.fn 109 [] [.fp (enc_24 c0) 0])] K =
  (f118a_at0 K c0 s.len (fun i=>enc_44 (s.get i)) (s.len:Int) (0:Int)):=by kernel_rfl
def f118a_step0 (K:List PA→Prop) (X0:St→Prop) (c0:Span) (sv0:(Sl FluxRow)) (t7v0:Int) (t8v0:Int):Prop :=
  (condP (decide (t8v0 < t7v0))
   (((0≤t8v0∧t8v0 < (sv0.len:Int))) ∧
   (f118a_at1 K X0 c0 sv0.len (fun i=>enc_44 (sv0.get i)) t8v0 t7v0 t8v0 (s109 c0 (sv0.get t8v0.toNat))))
   (K [.one (.int .i64 (-1:Int))]))
theorem f118a_stepeq0 (K : List PA → Prop) (X0 : St → Prop) (c0 : Span) (sv0 : (Sl FluxRow)) (t7v0 : Int) (t8v0 : Int) :
  vc Try.prog G118a ann118a (cd (cdF Try.f118 [1,0,1,0]) [0]) (loopK Try.prog ann118a 2 X0 (blockK 0 (sqK Try.prog G118a ann118a (cdF Try.f118 [1,1]) (bodyK Try.prog Try.f118 K)))) (f118a_g0 c0 sv0.len (fun i=>enc_44 (sv0.get i)) t7v0 t8v0) =
  f118a_step0 K X0 c0 sv0 t7v0 t8v0:=by kernel_rfl
theorem f118a_loop0 (K : List PA → Prop) (c0 : Span) (sv0_n : Nat) (sv0_g : Nat → List PV) (t7v0 : Int) (t8v0 : Int)
  (h:∀ X0:St→Prop,(∀ (sv0:(Sl FluxRow)) (t7v0:Int) (t8v0:Int),f118a_step0 K X0 c0 sv0 t7v0 t8v0→X0 (f118a_g0 c0 sv0.len (fun i=>enc_44 (sv0.get i)) t7v0 t8v0))→X0 (f118a_g0 c0 sv0_n sv0_g t7v0 t8v0)) :
  f118a_at0 K c0 sv0_n sv0_g t7v0 t8v0:=by
  have e:f118a_at0 K c0 sv0_n sv0_g t7v0 t8v0=(∀ X:St→Prop,(∀ s,vc Try.prog G118a ann118a (cd (cdF Try.f118 [1,0,1,0]) [0]) (loopK Try.prog ann118a 2 X (blockK 0 (sqK Try.prog G118a ann118a (cdF Try.f118 [1,1]) (bodyK Try.prog Try.f118 K)))) s→X s)→X (f118a_g0 c0 sv0_n sv0_g t7v0 t8v0)):=by kernel_rfl
  refine ofEq e ?_
  intro X hX
  refine h X ?_
  intro sv0 t7v0 t8v0 hs
  refine hX _ ?_
  have e2:=f118a_stepeq0 K X c0 sv0 t7v0 t8v0
  rw [e2]
  exact hs
theorem f118a_eq1 (K : List PA → Prop) (X0 : St → Prop) (c0 : Span) (sv1 : (Sl FluxRow)) (iv1 : Int) (t7v1 : Int) (t8v1 : Int) (t16v1 : Bool) :
  f118a_at1 K X0 c0 sv1.len (fun i=>enc_44 (sv1.get i)) iv1 t7v1 t8v1 t16v1 =
  (condP t16v1
   (K [.one (.int .i64 iv1)])
   (X0 (f118a_g0 c0 sv1.len (fun i=>enc_44 (sv1.get i)) t7v1 (w64 (t8v1+(1:Int)))))):=by kernel_rfl
abbrev e118a (r:Int):List PA:=[.one (.int .i64 r)]
attribute [irreducible] f118a_at0 f118a_at1
def s118a_at1 (S0:(Sl FluxRow)→Int→Int→Int) (c0:Span) (sv1:(Sl FluxRow)) (iv1:Int) (t7v1:Int) (t8v1:Int) (t16v1:Bool):Int :=
  (cond t16v1
   iv1
   (S0 sv1 t7v1 (w64 (t8v1+(1:Int)))))
def p118a_at1 (P0:(Sl FluxRow)→Int→Int→Bool) (c0:Span) (sv1:(Sl FluxRow)) (iv1:Int) (t7v1:Int) (t8v1:Int) (t16v1:Bool):Bool :=
  (cond t16v1
   true
   (P0 sv1 t7v1 (w64 (t8v1+(1:Int)))))
theorem q118a_at1 (K : List PA → Prop) (c0 : Span)
  (X0:St→Prop) (P0:(Sl FluxRow)→Int→Int→Bool) (S0:(Sl FluxRow)→Int→Int→Int)
  (hX0:∀ (sv0:(Sl FluxRow)) (t7v0:Int) (t8v0:Int) (sv0_g:Nat→List PV) (sv0_h:sv0_g=fun i=>enc_44 (sv0.get i)),P0 sv0 t7v0 t8v0=true→K (e118a (S0 sv0 t7v0 t8v0))→X0 (f118a_g0 c0 sv0.len sv0_g t7v0 t8v0)) (sv1:(Sl FluxRow)) (iv1:Int) (t7v1:Int) (t8v1:Int) (t16v1:Bool) (sv1_g:Nat→List PV) (sv1_h:sv1_g=fun i=>enc_44 (sv1.get i)) (hs:p118a_at1 P0 c0 sv1 iv1 t7v1 t8v1 t16v1=true) (hk:K (e118a (s118a_at1 S0 c0 sv1 iv1 t7v1 t8v1 t16v1))):f118a_at1 K X0 c0 sv1.len sv1_g iv1 t7v1 t8v1 t16v1:=by
  subst sv1_h
  refine ofEq (f118a_eq1 K X0 c0 sv1 iv1 t7v1 t8v1 t16v1) ?_
  unfold p118a_at1 at hs
  unfold s118a_at1 at hk
  exact (condB_go (K := fun r => K (e118a r))
   (fun hs hk=>hk)
   (fun hs hk=>(hX0 sv1 t7v1 (w64 (t8v1+(1:Int))) (fun i=>enc_44 (sv1.get i)) rfl hs hk)) hs hk)
def s118a_st0 (c0:Span) (S0:(Sl FluxRow)→Int→Int→Int) (sv0:(Sl FluxRow)) (t7v0:Int) (t8v0:Int):Int :=
  (cond (decide (t8v0 < t7v0))
   (s118a_at1 S0 c0 sv0 t8v0 t7v0 t8v0 (s109 c0 (sv0.get t8v0.toNat)))
   (-1:Int))
def p118a_st0 (c0:Span) (P0:(Sl FluxRow)→Int→Int→Bool) (sv0:(Sl FluxRow)) (t7v0:Int) (t8v0:Int):Bool :=
  (cond (decide (t8v0 < t7v0))
   (decide ((0≤t8v0∧t8v0 < (sv0.len:Int))) &&
   (p118a_at1 P0 c0 sv0 t8v0 t7v0 t8v0 (s109 c0 (sv0.get t8v0.toNat))))
   true)
def s118a_lp0 (c0 : Span) : Nat → (Sl FluxRow) → Int → Int → Int
  | 0=>fun _ _ _=>default
  | k+1=>s118a_st0 c0 (s118a_lp0 c0 k)
def p118a_lp0 (c0 : Span) : Nat → (Sl FluxRow) → Int → Int → Bool
  | 0=>fun _ _ _=>false
  | k+1=>p118a_st0 c0 (p118a_lp0 c0 k)
def s118a_at0 (c0:Span) (sv0:(Sl FluxRow)) (t7v0:Int) (t8v0:Int):Int:=s118a_lp0 c0 Fuel sv0 t7v0 t8v0
def p118a_at0 (c0:Span) (sv0:(Sl FluxRow)) (t7v0:Int) (t8v0:Int):Bool:=p118a_lp0 c0 Fuel sv0 t7v0 t8v0
theorem q118a_at0 (K:List PA→Prop) (c0:Span) (sv0:(Sl FluxRow)) (t7v0:Int) (t8v0:Int) (sv0_g:Nat→List PV) (sv0_h:sv0_g=fun i=>enc_44 (sv0.get i)) (hs:p118a_at0 c0 sv0 t7v0 t8v0=true) (hk:K (e118a (s118a_at0 c0 sv0 t7v0 t8v0))):f118a_at0 K c0 sv0.len sv0_g t7v0 t8v0:=by
  refine f118a_loop0 K c0 sv0.len sv0_g t7v0 t8v0 ?_
  intro X0 hstep
  have key:∀ (k:Nat) (sv0:(Sl FluxRow)) (t7v0:Int) (t8v0:Int) (sv0_g:Nat→List PV) (sv0_h:sv0_g=fun i=>enc_44 (sv0.get i)),p118a_lp0 c0 k sv0 t7v0 t8v0=true→K (e118a (s118a_lp0 c0 k sv0 t7v0 t8v0))→X0 (f118a_g0 c0 sv0.len sv0_g t7v0 t8v0):=by
    intro k
    induction k with
    | zero=>intro sv0 t7v0 t8v0 sv0_g sv0_h hs;exact absurd hs Bool.false_ne_true
    | succ k ih =>
      intro sv0 t7v0 t8v0 sv0_g sv0_h hs hk
      subst sv0_h
      refine hstep sv0 t7v0 t8v0 ?_
      have hs:p118a_st0 c0 (p118a_lp0 c0 k) sv0 t7v0 t8v0=true:=hs
      have hk:K (e118a (s118a_st0 c0 (s118a_lp0 c0 k) sv0 t7v0 t8v0)):=hk
      unfold p118a_st0 at hs
      unfold s118a_st0 at hk
      generalize s118a_lp0 c0 k=S0 at hk ih
      generalize p118a_lp0 c0 k=P0 at hs ih
      have hX0:=ih
      exact (condB_go (K := fun r => K (e118a r))
       (fun hs hk=>(andK hs fun hc hs=>⟨hc,(q118a_at1 K c0 X0 P0 S0 hX0 sv0 t8v0 t7v0 t8v0 (s109 c0 (sv0.get t8v0.toNat)) (fun i=>enc_44 (sv0.get i)) rfl hs hk)⟩))
       (fun hs hk=>hk) hs hk)
  exact key _ sv0 t7v0 t8v0 sv0_g sv0_h hs hk
def s118a (c0:Span) (s:(Sl FluxRow)):Int :=
  (s118a_at0 c0 s (s.len:Int) (0:Int))
def p118a (c0:Span) (s:(Sl FluxRow)):Bool :=
  (p118a_at0 c0 s (s.len:Int) (0:Int))
theorem q118a (c0:Span) (s:(Sl FluxRow)) (K:List PA→Prop) (hs:p118a c0 s=true) (hk:K (e118a (s118a c0 s))):vcFun Try.prog G118a ann118a 118 [.one (.sl s.len 3 (fun i=>enc_44 (s.get i))),.one (.fn 109 [] [.fp (enc_24 c0) 0])] K:=by
  refine ofEq (f118a_top c0 s K) ?_
  unfold p118a at hs
  unfold s118a at hk
  exact (q118a_at0 K c0 s (s.len:Int) (0:Int) (fun i=>enc_44 (s.get i)) rfl hs hk)
def ctr118 : List PA → COut
  | [.one (.sl a0_n a0_s a0_g),.one (.fn 108 [] [.fp [.int .i64 c0_Low,.int .i64 c0_High] 0])]=>.det (IsE enc_44 3 a0_s a0_g∧p118 (⟨c0_Low,c0_High⟩:Span) (⟨a0_n,decF_44 a0_g⟩:(Sl FluxRow))=true) [.one (.int .i64 (s118 (⟨c0_Low,c0_High⟩:Span) (⟨a0_n,decF_44 a0_g⟩:(Sl FluxRow))))]
  | [.one (.sl a0_n a0_s a0_g),.one (.fn 109 [] [.fp [.int .i64 c0_Low,.int .i64 c0_High] 0])]=>.det (IsE enc_44 3 a0_s a0_g∧p118a (⟨c0_Low,c0_High⟩:Span) (⟨a0_n,decF_44 a0_g⟩:(Sl FluxRow))=true) [.one (.int .i64 (s118a (⟨c0_Low,c0_High⟩:Span) (⟨a0_n,decF_44 a0_g⟩:(Sl FluxRow))))]
  | _=>.no
theorem call118:Callable Try.prog 118:=⟨_,rfl,rfl,by kernel_rfl⟩
theorem ok118:Ok Try.prog 118 ctr118:=ok_tab okT118 call118 fun args K h=>by
  unfold ctr118 at h
  split at h
  · rename_i a0_n a0_s a0_g c0_Low c0_High
    obtain ⟨⟨⟨rfl,a0_f,rfl⟩,hs⟩,hk⟩:=h
    try rw [decF_enc_44 a0_f] at hs
    try rw [decF_enc_44 a0_f] at hk
    exact ⟨(fun _ _=>[]),(fun _=>false),ann118,q118 (⟨c0_Low,c0_High⟩:Span) (⟨a0_n,a0_f⟩:(Sl FluxRow)) K hs hk⟩
  · rename_i a0_n a0_s a0_g c0_Low c0_High
    obtain ⟨⟨⟨rfl,a0_f,rfl⟩,hs⟩,hk⟩:=h
    try rw [decF_enc_44 a0_f] at hs
    try rw [decF_enc_44 a0_f] at hk
    exact ⟨(fun _ _=>[]),(fun _=>false),ann118a,q118a (⟨c0_Low,c0_High⟩:Span) (⟨a0_n,a0_f⟩:(Sl FluxRow)) K hs hk⟩
  · exact h.elim
abbrev T107:Tabs:=(Tabs.nil.addF 118 ctr118)
theorem okT107:TabsOk Try.prog T107:=(TabsOk.nil.addF ok118)
abbrev G107:Ctrs:=csm T107 (fun _ _=>[]) (fun _=>false)
def ann107:Ann:=⟨14,[(0,⟨[0,1],[],[],[],[]⟩),(1,⟨[0,5],[],[],[],[]⟩),(2,⟨[0,5,10],[],[],[],[]⟩),(3,⟨[4],[],[],[],[]⟩),(4,⟨[4],[],[],[],[]⟩)],
  [],
  [],
  [],[]⟩
theorem f107_top (c0 : Span) (rows : (Sl FluxRow)) (K : List PA → Prop) :
  vcFun Try.prog G107 ann107 107 [.one (.sl rows.len 3 (fun i=>enc_44 (rows.get i))),.one (.fn 108 [] [.fp (enc_24 c0) 0])] K =
  ((IsE enc_44 3 3 (fun i=>enc_44 (rows.get i))∧(p118 c0 rows=true)) ∧
  (condP (decide ((s118 c0 rows) ≥ (0:Int)))
   (K [.one (.int .i64 (s118 c0 rows))])
   (K [.one (.int .i64 (rows.len:Int))]))):=by kernel_rfl
abbrev e107 (r:Int):List PA:=[.one (.int .i64 r)]
def s107 (c0:Span) (rows:(Sl FluxRow)):Int :=
  (cond (decide ((s118 c0 rows) ≥ (0:Int)))
   (s118 c0 rows)
   (rows.len:Int))
def p107 (c0:Span) (rows:(Sl FluxRow)):Bool :=
  (decide ((p118 c0 rows=true)) &&
  true)
theorem q107 (c0:Span) (rows:(Sl FluxRow)) (K:List PA→Prop) (hs:p107 c0 rows=true) (hk:K (e107 (s107 c0 rows))):vcFun Try.prog G107 ann107 107 [.one (.sl rows.len 3 (fun i=>enc_44 (rows.get i))),.one (.fn 108 [] [.fp (enc_24 c0) 0])] K:=by
  refine ofEq (f107_top c0 rows K) ?_
  unfold p107 at hs
  unfold s107 at hk
  exact (andK hs fun hc hs => ⟨⟨isE, hc⟩, (condP_gt (K := fun r => K (e107 r))
   (fun hk=>hk)
   (fun hk=>hk) hk)⟩)
abbrev G107a:Ctrs:=csm T107 (fun _ _=>[]) (fun _=>false)
def ann107a:Ann:=⟨14,[(0,⟨[0,1],[],[],[],[]⟩),(1,⟨[0,5],[],[],[],[]⟩),(2,⟨[0,5,10],[],[],[],[]⟩),(3,⟨[4],[],[],[],[]⟩),(4,⟨[4],[],[],[],[]⟩)],
  [],
  [],
  [],[]⟩
theorem f107a_top (c0 : Span) (rows : (Sl FluxRow)) (K : List PA → Prop) :
  vcFun Try.prog G107a ann107a 107 [.one (.sl rows.len 3 (fun i=>enc_44 (rows.get i))),.one (.fn 109 [] [.fp (enc_24 c0) 0])] K =
  ((IsE enc_44 3 3 (fun i=>enc_44 (rows.get i))∧(p118a c0 rows=true)) ∧
  (condP (decide ((s118a c0 rows) ≥ (0:Int)))
   (K [.one (.int .i64 (s118a c0 rows))])
   (K [.one (.int .i64 (rows.len:Int))]))):=by kernel_rfl
abbrev e107a (r:Int):List PA:=[.one (.int .i64 r)]
def s107a (c0:Span) (rows:(Sl FluxRow)):Int :=
  (cond (decide ((s118a c0 rows) ≥ (0:Int)))
   (s118a c0 rows)
   (rows.len:Int))
def p107a (c0:Span) (rows:(Sl FluxRow)):Bool :=
  (decide ((p118a c0 rows=true)) &&
  true)
theorem q107a (c0:Span) (rows:(Sl FluxRow)) (K:List PA→Prop) (hs:p107a c0 rows=true) (hk:K (e107a (s107a c0 rows))):vcFun Try.prog G107a ann107a 107 [.one (.sl rows.len 3 (fun i=>enc_44 (rows.get i))),.one (.fn 109 [] [.fp (enc_24 c0) 0])] K:=by
  refine ofEq (f107a_top c0 rows K) ?_
  unfold p107a at hs
  unfold s107a at hk
  exact (andK hs fun hc hs => ⟨⟨isE, hc⟩, (condP_gt (K := fun r => K (e107a r))
   (fun hk=>hk)
   (fun hk=>hk) hk)⟩)
def ctr107 : List PA → COut
  | [.one (.sl a0_n a0_s a0_g),.one (.fn 108 [] [.fp [.int .i64 c0_Low,.int .i64 c0_High] 0])]=>.det (IsE enc_44 3 a0_s a0_g∧p107 (⟨c0_Low,c0_High⟩:Span) (⟨a0_n,decF_44 a0_g⟩:(Sl FluxRow))=true) [.one (.int .i64 (s107 (⟨c0_Low,c0_High⟩:Span) (⟨a0_n,decF_44 a0_g⟩:(Sl FluxRow))))]
  | [.one (.sl a0_n a0_s a0_g),.one (.fn 109 [] [.fp [.int .i64 c0_Low,.int .i64 c0_High] 0])]=>.det (IsE enc_44 3 a0_s a0_g∧p107a (⟨c0_Low,c0_High⟩:Span) (⟨a0_n,decF_44 a0_g⟩:(Sl FluxRow))=true) [.one (.int .i64 (s107a (⟨c0_Low,c0_High⟩:Span) (⟨a0_n,decF_44 a0_g⟩:(Sl FluxRow))))]
  | _=>.no
theorem call107:Callable Try.prog 107:=⟨_,rfl,rfl,by kernel_rfl⟩
theorem ok107:Ok Try.prog 107 ctr107:=ok_tab okT107 call107 fun args K h=>by
  unfold ctr107 at h
  split at h
  · rename_i a0_n a0_s a0_g c0_Low c0_High
    obtain ⟨⟨⟨rfl,a0_f,rfl⟩,hs⟩,hk⟩:=h
    try rw [decF_enc_44 a0_f] at hs
    try rw [decF_enc_44 a0_f] at hk
    exact ⟨(fun _ _=>[]),(fun _=>false),ann107,q107 (⟨c0_Low,c0_High⟩:Span) (⟨a0_n,a0_f⟩:(Sl FluxRow)) K hs hk⟩
  · rename_i a0_n a0_s a0_g c0_Low c0_High
    obtain ⟨⟨⟨rfl,a0_f,rfl⟩,hs⟩,hk⟩:=h
    try rw [decF_enc_44 a0_f] at hs
    try rw [decF_enc_44 a0_f] at hk
    exact ⟨(fun _ _=>[]),(fun _=>false),ann107a,q107a (⟨c0_Low,c0_High⟩:Span) (⟨a0_n,a0_f⟩:(Sl FluxRow)) K hs hk⟩
  · exact h.elim
abbrev T84:Tabs:=(Tabs.nil.addF 107 ctr107)
theorem okT84:TabsOk Try.prog T84:=(TabsOk.nil.addF ok107)
abbrev G84:Ctrs:=csm T84 (fun _ _=>[]) (fun _=>false)
def ann84:Ann:=⟨46,[(0,⟨[0,3,4],[3,4],[],[],[]⟩),(1,⟨[0,3,4,5],[3,4,5],[],[],[]⟩),(2,⟨[0,3,4,5,6],[3,4,5],[],[],[]⟩),(3,⟨[0,3,4,5,6,18],[3,4,5],[],[],[]⟩),(4,⟨[0,3,4,5],[3,4,5],[],[],[]⟩),(5,⟨[0,3,4,5,29],[3,4,5],[],[],[]⟩),(6,⟨[4],[4],[],[],[]⟩),(7,⟨[0,4,5,7],[4,5],[],[],[]⟩),(8,⟨[0,4,5,7,37],[4,5],[],[],[]⟩),(9,⟨[4,5],[4,5],[],[],[]⟩),(10,⟨[4],[4],[],[],[]⟩)],
  [],
  [(3,⟨[0,3,4,5,6],[3,4,5],[],[],[]⟩),(5,⟨[0,3,4,5],[3,4,5],[],[],[]⟩),(7,⟨[0,3,4,5],[3,4,5],[],[],[]⟩),(8,⟨[0,4,5,7],[4,5],[],[],[]⟩)],
  [],[]⟩
def f84_g0 (l_a0:(Sl FluxRow)) (t:Span) (iv0:Int):St:=⟨[(0,.one (.c (.p (.sl l_a0.len 3 (fun i=>enc_44 (l_a0.get i)))))),(3,.one (.c (.ptr 3 0))),(4,.one (.c (.ptr 4 0))),(5,.one (.c (.ptr 5 0))),(6,.one (.c (.p (.int .i64 iv0))))],[(3,.fbox [.int .i64 t.Low,.int .i64 t.High]),(4,.box 24 [.p (.int .i64 (0:Int)),.p (.int .i64 (0:Int))]),(5,.box 24 [.p (.int .i64 (0:Int)),.p (.int .i64 ((l_a0.get 0).Rate.High))])],[]⟩
def f84_at0 (K:List PA→Prop) (l_a0:(Sl FluxRow)) (t:Span) (iv0:Int):Prop:=vc Try.prog G84 ann84 (cdF Try.f84 [1,1,0,1]) (sqK Try.prog G84 ann84 (cdF Try.f84 [1,1,1]) (bodyK Try.prog Try.f84 K)) (f84_g0 l_a0 t iv0)
def f84_g1 (l_a0:(Sl FluxRow)) (t:Span) (out_1v1:Int):St:=⟨[(0,.one (.c (.p (.sl l_a0.len 3 (fun i=>enc_44 (l_a0.get i)))))),(3,.one (.c (.ptr 3 0))),(4,.one (.c (.ptr 4 0))),(5,.one (.c (.ptr 5 0)))],[(3,.fbox [.int .i64 t.Low,.int .i64 t.High]),(4,.box 24 [.p (.int .i64 (0:Int)),.p (.int .i64 (0:Int))]),(5,.box 24 [.p (.int .i64 (0:Int)),.p (.int .i64 out_1v1)])],[]⟩
def f84_at1 (K:List PA→Prop) (l_a0:(Sl FluxRow)) (t:Span) (out_1v1:Int):Prop:=vc Try.prog G84 ann84 (cdF Try.f84 [1,1,1]) (bodyK Try.prog Try.f84 K) (f84_g1 l_a0 t out_1v1)
def f84_g2 (l_a0:(Sl FluxRow)) (t:Span) (out_1v1:Int):St:=⟨[(0,.one (.c (.p (.sl l_a0.len 3 (fun i=>enc_44 (l_a0.get i)))))),(3,.one (.c (.ptr 3 0))),(4,.one (.c (.ptr 4 0))),(5,.one (.c (.ptr 5 0)))],[(3,.fbox [.int .i64 t.Low,.int .i64 t.High]),(4,.box 24 [.p (.int .i64 (0:Int)),.p (.int .i64 (0:Int))]),(5,.box 24 [.p (.int .i64 (0:Int)),.p (.int .i64 out_1v1)])],[]⟩
def f84_at2 (K:List PA→Prop) (l_a0:(Sl FluxRow)) (t:Span) (out_1v1:Int):Prop:=vc Try.prog G84 ann84 (cdF Try.f84 [1,1,1,1]) (bodyK Try.prog Try.f84 K) (f84_g2 l_a0 t out_1v1)
def f84_g3 (l_a0:(Sl FluxRow)) (out_1v1:Int) (iv3:Int):St:=⟨[(0,.one (.c (.p (.sl l_a0.len 3 (fun i=>enc_44 (l_a0.get i)))))),(4,.one (.c (.ptr 4 0))),(5,.one (.c (.ptr 5 0))),(7,.one (.c (.p (.int .i64 iv3))))],[(4,.box 24 [.p (.int .i64 (0:Int)),.p (.int .i64 (0:Int))]),(5,.box 24 [.p (.int .i64 (0:Int)),.p (.int .i64 out_1v1)])],[]⟩
def f84_at3 (K:List PA→Prop) (l_a0:(Sl FluxRow)) (out_1v1:Int) (iv3:Int):Prop:=vc Try.prog G84 ann84 (cdF Try.f84 [1,1,1,1,0,1]) (sqK Try.prog G84 ann84 (cdF Try.f84 [1,1,1,1,1]) (bodyK Try.prog Try.f84 K)) (f84_g3 l_a0 out_1v1 iv3)
theorem f84_top (l_a0 : (Sl FluxRow)) (t : Span) (K : List PA → Prop) :
  vcFun Try.prog G84 ann84 84 [.one (.sl l_a0.len 3 (fun i=>enc_44 (l_a0.get i))),.agg [.int .i64 t.Low,.int .i64 t.High]] K =
  (((0≤(0:Int)∧(0:Int) < (l_a0.len:Int))) ∧
  ((IsE enc_44 3 3 (fun i=>enc_44 (l_a0.get i))∧(p107 t l_a0=true)) ∧
  (f84_at0 K l_a0 t (s107 t l_a0)))):=by kernel_rfl
theorem f84_eq0 (K : List PA → Prop) (l_a0 : (Sl FluxRow)) (t : Span) (iv0 : Int) :
  f84_at0 K l_a0 t iv0 =
  (condP (decide (iv0 > (0:Int)))
   (((0≤(w64 (iv0 - (1:Int)))∧(w64 (iv0 - (1:Int))) < (l_a0.len:Int))) ∧
   (f84_at1 K l_a0 t ((l_a0.get ((w64 (iv0 - (1:Int))).toNat)).Rate.High)))
   (f84_at1 K l_a0 t ((l_a0.get 0).Rate.High))):=by kernel_rfl
theorem f84_eq1 (K : List PA → Prop) (l_a0 : (Sl FluxRow)) (t : Span) (out_1v1 : Int) :
  f84_at1 K l_a0 t out_1v1 =
  (condP (t.High == (-1:Int))
   (K [.agg [.int .i64 (0:Int),.int .i64 out_1v1]])
   (f84_at2 K l_a0 t out_1v1)):=by kernel_rfl
theorem f84_eq2 (K : List PA → Prop) (l_a0 : (Sl FluxRow)) (t : Span) (out_1v1 : Int) :
  f84_at2 K l_a0 t out_1v1 =
  ((IsE enc_44 3 3 (fun i=>enc_44 (l_a0.get i))∧(p107a t l_a0=true)) ∧
  (f84_at3 K l_a0 out_1v1 (s107a t l_a0))):=by kernel_rfl
theorem f84_eq3 (K : List PA → Prop) (l_a0 : (Sl FluxRow)) (out_1v1 : Int) (iv3 : Int) :
  f84_at3 K l_a0 out_1v1 iv3 =
  (condP (decide (iv3 < (l_a0.len : Int)))
   (((0≤iv3∧iv3 < (l_a0.len:Int))) ∧
   (K [.agg [.int .i64 ((l_a0.get iv3.toNat).Rate.Low),.int .i64 out_1v1]]))
   (K [.agg [.int .i64 (0:Int),.int .i64 out_1v1]])):=by kernel_rfl
abbrev e84 (r:Span):List PA:=[.agg [.int .i64 r.Low,.int .i64 r.High]]
attribute [irreducible] f84_at0 f84_at1 f84_at2 f84_at3
def s84_at3 (l_a0:(Sl FluxRow)) (out_1v1:Int) (iv3:Int):Span :=
  (cond (decide (iv3 < (l_a0.len : Int)))
   (⟨(l_a0.get iv3.toNat).Rate.Low,out_1v1⟩:Span)
   (⟨(0:Int),out_1v1⟩:Span))
def p84_at3 (l_a0:(Sl FluxRow)) (out_1v1:Int) (iv3:Int):Bool :=
  (cond (decide (iv3 < (l_a0.len : Int)))
   (decide ((0≤iv3∧iv3 < (l_a0.len:Int))) &&
   true)
   true)
theorem q84_at3 (K:List PA→Prop) (l_a0:(Sl FluxRow)) (out_1v1:Int) (iv3:Int) (hs:p84_at3 l_a0 out_1v1 iv3=true) (hk:K (e84 (s84_at3 l_a0 out_1v1 iv3))):f84_at3 K l_a0 out_1v1 iv3:=by
  refine ofEq (f84_eq3 K l_a0 out_1v1 iv3) ?_
  unfold p84_at3 at hs
  unfold s84_at3 at hk
  exact (condB_go (K := fun r => K (e84 r))
   (fun hs hk=>(andK hs fun hc hs=>⟨hc,hk⟩))
   (fun hs hk=>hk) hs hk)
def s84_at2 (l_a0:(Sl FluxRow)) (t:Span) (out_1v1:Int):Span :=
  (s84_at3 l_a0 out_1v1 (s107a t l_a0))
def p84_at2 (l_a0:(Sl FluxRow)) (t:Span) (out_1v1:Int):Bool :=
  (decide ((p107a t l_a0=true)) &&
  (p84_at3 l_a0 out_1v1 (s107a t l_a0)))
theorem q84_at2 (K:List PA→Prop) (l_a0:(Sl FluxRow)) (t:Span) (out_1v1:Int) (hs:p84_at2 l_a0 t out_1v1=true) (hk:K (e84 (s84_at2 l_a0 t out_1v1))):f84_at2 K l_a0 t out_1v1:=by
  refine ofEq (f84_eq2 K l_a0 t out_1v1) ?_
  unfold p84_at2 at hs
  unfold s84_at2 at hk
  exact (andK hs fun hc hs=>⟨⟨isE,hc⟩,(q84_at3 K l_a0 out_1v1 (s107a t l_a0) hs hk)⟩)
def s84_at1 (l_a0:(Sl FluxRow)) (t:Span) (out_1v1:Int):Span :=
  (cond (t.High == (-1:Int))
   (⟨(0:Int),out_1v1⟩:Span)
   (s84_at2 l_a0 t out_1v1))
def p84_at1 (l_a0:(Sl FluxRow)) (t:Span) (out_1v1:Int):Bool :=
  (cond (t.High == (-1:Int))
   true
   (p84_at2 l_a0 t out_1v1))
theorem q84_at1 (K:List PA→Prop) (l_a0:(Sl FluxRow)) (t:Span) (out_1v1:Int) (hs:p84_at1 l_a0 t out_1v1=true) (hk:K (e84 (s84_at1 l_a0 t out_1v1))):f84_at1 K l_a0 t out_1v1:=by
  refine ofEq (f84_eq1 K l_a0 t out_1v1) ?_
  unfold p84_at1 at hs
  unfold s84_at1 at hk
  exact (condB_go (K := fun r => K (e84 r))
   (fun hs hk=>hk)
   (fun hs hk=>(q84_at2 K l_a0 t out_1v1 hs hk)) hs hk)
def s84_at0 (l_a0:(Sl FluxRow)) (t:Span) (iv0:Int):Span :=
  (cond (decide (iv0 > (0:Int)))
   (s84_at1 l_a0 t ((l_a0.get ((w64 (iv0 - (1:Int))).toNat)).Rate.High))
   (s84_at1 l_a0 t ((l_a0.get 0).Rate.High)))
def p84_at0 (l_a0:(Sl FluxRow)) (t:Span) (iv0:Int):Bool :=
  (cond (decide (iv0 > (0:Int)))
   (decide ((0≤(w64 (iv0 - (1:Int)))∧(w64 (iv0 - (1:Int))) < (l_a0.len:Int))) &&
   (p84_at1 l_a0 t ((l_a0.get ((w64 (iv0 - (1:Int))).toNat)).Rate.High)))
   (p84_at1 l_a0 t ((l_a0.get 0).Rate.High)))
theorem q84_at0 (K:List PA→Prop) (l_a0:(Sl FluxRow)) (t:Span) (iv0:Int) (hs:p84_at0 l_a0 t iv0=true) (hk:K (e84 (s84_at0 l_a0 t iv0))):f84_at0 K l_a0 t iv0:=by
  refine ofEq (f84_eq0 K l_a0 t iv0) ?_
  unfold p84_at0 at hs
  unfold s84_at0 at hk
  exact (condB_go (K := fun r => K (e84 r))
   (fun hs hk=>(andK hs fun hc hs=>⟨hc,(q84_at1 K l_a0 t ((l_a0.get ((w64 (iv0 - (1:Int))).toNat)).Rate.High) hs hk)⟩))
   (fun hs hk=>(q84_at1 K l_a0 t ((l_a0.get 0).Rate.High) hs hk)) hs hk)
def s84 (l_a0:(Sl FluxRow)) (t:Span):Span :=
  (s84_at0 l_a0 t (s107 t l_a0))
def p84 (l_a0:(Sl FluxRow)) (t:Span):Bool :=
  (decide ((0≤(0:Int)∧(0:Int) < (l_a0.len:Int))) &&
  (decide ((p107 t l_a0=true)) &&
  (p84_at0 l_a0 t (s107 t l_a0))))
theorem q84 (l_a0:(Sl FluxRow)) (t:Span) (K:List PA→Prop) (hs:p84 l_a0 t=true) (hk:K (e84 (s84 l_a0 t))):vcFun Try.prog G84 ann84 84 [.one (.sl l_a0.len 3 (fun i=>enc_44 (l_a0.get i))),.agg [.int .i64 t.Low,.int .i64 t.High]] K:=by
  refine ofEq (f84_top l_a0 t K) ?_
  unfold p84 at hs
  unfold s84 at hk
  exact (andK hs fun hc hs=>⟨hc,(andK hs fun hc hs=>⟨⟨isE,hc⟩,(q84_at0 K l_a0 t (s107 t l_a0) hs hk)⟩)⟩)
def ctr84 : List PA → COut
  | [.one (.sl a0_n a0_s a0_g),.agg [.int .i64 a1_Low,.int .i64 a1_High]]=>.det (IsE enc_44 3 a0_s a0_g∧p84 (⟨a0_n,decF_44 a0_g⟩:(Sl FluxRow)) (⟨a1_Low,a1_High⟩:Span)=true) [.agg [.int .i64 ((s84 (⟨a0_n,decF_44 a0_g⟩:(Sl FluxRow)) (⟨a1_Low,a1_High⟩:Span)).Low),.int .i64 ((s84 (⟨a0_n,decF_44 a0_g⟩:(Sl FluxRow)) (⟨a1_Low,a1_High⟩:Span)).High)]]
  | _=>.no
theorem call84:Callable Try.prog 84:=⟨_,rfl,rfl,by kernel_rfl⟩
theorem ok84:Ok Try.prog 84 ctr84:=ok_tab okT84 call84 fun args K h=>by
  unfold ctr84 at h
  split at h
  · rename_i a0_n a0_s a0_g a1_Low a1_High
    obtain ⟨⟨⟨rfl,a0_f,rfl⟩,hs⟩,hk⟩:=h
    try rw [decF_enc_44 a0_f] at hs
    try rw [decF_enc_44 a0_f] at hk
    exact ⟨(fun _ _=>[]),(fun _=>false),ann84,q84 (⟨a0_n,a0_f⟩:(Sl FluxRow)) (⟨a1_Low,a1_High⟩:Span) K hs hk⟩
  · exact h.elim
def memoF (s:Sky) (t:Sl RangeRow) (bin:Int) (j:Int):List Int:=[(s84 (s.Bins.get bin.toNat) (s64 t j)).Low,(s84 (s.Bins.get bin.toNat) (s64 t j)).High]
abbrev T65:Tabs:=(((((Tabs.nil.addF 62 ctr62).addF 63 ctr63).addF 64 ctr64).addF 75 ctr75).addF 84 ctr84)
theorem okT65:TabsOk Try.prog T65:=(((((TabsOk.nil.addF ok62).addF ok63).addF ok64).addF ok75).addF ok84)
abbrev G65 (s:Sky) (t:(Sl RangeRow)) (bin:Int):Ctrs:=csm T65 (fun _=>memoF s t bin) (fun _=>false)
def ann65:Ann:=⟨33,[(0,⟨[1,2,3,4],[4],[],[],[]⟩),(1,⟨[8,9],[14],[],[],[]⟩)],
  [],
  [],
  [],[]⟩
theorem f65_top (s : Sky) (t : (Sl RangeRow)) (bin : Int) (opacity : Int) (K : List PA → Prop) :
  vcFun Try.prog (G65 s t bin) ann65 65 [.agg [.int .i64 s.Parts,.sl s.Bins.len 1 (fun i=>enc_32 (s.Bins.get i)),.int .i64 s.Beta.Low,.int .i64 s.Beta.High,.int .i64 s.Alpha.Low,.int .i64 s.Alpha.High],.one (.sl t.len 3 (fun i=>enc_42 (t.get i))),.one (.int .i64 bin),.one (.int .i64 opacity)] K =
  ((IsE enc_32 1 1 (fun i=>enc_32 (s.Bins.get i))∧(p75 s=true)) ∧
  (condP (s75 s)
   ((IsE enc_42 3 3 (fun i=>enc_42 (t.get i))∧(p62 t=true)) ∧
   (condP (s62 t)
    (condP (s63 bin (0:Int) (w64 ((s.Bins.len : Int) - (1:Int))))
     (K [.one (.fp (enc_137 (⟨s,t,(memoF s t bin)⟩:ground)) 0),.one (.bool (s63 opacity (0:Int) (1000000:Int)))])
     (K [.one (.fp (enc_137 (⟨s,t,(memoF s t bin)⟩:ground)) 0),.one (.bool false)]))
    (K [.one (.fp (enc_137 (⟨s,t,(memoF s t bin)⟩:ground)) 0),.one (.bool false)])))
   (K [.one (.fp (enc_137 (⟨s,t,(memoF s t bin)⟩:ground)) 0),.one (.bool false)]))):=by kernel_rfl
abbrev e65 (r:(ground×Bool)):List PA:=[.one (.fp (enc_137 r.1) 0),.one (.bool r.2)]
def s65 (s:Sky) (t:(Sl RangeRow)) (bin:Int) (opacity:Int):(ground×Bool) :=
  (cond (s75 s)
   (cond (s62 t)
    (cond (s63 bin (0:Int) (w64 ((s.Bins.len : Int) - (1:Int))))
     ((⟨s,t,(memoF s t bin)⟩:ground),(s63 opacity (0:Int) (1000000:Int)))
     ((⟨s,t,(memoF s t bin)⟩:ground),false))
    ((⟨s,t,(memoF s t bin)⟩:ground),false))
   ((⟨s,t,(memoF s t bin)⟩:ground),false))
def p65 (s:Sky) (t:(Sl RangeRow)) (bin:Int) (opacity:Int):Bool :=
  (decide ((p75 s=true)) &&
  (cond (s75 s)
   (decide ((p62 t=true)) &&
   true)
   true))
theorem q65 (s:Sky) (t:(Sl RangeRow)) (bin:Int) (opacity:Int) (K:List PA→Prop) (hs:p65 s t bin opacity=true) (hk:K (e65 (s65 s t bin opacity))):vcFun Try.prog (G65 s t bin) ann65 65 [.agg [.int .i64 s.Parts,.sl s.Bins.len 1 (fun i=>enc_32 (s.Bins.get i)),.int .i64 s.Beta.Low,.int .i64 s.Beta.High,.int .i64 s.Alpha.Low,.int .i64 s.Alpha.High],.one (.sl t.len 3 (fun i=>enc_42 (t.get i))),.one (.int .i64 bin),.one (.int .i64 opacity)] K:=by
  refine ofEq (f65_top s t bin opacity K) ?_
  unfold p65 at hs
  unfold s65 at hk
  exact (andK hs fun hc hs => ⟨⟨isE, hc⟩, (condB_go (K := fun r => K (e65 r))
   (fun hs hk => (andK hs fun hc hs => ⟨⟨isE, hc⟩, (condP_gt (K := fun r => K (e65 r))
    (fun hk => (condP_gt (K := fun r => K (e65 r))
     (fun hk=>hk)
     (fun hk=>hk) hk))
    (fun hk=>hk) hk)⟩))
   (fun hs hk=>hk) hs hk)⟩)
theorem k65 (s:Sky) (t:Sl RangeRow) (bin opacity:Int):(s65 s t bin opacity).1.known=memoF (s65 s t bin opacity).1.Sky (s65 s t bin opacity).1.table bin:=by
  unfold s65
  generalize s75 s=b1
  generalize s62 t=b2
  cases b1
  · rfl
  · cases b2
    · rfl
    · generalize s63 bin _ _ = b3
      cases b3 <;> rfl
def ctr65 : List PA → COut
  | [.agg [.int .i64 a0_Parts,.sl a0_Bins_n a0_Bins_s a0_Bins_g,.int .i64 a0_Beta_Low,.int .i64 a0_Beta_High,.int .i64 a0_Alpha_Low,.int .i64 a0_Alpha_High],.one (.sl a1_n a1_s a1_g),.one (.int .i64 a2),.one (.int .i64 a3)]=>.det (IsE enc_32 1 a0_Bins_s a0_Bins_g∧IsE enc_42 3 a1_s a1_g∧p65 (⟨a0_Parts,(⟨a0_Bins_n,decF_32 a0_Bins_g⟩:(Sl (Sl FluxRow))),(⟨a0_Beta_Low,a0_Beta_High⟩:Span),(⟨a0_Alpha_Low,a0_Alpha_High⟩:Span)⟩:Sky) (⟨a1_n,decF_42 a1_g⟩:(Sl RangeRow)) a2 a3=true) [.one (.fp (enc_137 ((s65 (⟨a0_Parts,(⟨a0_Bins_n,decF_32 a0_Bins_g⟩:(Sl (Sl FluxRow))),(⟨a0_Beta_Low,a0_Beta_High⟩:Span),(⟨a0_Alpha_Low,a0_Alpha_High⟩:Span)⟩:Sky) (⟨a1_n,decF_42 a1_g⟩:(Sl RangeRow)) a2 a3).1)) 0),.one (.bool ((s65 (⟨a0_Parts,(⟨a0_Bins_n,decF_32 a0_Bins_g⟩:(Sl (Sl FluxRow))),(⟨a0_Beta_Low,a0_Beta_High⟩:Span),(⟨a0_Alpha_Low,a0_Alpha_High⟩:Span)⟩:Sky) (⟨a1_n,decF_42 a1_g⟩:(Sl RangeRow)) a2 a3).2))]
  | _=>.no
theorem call65:Callable Try.prog 65:=⟨_,rfl,rfl,by kernel_rfl⟩
theorem ok65:Ok Try.prog 65 ctr65:=ok_tab okT65 call65 fun args K h=>by
  unfold ctr65 at h
  split at h
  · rename_i a0_Parts a0_Bins_n a0_Bins_s a0_Bins_g a0_Beta_Low a0_Beta_High a0_Alpha_Low a0_Alpha_High a1_n a1_s a1_g a2 a3
    obtain ⟨⟨⟨rfl,a0_Bins_f,rfl⟩,⟨rfl,a1_f,rfl⟩,hs⟩,hk⟩:=h
    try rw [decF_enc_32 a0_Bins_f] at hs
    try rw [decF_enc_32 a0_Bins_f] at hk
    try rw [decF_enc_42 a1_f] at hs
    try rw [decF_enc_42 a1_f] at hk
    exact ⟨(fun _=>memoF (⟨a0_Parts,(⟨a0_Bins_n,a0_Bins_f⟩:(Sl (Sl FluxRow))),(⟨a0_Beta_Low,a0_Beta_High⟩:Span),(⟨a0_Alpha_Low,a0_Alpha_High⟩:Span)⟩:Sky) (⟨a1_n,a1_f⟩:(Sl RangeRow)) a2),(fun _=>false),ann65,q65 (⟨a0_Parts,(⟨a0_Bins_n,a0_Bins_f⟩:(Sl (Sl FluxRow))),(⟨a0_Beta_Low,a0_Beta_High⟩:Span),(⟨a0_Alpha_Low,a0_Alpha_High⟩:Span)⟩:Sky) (⟨a1_n,a1_f⟩:(Sl RangeRow)) a2 a3 K hs hk⟩
  · exact h.elim
abbrev T66:Tabs:=((Tabs.nil.addF 64 ctr64).addF 84 ctr84)
theorem okT66:TabsOk Try.prog T66:=((TabsOk.nil.addF ok64).addF ok84)
abbrev G66:Ctrs:=csm T66 (fun _ _=>[]) (fun _=>false)
def ann66:Ann:=⟨42,[(0,⟨[0,1,2,6],[6],[],[],[]⟩),(1,⟨[0,1,2,6,7,8],[6,7],[],[],[]⟩),(2,⟨[0,1,2,6,7,19],[6,7],[],[],[]⟩),(3,⟨[0,2,6,7],[6,7],[],[],[]⟩),(4,⟨[6,7],[6,7],[],[],[]⟩),(5,⟨[6],[6],[],[],[]⟩)],
  [],
  [],
  [],[]⟩
theorem f66_top (xSky : Sky) (xtable : (Sl RangeRow)) (bin : Int) (opacity : Int) (K : List PA → Prop) :
  vcFun Try.prog G66 ann66 66 [.one (.fp (enc_137 (⟨xSky,xtable,(memoF xSky xtable bin)⟩:ground)) 0),.one (.int .i64 bin),.one (.int .i64 opacity)] K =
  ((True)∧(∃ r1:Bool,True)∧∀ r1:Bool,True →
  (condP (!r1)
   (((0≤bin∧bin < (xSky.Bins.len:Int))) ∧
   ((IsE enc_42 3 3 (fun i=>enc_42 (xtable.get i))∧(p64 xtable opacity=true)) ∧
   ((IsE enc_44 3 3 (fun i=>enc_44 ((xSky.Bins.get bin.toNat).get i))∧(p84 (xSky.Bins.get bin.toNat) (s64 xtable opacity)=true)) ∧
   ((([(s84 (xSky.Bins.get bin.toNat) (s64 xtable opacity)).Low,(s84 (xSky.Bins.get bin.toNat) (s64 xtable opacity)).High]=[(s84 (xSky.Bins.get bin.toNat) (s64 xtable opacity)).Low,(s84 (xSky.Bins.get bin.toNat) (s64 xtable opacity)).High])) ∧
   (K [.agg [.int .i64 ((s84 (xSky.Bins.get bin.toNat) (s64 xtable opacity)).Low),.int .i64 ((s84 (xSky.Bins.get bin.toNat) (s64 xtable opacity)).High)]])))))
   (K [.agg [.int .i64 (match r1 with | true=>(s84 (xSky.Bins.get bin.toNat) (s64 xtable opacity)).Low | false=>0),.int .i64 (match r1 with | true=>(s84 (xSky.Bins.get bin.toNat) (s64 xtable opacity)).High | false=>0)]]))):=by kernel_rfl
abbrev R66:=Span
abbrev e66 (r:R66):List PA:=[.agg [.int .i64 r.Low,.int .i64 r.High]]
def s66 (xSky:Sky) (xtable:Sl RangeRow) (bin opacity:Int):R66:=s84 (xSky.Bins.get bin.toNat) (s64 xtable opacity)
def p66 (xSky:Sky) (xtable:Sl RangeRow) (bin opacity:Int):Bool:=decide (0≤bin∧bin < (xSky.Bins.len:Int)) && (p64 xtable opacity && p84 (xSky.Bins.get bin.toNat) (s64 xtable opacity))
theorem q66 (xSky : Sky) (xtable : Sl RangeRow) (bin opacity : Int) (K : List PA → Prop) (hs : p66 xSky xtable bin opacity = true) (hk : K (e66 (s66 xSky xtable bin opacity))) :
    vcFun Try.prog G66 ann66 66 [.one (.fp (enc_137 ⟨xSky,xtable,memoF xSky xtable bin⟩) 0),.one (.int .i64 bin),.one (.int .i64 opacity)] K:=by
  refine ofEq (f66_top xSky xtable bin opacity K) ⟨trivial,⟨true,trivial⟩,fun r1 _=>?_⟩
  unfold p66 at hs
  rw [Bool.and_eq_true,Bool.and_eq_true] at hs
  cases r1
  · exact ⟨of_decide_eq_true hs.1,⟨isE,hs.2.1⟩,⟨isE,hs.2.2⟩,rfl,hk⟩
  · exact hk
def ctr66 : List PA → COut
  | [.one (.fp [.int .i64 a0_Sky_Parts,.sl a0_Sky_Bins_n a0_Sky_Bins_s a0_Sky_Bins_g,.int .i64 a0_Sky_Beta_Low,.int .i64 a0_Sky_Beta_High,.int .i64 a0_Sky_Alpha_Low,.int .i64 a0_Sky_Alpha_High,.sl a0_table_n a0_table_s a0_table_g,.mp a0_known] 0),.one (.int .i64 a1),.one (.int .i64 a2)]=>.det (IsE enc_32 1 a0_Sky_Bins_s a0_Sky_Bins_g∧IsE enc_42 3 a0_table_s a0_table_g∧a0_known=(memoF (⟨a0_Sky_Parts,(⟨a0_Sky_Bins_n,decF_32 a0_Sky_Bins_g⟩:(Sl (Sl FluxRow))),(⟨a0_Sky_Beta_Low,a0_Sky_Beta_High⟩:Span),(⟨a0_Sky_Alpha_Low,a0_Sky_Alpha_High⟩:Span)⟩:Sky) (⟨a0_table_n,decF_42 a0_table_g⟩:(Sl RangeRow)) a1)∧p66 (⟨a0_Sky_Parts,(⟨a0_Sky_Bins_n,decF_32 a0_Sky_Bins_g⟩:(Sl (Sl FluxRow))),(⟨a0_Sky_Beta_Low,a0_Sky_Beta_High⟩:Span),(⟨a0_Sky_Alpha_Low,a0_Sky_Alpha_High⟩:Span)⟩:Sky) (⟨a0_table_n,decF_42 a0_table_g⟩:(Sl RangeRow)) a1 a2=true) [.agg [.int .i64 ((s66 (⟨a0_Sky_Parts,(⟨a0_Sky_Bins_n,decF_32 a0_Sky_Bins_g⟩:(Sl (Sl FluxRow))),(⟨a0_Sky_Beta_Low,a0_Sky_Beta_High⟩:Span),(⟨a0_Sky_Alpha_Low,a0_Sky_Alpha_High⟩:Span)⟩:Sky) (⟨a0_table_n,decF_42 a0_table_g⟩:(Sl RangeRow)) a1 a2).Low),.int .i64 ((s66 (⟨a0_Sky_Parts,(⟨a0_Sky_Bins_n,decF_32 a0_Sky_Bins_g⟩:(Sl (Sl FluxRow))),(⟨a0_Sky_Beta_Low,a0_Sky_Beta_High⟩:Span),(⟨a0_Sky_Alpha_Low,a0_Sky_Alpha_High⟩:Span)⟩:Sky) (⟨a0_table_n,decF_42 a0_table_g⟩:(Sl RangeRow)) a1 a2).High)]]
  | _=>.no
theorem call66:Callable Try.prog 66:=⟨_,rfl,rfl,by kernel_rfl⟩
theorem ok66:Ok Try.prog 66 ctr66:=ok_tab okT66 call66 fun args K h=>by
  unfold ctr66 at h
  split at h
  · rename_i a0_Sky_Parts a0_Sky_Bins_n a0_Sky_Bins_s a0_Sky_Bins_g a0_Sky_Beta_Low a0_Sky_Beta_High a0_Sky_Alpha_Low a0_Sky_Alpha_High a0_table_n a0_table_s a0_table_g a0_known a1 a2
    obtain ⟨⟨⟨rfl,a0_Sky_Bins_f,rfl⟩,⟨rfl,a0_table_f,rfl⟩,hF,hs⟩,hk⟩:=h
    try rw [decF_enc_32 a0_Sky_Bins_f] at hF
    try rw [decF_enc_32 a0_Sky_Bins_f] at hs
    try rw [decF_enc_32 a0_Sky_Bins_f] at hk
    try rw [decF_enc_42 a0_table_f] at hF
    try rw [decF_enc_42 a0_table_f] at hs
    try rw [decF_enc_42 a0_table_f] at hk
    subst hF
    exact ⟨(fun _ _=>[]),(fun _=>false),ann66,q66 (⟨a0_Sky_Parts,(⟨a0_Sky_Bins_n,a0_Sky_Bins_f⟩:(Sl (Sl FluxRow))),(⟨a0_Sky_Beta_Low,a0_Sky_Beta_High⟩:Span),(⟨a0_Sky_Alpha_Low,a0_Sky_Alpha_High⟩:Span)⟩:Sky) (⟨a0_table_n,a0_table_f⟩:(Sl RangeRow)) a1 a2 K hs hk⟩
  · exact h.elim
abbrev T20:Tabs:=((Tabs.nil.addF 65 ctr65).addF 66 ctr66)
theorem okT20:TabsOk Try.prog T20:=((TabsOk.nil.addF ok65).addF ok66)
abbrev G20:Ctrs:=csm T20 (fun _ _=>[]) (fun _=>false)
def ann20:Ann:=⟨27,[(0,⟨[1,2,3,4,8],[4,8],[],[],[]⟩),(1,⟨[2,3,8,10,11],[8],[],[],[]⟩),(2,⟨[2,3,8,10,21],[8],[],[],[]⟩),(3,⟨[8,9],[8],[],[],[]⟩),(4,⟨[8,9],[8],[],[],[]⟩)],
  [],
  [],
  [],[]⟩
theorem f20_top (s : Sky) (t : (Sl RangeRow)) (bin : Int) (opacity : Int) (K : List PA → Prop) :
  vcFun Try.prog G20 ann20 20 [.agg [.int .i64 s.Parts,.sl s.Bins.len 1 (fun i=>enc_32 (s.Bins.get i)),.int .i64 s.Beta.Low,.int .i64 s.Beta.High,.int .i64 s.Alpha.Low,.int .i64 s.Alpha.High],.one (.sl t.len 3 (fun i=>enc_42 (t.get i))),.one (.int .i64 bin),.one (.int .i64 opacity)] K =
  ((IsE enc_32 1 1 (fun i=>enc_32 (s.Bins.get i))∧IsE enc_42 3 3 (fun i=>enc_42 (t.get i))∧(p65 s t bin opacity=true)) ∧
  (condP (!((s65 s t bin opacity).2))
   (K [.agg [.int .i64 (0:Int),.int .i64 (0:Int)],.one (.int .i64 (2:Int))])
   ((IsE enc_32 1 1 (fun i=>enc_32 (((s65 s t bin opacity).1).Sky.Bins.get i))∧IsE enc_42 3 3 (fun i=>enc_42 (((s65 s t bin opacity).1).table.get i))∧((s65 s t bin opacity).1).known=(memoF (((s65 s t bin opacity).1).Sky) (((s65 s t bin opacity).1).table) bin)∧(p66 (((s65 s t bin opacity).1).Sky) (((s65 s t bin opacity).1).table) bin opacity=true)) ∧
   (K [.agg [.int .i64 ((s66 (((s65 s t bin opacity).1).Sky) (((s65 s t bin opacity).1).table) bin opacity).Low),.int .i64 ((s66 (((s65 s t bin opacity).1).Sky) (((s65 s t bin opacity).1).table) bin opacity).High)],.one (.int .i64 (0:Int))])))):=by kernel_rfl
abbrev e20 (r:(Span×Int)):List PA:=[.agg [.int .i64 r.1.Low,.int .i64 r.1.High],.one (.int .i64 r.2)]
def s20 (s:Sky) (t:(Sl RangeRow)) (bin:Int) (opacity:Int):(Span×Int) :=
  (cond (!((s65 s t bin opacity).2))
   ((⟨(0:Int),(0:Int)⟩:Span),(2:Int))
   ((s66 (((s65 s t bin opacity).1).Sky) (((s65 s t bin opacity).1).table) bin opacity),(0:Int)))
def p20 (s:Sky) (t:(Sl RangeRow)) (bin:Int) (opacity:Int):Bool :=
  (decide ((p65 s t bin opacity=true)) &&
  (cond (!((s65 s t bin opacity).2))
   true
   (decide ((p66 (((s65 s t bin opacity).1).Sky) (((s65 s t bin opacity).1).table) bin opacity=true)) &&
   true)))
theorem q20 (s:Sky) (t:(Sl RangeRow)) (bin:Int) (opacity:Int) (K:List PA→Prop) (hs:p20 s t bin opacity=true) (hk:K (e20 (s20 s t bin opacity))):vcFun Try.prog G20 ann20 20 [.agg [.int .i64 s.Parts,.sl s.Bins.len 1 (fun i=>enc_32 (s.Bins.get i)),.int .i64 s.Beta.Low,.int .i64 s.Beta.High,.int .i64 s.Alpha.Low,.int .i64 s.Alpha.High],.one (.sl t.len 3 (fun i=>enc_42 (t.get i))),.one (.int .i64 bin),.one (.int .i64 opacity)] K:=by
  refine ofEq (f20_top s t bin opacity K) ?_
  unfold p20 at hs
  unfold s20 at hk
  exact (andK hs fun hc hs => ⟨⟨isE, isE, hc⟩, (condB_go (K := fun r => K (e20 r))
   (fun hs hk=>hk)
   (fun hs hk=>(andK hs fun hc hs=>⟨⟨isE,isE,(k65 s t bin opacity),hc⟩,hk⟩)) hs hk)⟩)
def ctr20 : List PA → COut
  | [.agg [.int .i64 a0_Parts,.sl a0_Bins_n a0_Bins_s a0_Bins_g,.int .i64 a0_Beta_Low,.int .i64 a0_Beta_High,.int .i64 a0_Alpha_Low,.int .i64 a0_Alpha_High],.one (.sl a1_n a1_s a1_g),.one (.int .i64 a2),.one (.int .i64 a3)]=>.det (IsE enc_32 1 a0_Bins_s a0_Bins_g∧IsE enc_42 3 a1_s a1_g∧p20 (⟨a0_Parts,(⟨a0_Bins_n,decF_32 a0_Bins_g⟩:(Sl (Sl FluxRow))),(⟨a0_Beta_Low,a0_Beta_High⟩:Span),(⟨a0_Alpha_Low,a0_Alpha_High⟩:Span)⟩:Sky) (⟨a1_n,decF_42 a1_g⟩:(Sl RangeRow)) a2 a3=true) [.agg [.int .i64 (((s20 (⟨a0_Parts,(⟨a0_Bins_n,decF_32 a0_Bins_g⟩:(Sl (Sl FluxRow))),(⟨a0_Beta_Low,a0_Beta_High⟩:Span),(⟨a0_Alpha_Low,a0_Alpha_High⟩:Span)⟩:Sky) (⟨a1_n,decF_42 a1_g⟩:(Sl RangeRow)) a2 a3).1).Low),.int .i64 (((s20 (⟨a0_Parts,(⟨a0_Bins_n,decF_32 a0_Bins_g⟩:(Sl (Sl FluxRow))),(⟨a0_Beta_Low,a0_Beta_High⟩:Span),(⟨a0_Alpha_Low,a0_Alpha_High⟩:Span)⟩:Sky) (⟨a1_n,decF_42 a1_g⟩:(Sl RangeRow)) a2 a3).1).High)],.one (.int .i64 ((s20 (⟨a0_Parts,(⟨a0_Bins_n,decF_32 a0_Bins_g⟩:(Sl (Sl FluxRow))),(⟨a0_Beta_Low,a0_Beta_High⟩:Span),(⟨a0_Alpha_Low,a0_Alpha_High⟩:Span)⟩:Sky) (⟨a1_n,decF_42 a1_g⟩:(Sl RangeRow)) a2 a3).2))]
  | _=>.no
theorem call20:Callable Try.prog 20:=⟨_,rfl,rfl,by kernel_rfl⟩
theorem ok20:Ok Try.prog 20 ctr20:=ok_tab okT20 call20 fun args K h=>by
  unfold ctr20 at h
  split at h
  · rename_i a0_Parts a0_Bins_n a0_Bins_s a0_Bins_g a0_Beta_Low a0_Beta_High a0_Alpha_Low a0_Alpha_High a1_n a1_s a1_g a2 a3
    obtain ⟨⟨⟨rfl,a0_Bins_f,rfl⟩,⟨rfl,a1_f,rfl⟩,hs⟩,hk⟩:=h
    try rw [decF_enc_32 a0_Bins_f] at hs
    try rw [decF_enc_32 a0_Bins_f] at hk
    try rw [decF_enc_42 a1_f] at hs
    try rw [decF_enc_42 a1_f] at hk
    exact ⟨(fun _ _=>[]),(fun _=>false),ann20,q20 (⟨a0_Parts,(⟨a0_Bins_n,a0_Bins_f⟩:(Sl (Sl FluxRow))),(⟨a0_Beta_Low,a0_Beta_High⟩:Span),(⟨a0_Alpha_Low,a0_Alpha_High⟩:Span)⟩:Sky) (⟨a1_n,a1_f⟩:(Sl RangeRow)) a2 a3 K hs hk⟩
  · exact h.elim
abbrev T76:Tabs:=(Tabs.nil.addF 69 ctr69)
theorem okT76:TabsOk Try.prog T76:=(TabsOk.nil.addF ok69)
abbrev G76:Ctrs:=csm T76 (fun _ _=>[]) (fun _=>false)
def ann76:Ann:=⟨11,[(0,⟨[1],[1],[],[],[]⟩),(1,⟨[2],[],[],[],[]⟩)],
  [],
  [],
  [],[]⟩
theorem f76_top (w : Weather) (K : List PA → Prop) :
  vcFun Try.prog G76 ann76 76 [.agg [.int .i64 w.Pressure.Low,.int .i64 w.Pressure.High,.int .i64 w.Warm.Low,.int .i64 w.Warm.High]] K =
  (condP (s69 w.Pressure (-1000:Int) (1000:Int))
   (K [.one (.bool (s69 w.Warm (-1000:Int) (1000:Int)))])
   (K [.one (.bool false)])):=by kernel_rfl
abbrev e76 (r:Bool):List PA:=[.one (.bool r)]
def s76 (w:Weather):Bool :=
  (cond (s69 w.Pressure (-1000:Int) (1000:Int))
   (s69 w.Warm (-1000:Int) (1000:Int))
   false)
theorem q76 (w:Weather) (K:List PA→Prop) (hk:K (e76 (s76 w))):vcFun Try.prog G76 ann76 76 [.agg [.int .i64 w.Pressure.Low,.int .i64 w.Pressure.High,.int .i64 w.Warm.Low,.int .i64 w.Warm.High]] K:=by
  refine ofEq (f76_top w K) ?_
  unfold s76 at hk
  exact (condP_gt (K := fun r => K (e76 r))
   (fun hk=>hk)
   (fun hk=>hk) hk)
def ctr76 : List PA → COut
  | [.agg [.int .i64 a0_Pressure_Low,.int .i64 a0_Pressure_High,.int .i64 a0_Warm_Low,.int .i64 a0_Warm_High]]=>.tot [.one (.bool (s76 (⟨(⟨a0_Pressure_Low,a0_Pressure_High⟩:Span),(⟨a0_Warm_Low,a0_Warm_High⟩:Span)⟩:Weather)))]
  | _=>.no
theorem call76:Callable Try.prog 76:=⟨_,rfl,rfl,by kernel_rfl⟩
theorem ok76:Ok Try.prog 76 ctr76:=ok_tab okT76 call76 fun args K h=>by
  unfold ctr76 at h
  split at h
  · rename_i a0_Pressure_Low a0_Pressure_High a0_Warm_Low a0_Warm_High
    have hk:=h
    exact ⟨(fun _ _=>[]),(fun _=>false),ann76,q76 (⟨(⟨a0_Pressure_Low,a0_Pressure_High⟩:Span),(⟨a0_Warm_Low,a0_Warm_High⟩:Span)⟩:Weather) K hk⟩
  · exact h.elim
abbrev T67:Tabs:=((Tabs.nil.addF 63 ctr63).addF 76 ctr76)
theorem okT67:TabsOk Try.prog T67:=((TabsOk.nil.addF ok63).addF ok76)
abbrev G67:Ctrs:=csm T67 (fun _ _=>[]) (fun _=>false)
def ann67:Ann:=⟨25,[(0,⟨[0],[],[],[],[]⟩),(1,⟨[0,5,6,7],[],[],[],[]⟩),(2,⟨[0,5,6,7,8],[],[],[],[]⟩),(3,⟨[0,4,5,6,7],[4],[],[],[]⟩),(4,⟨[0,5,6,7,20],[],[],[],[]⟩),(5,⟨[2],[],[],[],[]⟩),(6,⟨[0,5,6,7],[],[],[],[]⟩),(7,⟨[2],[],[],[],[]⟩)],
  [(2,⟨[0,5,6,7],[],[],[],[]⟩)],
  [(5,⟨[0,5,6,7,20],[],[],[],[]⟩)],
  [],[]⟩
def f67_g0 (l_a0:(Sl Spell)) (t7v0:Int):St:=⟨[(0,.one (.c (.p (.sl l_a0.len 5 (fun i=>enc_56 (l_a0.get i)))))),(5,.one (.c (.p (.sl l_a0.len 5 (fun i=>enc_56 (l_a0.get i)))))),(6,.one (.c (.p (.int .i64 (l_a0.len:Int))))),(7,.one (.c (.p (.int .i64 t7v0))))],[],[]⟩
def f67_at0 (K:List PA→Prop) (l_a0:(Sl Spell)) (t7v0:Int):Prop:=vc Try.prog G67 ann67 (cdF Try.f67 [1,0,1,0]) (blockK 0 (sqK Try.prog G67 ann67 (cdF Try.f67 [1,1]) (bodyK Try.prog Try.f67 K))) (f67_g0 l_a0 t7v0)
def f67_g1 (l_a0:(Sl Spell)) (t7v1:Int) (t20v1:Bool):St:=⟨[(0,.one (.c (.p (.sl l_a0.len 5 (fun i=>enc_56 (l_a0.get i)))))),(5,.one (.c (.p (.sl l_a0.len 5 (fun i=>enc_56 (l_a0.get i)))))),(6,.one (.c (.p (.int .i64 (l_a0.len:Int))))),(7,.one (.c (.p (.int .i64 t7v1)))),(20,.one (.c (.p (.bool t20v1))))],[],[]⟩
def f67_at1 (K:List PA→Prop) (X0:St→Prop) (l_a0:(Sl Spell)) (t7v1:Int) (t20v1:Bool):Prop:=vc Try.prog G67 ann67 (cdF Try.f67 [1,0,1,0,0,1,1,0,0,1,1]) (blockK 1 (sqK Try.prog G67 ann67 (cdF Try.f67 [1,0,1,0,0,1,1,1]) (loopK Try.prog ann67 2 X0 (blockK 0 (sqK Try.prog G67 ann67 (cdF Try.f67 [1,1]) (bodyK Try.prog Try.f67 K)))))) (f67_g1 l_a0 t7v1 t20v1)
theorem f67_top (l_a0 : (Sl Spell)) (K : List PA → Prop) :
  vcFun Try.prog G67 ann67 67 [.one (.sl l_a0.len 5 (fun i=>enc_56 (l_a0.get i)))] K =
  (f67_at0 K l_a0 (0:Int)):=by kernel_rfl
def f67_step0 (K:List PA→Prop) (X0:St→Prop) (l_a0:(Sl Spell)) (t7v0:Int):Prop :=
  (condP (decide (t7v0 < (l_a0.len : Int)))
   (((0≤t7v0∧t7v0 < (l_a0.len:Int))) ∧
   (condP (!(s63 ((l_a0.get t7v0.toNat).Slots) (1:Int) (1000000:Int)))
    (f67_at1 K X0 l_a0 t7v0 true)
    (f67_at1 K X0 l_a0 t7v0 (!(s76 ((l_a0.get t7v0.toNat).Weather))))))
   (K [.one (.bool (s63 (l_a0.len:Int) (1:Int) (50:Int)))]))
theorem f67_stepeq0 (K : List PA → Prop) (X0 : St → Prop) (l_a0 : (Sl Spell)) (t7v0 : Int) :
  vc Try.prog G67 ann67 (cd (cdF Try.f67 [1,0,1,0]) [0]) (loopK Try.prog ann67 2 X0 (blockK 0 (sqK Try.prog G67 ann67 (cdF Try.f67 [1,1]) (bodyK Try.prog Try.f67 K)))) (f67_g0 l_a0 t7v0) =
  f67_step0 K X0 l_a0 t7v0:=by kernel_rfl
theorem f67_loop0 (K : List PA → Prop) (l_a0 : (Sl Spell)) (t7v0 : Int)
  (h:∀ X0:St→Prop,(∀ (t7v0:Int),f67_step0 K X0 l_a0 t7v0→X0 (f67_g0 l_a0 t7v0))→X0 (f67_g0 l_a0 t7v0)) :
  f67_at0 K l_a0 t7v0:=by
  have e:f67_at0 K l_a0 t7v0=(∀ X:St→Prop,(∀ s,vc Try.prog G67 ann67 (cd (cdF Try.f67 [1,0,1,0]) [0]) (loopK Try.prog ann67 2 X (blockK 0 (sqK Try.prog G67 ann67 (cdF Try.f67 [1,1]) (bodyK Try.prog Try.f67 K)))) s→X s)→X (f67_g0 l_a0 t7v0)):=by kernel_rfl
  refine ofEq e ?_
  intro X hX
  refine h X ?_
  intro t7v0 hs
  refine hX _ ?_
  have e2:=f67_stepeq0 K X l_a0 t7v0
  rw [e2]
  exact hs
theorem f67_eq1 (K : List PA → Prop) (X0 : St → Prop) (l_a0 : (Sl Spell)) (t7v1 : Int) (t20v1 : Bool) :
  f67_at1 K X0 l_a0 t7v1 t20v1 =
  (condP t20v1
   (K [.one (.bool false)])
   (X0 (f67_g0 l_a0 (w64 (t7v1+(1:Int)))))):=by kernel_rfl
abbrev e67 (r:Bool):List PA:=[.one (.bool r)]
attribute [irreducible] f67_at0 f67_at1
def s67_at1 (S0:Int→Bool) (l_a0:(Sl Spell)) (t7v1:Int) (t20v1:Bool):Bool :=
  (cond t20v1
   false
   (S0 (w64 (t7v1+(1:Int)))))
def p67_at1 (P0:Int→Bool) (l_a0:(Sl Spell)) (t7v1:Int) (t20v1:Bool):Bool :=
  (cond t20v1
   true
   (P0 (w64 (t7v1+(1:Int)))))
theorem q67_at1 (K : List PA → Prop) (l_a0 : (Sl Spell))
  (X0:St→Prop) (P0:Int→Bool) (S0:Int→Bool)
  (hX0:∀ (t7v0:Int),P0 t7v0=true→K (e67 (S0 t7v0))→X0 (f67_g0 l_a0 t7v0)) (t7v1:Int) (t20v1:Bool) (hs:p67_at1 P0 l_a0 t7v1 t20v1=true) (hk:K (e67 (s67_at1 S0 l_a0 t7v1 t20v1))):f67_at1 K X0 l_a0 t7v1 t20v1:=by
  refine ofEq (f67_eq1 K X0 l_a0 t7v1 t20v1) ?_
  unfold p67_at1 at hs
  unfold s67_at1 at hk
  exact (condB_go (K := fun r => K (e67 r))
   (fun hs hk=>hk)
   (fun hs hk=>(hX0 (w64 (t7v1+(1:Int))) hs hk)) hs hk)
def s67_st0 (l_a0:(Sl Spell)) (S0:Int→Bool) (t7v0:Int):Bool :=
  (cond (decide (t7v0 < (l_a0.len : Int)))
   (cond (!(s63 ((l_a0.get t7v0.toNat).Slots) (1:Int) (1000000:Int)))
    (s67_at1 S0 l_a0 t7v0 true)
    (s67_at1 S0 l_a0 t7v0 (!(s76 ((l_a0.get t7v0.toNat).Weather)))))
   (s63 (l_a0.len:Int) (1:Int) (50:Int)))
def p67_st0 (l_a0:(Sl Spell)) (P0:Int→Bool) (t7v0:Int):Bool :=
  (cond (decide (t7v0 < (l_a0.len : Int)))
   (decide ((0≤t7v0∧t7v0 < (l_a0.len:Int))) &&
   (cond (!(s63 ((l_a0.get t7v0.toNat).Slots) (1:Int) (1000000:Int)))
    (p67_at1 P0 l_a0 t7v0 true)
    (p67_at1 P0 l_a0 t7v0 (!(s76 ((l_a0.get t7v0.toNat).Weather))))))
   true)
def s67_lp0 (l_a0 : (Sl Spell)) : Nat → Int → Bool
  | 0=>fun _=>default
  | k+1=>s67_st0 l_a0 (s67_lp0 l_a0 k)
def p67_lp0 (l_a0 : (Sl Spell)) : Nat → Int → Bool
  | 0=>fun _=>false
  | k+1=>p67_st0 l_a0 (p67_lp0 l_a0 k)
def s67_at0 (l_a0:(Sl Spell)) (t7v0:Int):Bool:=s67_lp0 l_a0 Fuel t7v0
def p67_at0 (l_a0:(Sl Spell)) (t7v0:Int):Bool:=p67_lp0 l_a0 Fuel t7v0
theorem q67_at0 (K:List PA→Prop) (l_a0:(Sl Spell)) (t7v0:Int) (hs:p67_at0 l_a0 t7v0=true) (hk:K (e67 (s67_at0 l_a0 t7v0))):f67_at0 K l_a0 t7v0:=by
  refine f67_loop0 K l_a0 t7v0 ?_
  intro X0 hstep
  have key:∀ (k:Nat) (t7v0:Int),p67_lp0 l_a0 k t7v0=true→K (e67 (s67_lp0 l_a0 k t7v0))→X0 (f67_g0 l_a0 t7v0):=by
    intro k
    induction k with
    | zero=>intro t7v0 hs;exact absurd hs Bool.false_ne_true
    | succ k ih =>
      intro t7v0 hs hk
      refine hstep t7v0 ?_
      have hs:p67_st0 l_a0 (p67_lp0 l_a0 k) t7v0=true:=hs
      have hk:K (e67 (s67_st0 l_a0 (s67_lp0 l_a0 k) t7v0)):=hk
      unfold p67_st0 at hs
      unfold s67_st0 at hk
      generalize s67_lp0 l_a0 k=S0 at hk ih
      generalize p67_lp0 l_a0 k=P0 at hs ih
      have hX0:=ih
      exact (condB_go (K := fun r => K (e67 r))
       (fun hs hk => (andK hs fun hc hs => ⟨hc, (condB_go (K := fun r => K (e67 r))
        (fun hs hk=>(q67_at1 K l_a0 X0 P0 S0 hX0 t7v0 true hs hk))
        (fun hs hk=>(q67_at1 K l_a0 X0 P0 S0 hX0 t7v0 (!(s76 ((l_a0.get t7v0.toNat).Weather))) hs hk)) hs hk)⟩))
       (fun hs hk=>hk) hs hk)
  exact key _ t7v0 hs hk
def s67 (l_a0:(Sl Spell)):Bool :=
  (s67_at0 l_a0 (0:Int))
def p67 (l_a0:(Sl Spell)):Bool :=
  (p67_at0 l_a0 (0:Int))
theorem q67 (l_a0:(Sl Spell)) (K:List PA→Prop) (hs:p67 l_a0=true) (hk:K (e67 (s67 l_a0))):vcFun Try.prog G67 ann67 67 [.one (.sl l_a0.len 5 (fun i=>enc_56 (l_a0.get i)))] K:=by
  refine ofEq (f67_top l_a0 K) ?_
  unfold p67 at hs
  unfold s67 at hk
  exact (q67_at0 K l_a0 (0:Int) hs hk)
def ctr67 : List PA → COut
  | [.one (.sl a0_n a0_s a0_g)]=>.det (IsE enc_56 5 a0_s a0_g∧p67 (⟨a0_n,decF_56 a0_g⟩:(Sl Spell))=true) [.one (.bool (s67 (⟨a0_n,decF_56 a0_g⟩:(Sl Spell))))]
  | _=>.no
theorem call67:Callable Try.prog 67:=⟨_,rfl,rfl,by kernel_rfl⟩
theorem ok67:Ok Try.prog 67 ctr67:=ok_tab okT67 call67 fun args K h=>by
  unfold ctr67 at h
  split at h
  · rename_i a0_n a0_s a0_g
    obtain ⟨⟨⟨rfl,a0_f,rfl⟩,hs⟩,hk⟩:=h
    try rw [decF_enc_56 a0_f] at hs
    try rw [decF_enc_56 a0_f] at hk
    exact ⟨(fun _ _=>[]),(fun _=>false),ann67,q67 (⟨a0_n,a0_f⟩:(Sl Spell)) K hs hk⟩
  · exact h.elim
end Go.Proofs
