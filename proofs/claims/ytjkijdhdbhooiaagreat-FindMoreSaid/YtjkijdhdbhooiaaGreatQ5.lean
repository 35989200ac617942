/- Part 5 of what the proof rests on: a machine that runs functions of the program on pure values, proved sound; the functions that the law reaches, what they compute, and plain laws of that. -/
import Derived.Test.YtjkijdhdbhooiaaGreatQ4
import Derived.Shelf.SlSortCmp.NoneTotal
import Derived.Shelf.SlicesE.Clone
import Derived.Shelf.SlLaysF0
import Derived.Test.YtjkijdhdbhooiaaGreatProg
import Derived.Shelf.SlLaysE0
set_option linter.all false
noncomputable section
namespace Go.Proofs
open Go Go.Pm
set_option maxRecDepth 100000
theorem zKn {E:ZL} : yX (zjg E):=λ x a b=>ae.ext λ k=>by rw[zHJ,kc k,bn];congr 1;simp only[inB];grind
def CO (g:aC):Bool:=inB g.Z 0 100000 && (decide (g.Low >= -1000000) && (decide (g.Low<=g.High) && decide (g.High<=1000000)))
def fE (g:aC):Prop:=(0<=g.Z/\g.Z<=100000)/\-1000000<=g.Low/\g.Low<=g.High/\g.High<=1000000
def dm (l:Sl aC):Prop:=(∀ i,i < l.len->fE (l.get i))/\1<=l.len/\l.len<=24
theorem ze7 {g:aC} : CO g=true↔fE g:=by
 simp only[CO,inB,fM,decide_eq_true_eq,fE,ge_iff_le]
def xM (a b:aC):List straight:=if a.Z=b.Z then [] else [zV a.Z a.Low b.Z b.Low,zV a.Z a.Low b.Z b.High,zV a.Z a.High b.Z b.Low,zV a.Z a.High b.Z b.High]
def zH (g : Sl aC) (i : Nat) : Nat → Nat → List straight
  | 0,_=>[]
  | m+1,k=>xM (g.get i) (g.get k) ++ zH g i m (k+1)
def Js (g : Sl aC) : Nat → Nat → List straight
  | 0,_=>[]
  | m+1,i=>zH g i (g.len - (i+1)) (i+1) ++ Js g m (i+1)
def cst (g:Sl aC):List straight:=Js g g.len 0
theorem mr {g:aC}(h:fE g) : -1000000<=g.Low/\g.Low<=1000000:=⟨h.2.1,by have:=h.2;omega⟩
theorem oC {g:aC}(h:fE g) : -1000000<=g.High/\g.High<=1000000:=⟨by have:=h.2;omega,h.2.2.2⟩
abbrev zqN (C:Int×Int×Int×Int->ae straight):Prop:=∀ z p y q,(0<=z/\z<=100000)->(0<=y/\y<=100000)->(-1000000<=p/\p<=1000000)->(-1000000<=q/\q<=1000000)->C (z,p,y,q)=.ok (zV z p y q)
theorem zKo {E:zam} : zqN (zj2 E):=λ z p y q hz hy hp hq=>ae.ext λ k=>by
 have b1:=mJ hp.1 hp.2 hy.1 hy.2;have b2:=mJ hq.1 hq.2 hz.1 hz.2;rw[e229,bn,bg (x:=p * y) (by omega) (by omega),bg (x:=q * z) (by omega) (by omega)];unfold zV;by_cases h:z > y
 ·rw[decide_eq_true h,cond_true,if_pos h,bg (x:=p - q) (by omega) (by omega),bg (x:=z - y) (by omega) (by omega),bg (x:=q * z - p * y) (by omega) (by omega)]
 ·rw[decide_eq_false h,cond_false,if_neg h,bg (x:=q - p) (by omega) (by omega),bg (x:=y - z) (by omega) (by omega),bg (x:=p * y - q * z) (by omega) (by omega)]
abbrev zqO (I:Pt list->ae (List straight)):Prop:=∀ l:Pt list,dm l.v.bI->I l=.ok (cst l.v.bI)
theorem zKp {E:NH}(N:Big E.N) (zal:zqN E.c229):zqO (zqH E):=λ l G=>by
 have hl:=G.2.2;refine yY ?_ (λ _=>rfl) (λ _=>rfl);rw[e228]
 have inn:∀ (n i:Nat) (R:List (List PA)) (sl:Sl aC),i < l.v.bI.len->sl.len=l.v.bI.len - (i+1)->(∀ x,sl.get x=l.v.bI.get (x+(i+1)))->He E n l (aO ((i:Int)+1))=some R ->
   ∀ (m j n1:Nat),j+m=sl.len->m < n1->Hf E n n1 l (i:Int) sl (sl.len:Int) (j:Int) (l.v.bI.get i)=some ((zH l.v.bI i m (j+(i+1))).map dw.enc ++ R):=by
  intro n i R sl hi hs hg hR m
  induction m with
  | zero =>
   intro j n1 hj hn;obtain⟨n1,rfl⟩:∃ n',n1=n'+1:=⟨n1 - 1,by omega⟩;rw[zeW,decide_eq_false (by omega),cond_false,hR];rfl
  | succ m ih =>
   intro j n1 hj hn;obtain⟨n1,rfl⟩:∃ n',n1=n'+1:=⟨n1 - 1,by omega⟩;have gi:=G.1 i hi;have gk:=G.1 (j+(i+1)) (by omega);have i1:=ih (j+1) n1 (by omega) (by omega);rw[zeW,decide_eq_true (by omega),cond_true,bD (by omega),bT (by omega),i1,Int.toNat_natCast,hg];show _=some (List.map dw.enc (xM (l.v.bI.get i) (l.v.bI.get (j+(i+1))) ++ zH l.v.bI i m (j+(i+1)+1)) ++ R);unfold xM;by_cases hz:(l.v.bI.get i).Z=(l.v.bI.get (j+(i+1))).Z
   ·rw[if_pos hz,show ((l.v.bI.get i).Z == (l.v.bI.get (j+(i+1))).Z)=true by simpa using hz,cond_true,show j+1+(i+1)=j+(i+1)+1 by omega];rfl
   ·rw[if_neg hz,show ((l.v.bI.get i).Z == (l.v.bI.get (j+(i+1))).Z)=false by simpa using hz,cond_false,zal _ _ _ _ gi.1 gk.1 (mr gi) (mr gk),zal _ _ _ _ gi.1 gk.1 (mr gi) (oC gk),zal _ _ _ _ gi.1 gk.1 (oC gi) (mr gk),zal _ _ _ _ gi.1 gk.1 (oC gi) (oC gk),bn,bn,bn,bn,
     show j+1+(i+1)=j+(i+1)+1 by omega];rfl
 have key:∀ (m i n:Nat),i+m=l.v.bI.len->m < n->He E n l (i:Int)=some ((Js l.v.bI m i).map dw.enc):=by
  intro m
  induction m with
  | zero =>
   intro i n hi hn;obtain⟨n,rfl⟩:∃ n',n=n'+1:=⟨n - 1,by omega⟩;rw[zeV,decide_eq_false (by omega)];rfl
  | succ m ih =>
   intro i n hi hn;obtain⟨n,rfl⟩:∃ n',n=n'+1:=⟨n - 1,by omega⟩;have i1:=ih (i+1) n (by omega) (by omega);rw[zeV,decide_eq_true (by omega),cond_true,bD (by omega),bT (by omega),bD (by omega),Int.toNat_natCast];have hs:((l.v.bI.len:Int) - ((i+1:Nat):Int)).toNat=l.v.bI.len - (i+1):=by omega
   have:=inn n i _ ⟨((l.v.bI.len:Int) - ((i+1:Nat):Int)).toNat,Jn l.v.bI.get (((i+1:Nat):Int)).toNat⟩ (by omega) hs (λ x=>by show l.v.bI.get (x+(((i+1:Nat):Int)).toNat)=_;rw[Int.toNat_natCast]) (by rw[bT (by omega)];exact i1) (l.v.bI.len - (i+1)) 0 E.N (by show 0+(l.v.bI.len - (i+1))=((l.v.bI.len:Int) - ((i+1:Nat):Int)).toNat;omega) (by have:=N;omega);rw[Nat.zero_add] at this;refine this.trans ?_;show _=some (((zH l.v.bI i (l.v.bI.len - (i+1)) (i+1)) ++ Js l.v.bI m (i+1)).map dw.enc);rw[List.map_append]
 exact key l.v.bI.len 0 E.N (by omega) (by have:=N;omega)
abbrev zqP (C:aC->ae Bool):Prop:=∀ g,C g=.ok (CO g)
theorem zKq {E:ZK}(xI:yX E.c157):zqP (zjf E):=λ g=>ae.ext λ k=>by
 rw[zHF,xI,bn,bn];unfold CO;cases inB g.Z 0 100000 <;> cases decide (g.Low >= -1000000) <;> cases decide (g.Low<=g.High) <;> rfl
def sU (l:Sl aC):Bool:=dR (λ i=>CO (l.get i)) l.len && inB (l.len:Int) 1 24
theorem nz {l:Sl aC} : sU l=true↔dm l:=by
 simp only[sU,fM,dC,inB,decide_eq_true_eq,ze7,dm];exact and_congr Iff.rfl (by omega)
abbrev zkf (C:Sl aC->ae Bool):Prop:=∀ l:Sl aC,l.len<=1000->C l=.ok (sU l)
theorem zKr {E:UL}(N:Big E.N) (zpS:zqP E.c156) (xI:yX E.c157):zkf (ziI E):=λ l hl=>ae.ext λ k=>by
 rw[e109,bn,loopA (L:=λ n i=>Nl E n l i k) (p:=λ i=>CO (l.get i)) (m:=l.len) (fin:=k (inB (l.len:Int) 1 24)) (stop:=k false) (by omega) (λ n i hi=>?_) (λ n=>?_) _ (by have:=N;omega)]
 ·unfold sU;cases dR (λ i=>CO (l.get i)) l.len <;> rfl
 ·rw [zdT, decide_eq_true (by omega), cond_true, bD (by omega), zpS, bn, Int.toNat_natCast];cases CO (l.get i) <;> rfl
 ·rw[zdT,decide_eq_false (by omega),cond_false,xI,bn]
/-! The first one of a list that is as wanted. -/
def fst (p : Nat → Bool) : Nat → Nat → Int
  | 0,_=>-1
  | m+1,i=>cond (p i) (i:Int) (fst p m (i+1))
theorem XG (p:Nat->Bool):∀ m i,(0<=fst p m i↔∃ j,i<=j/\j < i+m/\p j=true):=by
 intro m
 induction m with
 | zero=>intro i;exact⟨λ h=>by simp[fst] at h,λ ⟨j,h1,h2,_⟩=>by omega⟩
 | succ m ih =>
  intro i;simp only[fst];cases h:p i with
  | true=>exact⟨λ _=>⟨i,iZ _,by omega,h⟩,λ _=>by simp⟩
  | false =>
   rw[cond_false,ih];exact⟨λ ⟨j,h1,h2,h3⟩=>⟨j,by omega,by omega,h3⟩,λ ⟨j,h1,h2,h3⟩=>⟨j,by
    have:j ≠ i:=λ e=>by rw[e,h] at h3;cases h3
    omega,by omega,h3⟩⟩
theorem sV (p:Nat->Bool) (m:Nat):decide (fst p m 0 >= 0) = !dR (λ i=>!p i) m:=by
 rw[Bool.eq_iff_iff];simp only[decide_eq_true_eq,ge_iff_le,XG,Bool.not_eq_true',<- Bool.not_eq_true,dC];constructor
 ·rintro ⟨j, _, h2, h3⟩ h;have:=h j (by omega);rw[h3] at this;exact absurd rfl this
 ·intro h;apply Classical.byContradiction;intro hc;exact h λ i hi hp=>hc ⟨i,Nat.zero_le _,by omega,hp⟩
theorem CQ {A : Type} {L : Nat → Int → Option A} {p : Nat → Bool} {m : Nat} {k : Int → Option A} (hm : m < 4611686018427387904)
    (hL:∀ n i,i < m->L (n+1) (i:Int)=cond (p i) (k (i:Int)) (L n (aO ((i:Int)+1)))) (hE:∀ n,L (n+1) (m:Int)=k (-1)):∀ n,m < n->L n 0=k (fst p m 0):=by
  have key:∀ (d i n:Nat),i+d=m->d < n->L n (i:Int)=k (fst p d i):=by
    intro d
    induction d with
    | zero =>
      intro i n hi hn;obtain⟨n,rfl⟩:∃ n',n=n'+1:=⟨n - 1,by omega⟩;have e:i=m:=by omega
      subst e;exact hE n
    | succ d ih =>
      intro i n hi hn;obtain⟨n,rfl⟩:∃ n',n=n'+1:=⟨n - 1,by omega⟩;rw[hL n i (by omega),bT (by omega),ih (i+1) n (by omega) (by omega)];simp only[fst];cases p i <;> rfl
  intro n hn;exact key m 0 n (by omega) hn
def KO (x:straight) (g:aC):Bool:=inB (aO (x.start+aO (x.bK * g.Z))) (aO (g.Low * x.den)) (aO (g.High * x.den))
abbrev zqQ (C:straight×aC->ae Bool):Prop:=∀ x g,C (x,g)=.ok (KO x g)
theorem zKs {E:zao}(xI:yX E.c157):zqQ (zj4 E):=λ x g=>ae.ext λ k=>by rw[e231,xI,bn,bn];rfl
abbrev zqR (C:aC×Pt straight->ae Bool):Prop:=∀ g (x:Pt straight),C (g,x)=.ok (!KO x.v g)
theorem zKt {E:zan}(zqI:zqQ E.zlD):zqR (zj3 E):=λ g x=>ae.ext λ k=>by rw[e230,zqI,bn,bn]
def Q8 (x:straight) (g:aC):Bool:=aO (x.start+aO (x.bK * g.Z)) == aO (g.Low * x.den)
abbrev zqS (C:aC×Pt straight->ae Bool):Prop:=∀ g (x:Pt straight),C (g,x)=.ok (Q8 x.v g)
theorem zKu {E:zax} : zqS (zke E):=λ g x=>ae.ext λ k=>by rw[e257,bn];rfl
abbrev zqT (C:aC×Pt list->ae Bool):Prop:=∀ g (x:Pt list),0 < x.v.bI.len->C (g,x)=.ok (g.Z != (x.v.bI.get 0).Z)
theorem zKv {E:zae} : zqT (zjQ E):=λ g x h=>ae.ext λ k=>by rw[e207,bn,bD (by omega)]
abbrev zay:=dN 207 Unit (Pt list) ⊕ dN 230 Unit (Pt straight) ⊕ dN 257 Unit (Pt straight)
def ze8 : zay → aC → Bool
  | .inl c,g=>g.Z != (c.v.v.bI.get 0).Z
  | .inr (.inl c),g=>!KO c.v.v g
  | .inr (.inr c),g=>Q8 c.v.v g
def okG : zay → Prop
  | .inl c=>0 < c.v.v.bI.len
  | _=>True
abbrev QIx {γ:Type}(i:γ->zay) (C:Sl aC×γ->ae Int):Prop:=∀ (l:Sl aC) (c:γ),l.len<=1000->okG (i c)->C (l,c)=.ok (fst (λ j=>ze8 (i c) (l.get j)) l.len 0)
abbrev Jt {γ:Type}(i:γ->zay) (C:Sl aC×γ->ae Bool):Prop:=∀ (l:Sl aC) (c:γ),l.len<=1000->okG (i c)->C (l,c)=.ok (!dR (λ j=>!ze8 (i c) (l.get j)) l.len)
abbrev ze9 (C:Sl aC×zay->ae Int):Prop:=QIx id C
abbrev Q9 (C:Sl aC×zay->ae Bool):Prop:=Jt id C
theorem zfa {E:oq}(N:Big E.N) (zqJ:zqT E.zlx):QIx .inl (zC E):=λ l c hl ho=>ae.ext λ k=>by
 rw[zeX,bn];refine CQ (L:=λ n i=>sO E n l c i k) (p:=λ j=>ze8 (.inl c) (l.get j)) (m:=l.len) (k:=k) (by omega) (λ n i hi=>?_) (λ n=>?_) _ (by have:=N;omega)
 ·rw[Hg,decide_eq_true (by omega),cond_true,bD (by omega),zqJ _ _ ho,bn,Int.toNat_natCast];rfl
 ·rw[Hg,decide_eq_false (by omega)];rfl
theorem zfb {E:ou}(N:Big E.N) (zqK:zqR E.zlC):QIx (λ c=>.inr (.inl c)) (zD E):=λ l c hl ho=>ae.ext λ k=>by
 rw[zeZ,bn];refine CQ (L:=λ n i=>sQ E n l c i k) (p:=λ j=>ze8 (.inr (.inl c)) (l.get j)) (m:=l.len) (k:=k) (by omega) (λ n i hi=>?_) (λ n=>?_) _ (by have:=N;omega)
 ·rw[Hl,decide_eq_true (by omega),cond_true,bD (by omega),zqK,bn,Int.toNat_natCast];rfl
 ·rw[Hl,decide_eq_false (by omega)];rfl
theorem zfc {E:oz}(N:Big E.N) (zqL:zqS E.zlF):QIx (λ c=>.inr (.inr c)) (zF E):=λ l c hl ho=>ae.ext λ k=>by
 rw[ze1,bn];refine CQ (L:=λ n i=>sS E n l c i k) (p:=λ j=>ze8 (.inr (.inr c)) (l.get j)) (m:=l.len) (k:=k) (by omega) (λ n i hi=>?_) (λ n=>?_) _ (by have:=N;omega)
 ·rw[Hm,decide_eq_true (by omega),cond_true,bD (by omega),zqL,bn,Int.toNat_natCast];rfl
 ·rw[Hm,decide_eq_false (by omega)];rfl
theorem zKw {f:Sl aC×dN 207 Unit (Pt list)->ae Int}{g:Sl aC×dN 230 Unit (Pt straight)->ae Int}{h:Sl aC×dN 257 Unit (Pt straight)->ae Int}(a:QIx .inl f) (b:QIx (λ c=>.inr (.inl c)) g) (d:QIx (λ c=>.inr (.inr c)) h):ze9 (ae.two f (ae.two g h)):=λ l c hl ho=>by
 rcases c with c | c | c
 ·exact a l c hl ho
 ·exact b l c hl ho
 ·exact d l c hl ho
theorem zfd {E:qV}(G7:ze9 E.zU):Jt .inl (zu E):=λ l c hl ho=>ae.ext λ k=>by rw[zeF,G7 l (.inl c) hl ho,bn,bn,sV];rfl
theorem zfe {E:qW}(G7:ze9 E.zU):Jt (λ c=>.inr (.inl c)) (zx E):=λ l c hl ho=>ae.ext λ k=>by rw[zeJ,G7 l (.inr (.inl c)) hl ho,bn,bn,sV];rfl
theorem zff {E:qX}(G7:ze9 E.zU):Jt (λ c=>.inr (.inr c)) (zy E):=λ l c hl ho=>ae.ext λ k=>by rw[zeN,G7 l (.inr (.inr c)) hl ho,bn,bn,sV];rfl
theorem zKx {f:Sl aC×dN 207 Unit (Pt list)->ae Bool}{g:Sl aC×dN 230 Unit (Pt straight)->ae Bool}{h:Sl aC×dN 257 Unit (Pt straight)->ae Bool}(a:Jt .inl f) (b:Jt (λ c=>.inr (.inl c)) g) (d:Jt (λ c=>.inr (.inr c)) h):Q9 (ae.two f (ae.two g h)):=λ l c hl ho=>by
 rcases c with c | c | c
 ·exact a l c hl ho
 ·exact b l c hl ho
 ·exact d l c hl ho
def fV (l:Sl aC):Bool:=dR (λ j=>(l.get j).Z == (l.get 0).Z) l.len
theorem zkg {a b:Int} : (!(a != b))=(a == b):=by cases h:a == b <;> simp[bne,h]
abbrev Vx (C:list->ae Bool):Prop:=∀ x:list,0 < x.bI.len->x.bI.len<=1000->C x=.ok (fV x.bI)
theorem zKz {E:ZR}(GV:Q9 E.c206):Vx (zjn E):=λ x h0 h1=>ae.ext λ k=>by
 rw[e167,GV x.bI (.inl ⟨(),⟨x⟩⟩) h1 h0,bn,bn,Bool.not_not];congr 1;exact GH λ i _=>zkg
def allB (l:Sl aC) (x:straight):Bool:=dR (λ j=>KO x (l.get j)) l.len
abbrev zqU (C:set×straight->ae Bool):Prop:=∀ (s:set) x,s.list.bI.len<=1000->C (s,x)=.ok (allB s.list.bI x)
theorem zKA {E:zab}(GV:Q9 E.c206):zqU (zjL E):=λ s x h1=>ae.ext λ k=>by
 rw[e199,GV s.list.bI (.inr (.inl ⟨(),⟨x⟩⟩)) h1 trivial,bn,bn,Bool.not_not];congr 1;exact GH λ i _=>Bool.not_not _
abbrev zqV (C:set×straight->ae Bool):Prop:=∀ (s:set) x,s.list.bI.len<=1000->C (s,x)=.ok (!dR (λ j=>!Q8 x (s.list.bI.get j)) s.list.bI.len)
theorem zKB {E:zaw}(GV:Q9 E.c206):zqV (zkd E):=λ s x h1=>ae.ext λ k=>by
 rw[zKf,GV s.list.bI (.inr (.inr ⟨(),⟨x⟩⟩)) h1 trivial,bn,bn];rfl
def fF (l : Sl aC) : Nat → bZ
  | 0=>⟨(l.get 0).Low,(l.get 0).High⟩
  | n+1=>⟨if (l.get n).Low > (fF l n).Low then (l.get n).Low else (fF l n).Low,if (l.get n).High < (fF l n).High then (l.get n).High else (fF l n).High⟩
abbrev zkh (C:list->ae bZ):Prop:=∀ x:list,0 < x.bI.len->x.bI.len<=1000->C x=.ok (fF x.bI x.bI.len)
theorem zKC {E:Vo}(N:Big E.N):zkh (zjM E):=λ x h0 h1=>ae.ext λ k=>by
 rw[zI6,bD (by omega),bD (by omega),bn];refine jW (X:=λ n i=>ND E n x (i:Int) (fF x.bI i) k) (m:=x.bI.len) (λ n i hi=>?_) (λ n=>?_) _ (by have:=N;omega)
 ·rw[zeB,decide_eq_true (by omega),cond_true,bD (by omega),bT (by omega),Int.toNat_natCast];rfl
 ·rw[zeB,decide_eq_false (by omega)];rfl
def wV (s:straight):Prop:=(-2000000<=s.bK/\s.bK<=2000000)/\(-200000000000<=s.start/\s.start<=200000000000)/\1<=s.den/\s.den<=100000
theorem zqW {z p y q:Int}(hz:0<=z/\z<=100000) (hy:0<=y/\y<=100000) (hp : -1000000<=p/\p<=1000000) (hq : -1000000<=q/\q<=1000000) (hn:z ≠ y):wV (zV z p y q):=by
 have b1:=mJ hp.1 hp.2 hy.1 hy.2;have b2:=mJ hq.1 hq.2 hz.1 hz.2;unfold zV wV;by_cases h:z > y
 ·rw[if_pos h];exact⟨⟨by show _<=p - q;omega,by show p - q<=_;omega⟩,⟨by show _<=q * z - p * y;omega,by show q * z - p * y<=_;omega⟩,by show _<=z - y;omega,by show z - y<=_;omega⟩
 ·rw[if_neg h];exact⟨⟨by show _<=q - p;omega,by show q - p<=_;omega⟩,⟨by show _<=p * y - q * z;omega,by show p * y - q * z<=_;omega⟩,by show _<=y - z;omega,by show y - z<=_;omega⟩
theorem zfg {a b:aC}{s:straight}(h:s∈xM a b):a.Z ≠ b.Z/\∃ p q,(p=a.Low\/p=a.High)/\(q=b.Low\/q=b.High)/\s=zV a.Z p b.Z q:=by
 unfold xM at h;by_cases hz:a.Z=b.Z
 ·rw[if_pos hz] at h;cases h
 ·rw [if_neg hz] at h;refine⟨hz,?_⟩;simp only[jf,List.not_mem_nil,or_false] at h;rcases h with h | h | h | h
  ·exact⟨_,_,.inl rfl,.inl rfl,h⟩
  ·exact⟨_,_,.inl rfl,.inr rfl,h⟩
  ·exact⟨_,_,.inr rfl,.inl rfl,h⟩
  ·exact⟨_,_,.inr rfl,.inr rfl,h⟩
theorem Rf {g : Sl aC} {i : Nat} {s : straight} : ∀ {m k : Nat}, s ∈ zH g i m k → ∃ j, k ≤ j ∧ j < k + m ∧ s ∈ xM (g.get i) (g.get j)
  | 0,_,h=>by cases h
  | m+1,k,h=>by
    rcases dL.1 h with h | h
    · exact⟨k,iZ _,by omega,h⟩
    · obtain ⟨j, a, b, c⟩ := Rf h;exact⟨j,by omega,by omega,c⟩
theorem Rh {g : Sl aC} {s : straight} : ∀ {m i : Nat}, s ∈ Js g m i → ∃ a b, i ≤ a ∧ a < i + m ∧ a < b ∧ b < g.len ∧ s ∈ xM (g.get a) (g.get b)
  | 0,_,h=>by cases h
  | m+1,i,h=>by
    rcases dL.1 h with h | h
    · obtain ⟨j, a, b, c⟩ := Rf h;exact⟨i,j,iZ _,by omega,by omega,by omega,c⟩
    · obtain ⟨a, b, h1, h2, h3, h4, h5⟩ := Rh h;exact⟨a,b,by omega,by omega,h3,h4,h5⟩
theorem XH {g:Sl aC}{s:straight}(h:s∈cst g):∃ a b,a < b/\b < g.len/\(g.get a).Z ≠ (g.get b).Z/\∃ p q,(p=(g.get a).Low\/p=(g.get a).High)/\(q=(g.get b).Low\/q=(g.get b).High)/\s=zV (g.get a).Z p (g.get b).Z q:=by
 obtain⟨a,b,_,_,h3,h4,h5⟩:=Rh h;obtain⟨hz,r⟩:=zfg h5;exact⟨a,b,h3,h4,hz,r⟩
theorem pY {g:Sl aC}(G:dm g){s:straight}(h:s∈cst g):wV s:=by
 obtain⟨a,b,h1,h2,hz,p,q,hp,hq,rfl⟩:=XH h;have ga:=G.1 a (by omega);have gb:=G.1 b h2;refine zqW ga.1 gb.1 ?_ ?_ hz
 ·rcases hp with rfl | rfl;exact mr ga;exact oC ga
 ·rcases hq with rfl | rfl;exact mr gb;exact oC gb
def oZ (l:Line):List Int:=[l.dM.Num,l.dM.cO,l.Start.Num,l.Start.cO]
theorem zaz {a b:Line}(h:oZ a=oZ b):a=b:=by
 unfold oZ at h;simp only[BG,and_true] at h;obtain⟨h1,h2,h3,h4⟩:=h;obtain⟨⟨a1,a2⟩,a3,a4⟩:=a;obtain⟨⟨b1,b2⟩,b3,b4⟩:=b;simp only at h1 h2 h3 h4;rw[h1,h2,h3,h4]
theorem Ri (a b:aC):(xM a b).length<=4:=by unfold xM;split <;> simp
theorem Rj (g:Sl aC) (i m k:Nat):(zH g i m k).length<=4 * m:=by
 induction m generalizing k with
 | zero=>exact iZ _
 | succ m ih=>show (xM _ _ ++ zH g i m (k+1)).length<=_;rw[OE];have:=ih (k+1);have:=Ri (g.get i) (g.get k);omega
theorem zfh (g:Sl aC):∀ m i,(Js g m i).length<=4 * g.len * m:=by
 intro m
 induction m with
 | zero=>intro i;exact iZ _
 | succ m ih =>
  intro i;show (zH g i (g.len - (i+1)) (i+1) ++ Js g m (i+1)).length<=_;rw[OE,Nat.mul_succ];have:=ih (i+1);have:=Rj g i (g.len - (i+1)) (i+1);omega
theorem NJ {g:Sl aC}(G:dm g):(cst g).length<=2304:=by
 have h1:=zfh g g.len 0;have hl:=G.2.2;have:4 * g.len * g.len<=4 * 24 * 24:=Nat.mul_le_mul (by omega) hl;exact xZ h1 this

def mO {α:Type} [bG α] (v:Sl α) (x:α):Sl α:=⟨v.len+1,jb v.len v.get (λ _=>x)⟩
theorem qc {α:Type} [bG α] (l:List α):∀ v:Sl α,(l.foldl mO v).len=v.len+l.length:=by
 induction l with
 | nil=>intro v;rfl
 | cons x l ih=>intro v;rw[List.foldl_cons,ih];show v.len+1+l.length=v.len+(l.length+1);omega
theorem NL {α:Type} [bG α] [qi α] (l:List α):∀ (v:Sl α) (i:Nat),i < v.len->(l.foldl mO v).get i=v.get i:=by
 induction l with
 | nil=>intro v i _;rfl
 | cons x l ih =>
  intro v i hi;rw[List.foldl_cons,ih _ _ (show i < v.len+1 by omega)];show jb v.len v.get (λ _=>x) i=_;rw[gX,if_neg (by omega)]
theorem wW {α:Type} [bG α] [qi α] (l:List α):∀ (v:Sl α) (i:Nat) (x:α),l[i]? = some x->(l.foldl mO v).get (v.len+i)=x:=by
 induction l with
 | nil=>intro v i x h;simp at h
 | cons y l ih =>
  intro v i x h;rw[List.foldl_cons];cases i with
  | zero =>
   simp only[List.getElem?_cons_zero,bJ] at h;subst h;rw[NL l _ _ (show v.len+0 < v.len+1 by omega)];show jb v.len v.get (λ _=>y) (v.len+0)=_;rw[gX,if_pos (by omega)]
  | succ i =>
   have:=ih (mO v y) i x (by simpa using h);rw[<- this];congr 1;show v.len+(i+1)=v.len+1+i;omega
abbrev zki (C:straight->ae Line):Prop:=∀ x,wV x->C x=.ok (eQ x)
theorem zKD {E:zaa}(sF:Hq E.lu):zki (zjK E):=λ x h=>ae.ext λ k=>by
 obtain⟨h1,h2,h3⟩:=h;rw[zI1,sF _ _ (by omega) (by omega) (by omega) (by omega),sF _ _ (by omega) (by omega) (by omega) (by omega),bn,bn,bn];rfl
def Bo (g : Sl aC) : List straight → List straight → (List Int → Option (List Int)) → List straight
  | [],acc,_=>acc
  | y :: r,acc,F=>cond (!(CX (F (oZ (eQ y))) 0 != 0)) (cond (allB g y) (Bo g r (acc ++ [y]) (Eg (oZ (eQ y)) [1] F)) (Bo g r acc F)) (Bo g r acc F)
def kE (g:Sl aC):List straight:=cond (fV g) [] (Bo g (cst g) [] λ _=>none)
abbrev CS {α:Type} [Inhabited α]:Sl α:=⟨0,λ _=>default⟩
abbrev zkj (C:Sl aC->ae set):Prop:=∀ g,dm g->C g=.ok ⟨⟨g⟩,(kE g).foldl mO CS⟩
theorem zKE {E:Va}(sD:Vx E.c167) (i228:zqO E.i228) (Vb:zki E.c198) (zqh:zqU E.zlu):zkj (zjh E):=λ g G=>ae.ext λ k=>by
 have hl:=G.2;rw[zHL,sD ⟨g⟩ (by show 0 < g.len;omega) (by show g.len<=1000;omega),bn,bn];unfold kE;cases fV g with
 | true=>rfl
 | false =>
  rw[cond_false,cond_false,i228 ⟨⟨g⟩⟩ G,bn];have key:∀ (r acc:List straight) (n:Nat) (F:List Int->Option (List Int)),(∀ s∈r,wV s)->acc.length+r.length<=10000->lW E r g (acc.foldl mO CS) n F k=k ⟨⟨g⟩,(Bo g r acc F).foldl mO CS⟩:=by
   intro r
   induction r with
   | nil=>intro acc n F _ _;exact zji ..
   | cons y r ih =>
    intro acc n F hs hn;have hs':∀ s∈r,wV s:=λ s h=>hs s (jc _ h);rw[Jz] at hn;rw[zqg,Vb y (hs y kz),bn,zqh ⟨⟨g⟩,_⟩ y (by show g.len<=1000;omega),bn];have e1:∀ m F,lW E r g (acc.foldl mO CS) m F k=_:=λ m F=>ih acc m F hs' (by omega);have e2:∀ m F,lW E r g ((acc ++ [y]).foldl mO CS) m F k=_:=λ m F=>ih (acc ++ [y]) m F hs' (by rw[OE];simp only[Jz,SC];omega);have hlen:(acc.foldl mO CS).len=acc.length:=by rw[qc];simp
    have hroom:room ((acc.foldl mO CS).len+1) 24=true:=decide_eq_true (by rw[hlen];omega);have hf:(⟨(acc.foldl mO CS).len+1,jb (acc.foldl mO CS).len (acc.foldl mO CS).get (λ _=>y)⟩:Sl straight)=(acc ++ [y]).foldl mO CS:=by rw[List.foldl_append];rfl
    rw[hroom,hf];show cond (!(CX (F (oZ (eQ y))) 0 != 0)) (cond (allB g y) (lW E r g ((acc ++ [y]).foldl mO CS) _ (Eg (oZ (eQ y)) [1] F) k) (lW E r g (acc.foldl mO CS) n F k)) (lW E r g (acc.foldl mO CS) n F k)=_;rw[e1,e2];simp only[Bo];cases (CX (F (oZ (eQ y))) 0 != 0) <;> cases allB g y <;> rfl
  exact key (cst g) [] 0 _ (λ s h=>pY G h) (by have:=NJ G;simp only[SC];omega)
theorem zkk (g:Sl aC):∀ (r acc:List straight) (F:List Int->Option (List Int)),(∀ c,(CX (F c) 0 != 0)=true↔∃ x∈acc,oZ (eQ x)=c)->acc.Pairwise (λ x y=>eQ x ≠ eQ y) ->
    (∀ s∈Bo g r acc F,s∈acc\/(s∈r/\allB g s=true))/\(∀ s∈acc,s∈Bo g r acc F)/\(∀ s∈r,allB g s=true->∃ x∈Bo g r acc F,eQ x=eQ s)/\(Bo g r acc F).Pairwise (λ x y=>eQ x ≠ eQ y):=by
  intro r
  induction r with
  | nil=>intro acc F _ hp;exact⟨λ s h=>.inl h,λ s h=>h,(λ s h=>by cases h),hp⟩
  | cons y r ih =>
    intro acc F hF hp;have skip:=ih acc F hF hp;simp only[Bo];cases h1:(CX (F (oZ (eQ y))) 0 != 0) with
    | true =>
      obtain⟨c3,c4,c5,c6⟩:=skip;simp only[Bool.not_true,cond_false];refine⟨λ s h=>(c3 s h).imp id λ k=>⟨jc _ k.1,k.2⟩,c4,λ s h ha=>?_,c6⟩;rcases jf.1 h with rfl | h
      · obtain ⟨x, hx, hc⟩ := (hF _).1 h1;exact⟨x,c4 x hx,zaz hc⟩
      · exact c5 s h ha
    | false =>
      cases h2:allB g y with
      | true =>
        simp only[Bool.not_false,cond_true]
        obtain ⟨c3, c4, c5, c6⟩ := ih (acc ++ [y]) (Eg (oZ (eQ y)) [1] F)
          (λ c=>by
            unfold Eg;by_cases hc:c=oZ (eQ y)
            · rw [decide_eq_true hc];exact⟨λ _=>⟨y,by simp,hc.symm⟩,λ _=>rfl⟩
            · rw [decide_eq_false hc];refine (hF c).trans ⟨λ ⟨x,hx,e⟩=>⟨x,dL.2 (.inl hx),e⟩,λ ⟨x,hx,e⟩=>?_⟩;rcases dL.1 hx with hx | hx
              · exact⟨x,hx,e⟩
              · rw[jL.1 hx] at e;exact absurd e.symm hc)
          (by
            rw[List.pairwise_append];refine⟨hp,List.pairwise_singleton _ _,λ a ha b hb=>?_⟩;rw[jL.1 hb];exact λ e=>by rw[(hF _).2 ⟨a,ha,by rw[e]⟩] at h1;cases h1)
        have hy:=c4 y (by simp);refine⟨λ s h=>?_,λ s h=>c4 s (dL.2 (.inl h)),λ s h ha=>?_,c6⟩
        · rcases c3 s h with h | h
          · rcases dL.1 h with h | h
            · exact .inl h
            · rw[jL.1 h];exact .inr ⟨kz,h2⟩
          · exact .inr ⟨jc _ h.1,h.2⟩
        · rcases jf.1 h with rfl | h
          · exact⟨s,hy,rfl⟩
          · exact c5 s h ha
      | false =>
        obtain⟨c3,c4,c5,c6⟩:=skip;simp only[Bool.not_false,cond_true,cond_false];refine⟨λ s h=>(c3 s h).imp id λ k=>⟨jc _ k.1,k.2⟩,c4,λ s h ha=>?_,c6⟩;rcases jf.1 h with rfl | h
        · rw[h2] at ha;cases ha
        · exact c5 s h ha
theorem Vy {g:Sl aC}(hf:fV g=false):(∀ s∈kE g,s∈cst g/\allB g s=true)/\(∀ s∈cst g,allB g s=true->∃ x∈kE g,eQ x=eQ s)/\(kE g).Pairwise (λ x y=>eQ x ≠ eQ y):=by
 unfold kE;rw[hf,cond_false];obtain⟨c3,_,c5,c6⟩:=zkk g (cst g) [] (λ _=>none) (λ c=>⟨λ h=>by simp[CX] at h,λ ⟨x,hx,_⟩=>by cases hx⟩) List.Pairwise.nil;refine⟨λ s h=>?_,c5,c6⟩;rcases c3 s h with h | h
 ·cases h
 ·exact h
def iF (g:Sl aC):Bool:=cond (fV g) (decide ((fF g g.len).Low<=(fF g g.len).High)) (decide (((kE g).length:Int) > 0))
def gB (g:Sl aC):set:=⟨⟨g⟩,(kE g).foldl mO CS⟩
theorem Hr (g:Sl aC):(gB g).cu.len=(kE g).length:=by show ((kE g).foldl mO CS).len=_;rw[qc];simp
abbrev zkl (C:set->ae Bool):Prop:=∀ g,dm g->C (gB g)=.ok (iF g)
theorem zKF {E:ZN}(Vd:zkh E.Ov) (sD:Vx E.c167):zkl (zjj E):=λ g G=>ae.ext λ k=>by
 have hl:=G.2;rw[zHQ,Vd _ (by show 0 < g.len;omega) (by show g.len<=1000;omega),bn,sD _ (by show 0 < g.len;omega) (by show g.len<=1000;omega),bn,bn,Hr,kc k];rfl
def DW (g:Sl aC) (b:Bool):set×Int:=cond (sU g) (cond (iF g) (cond (fV g && !b) (⟨⟨CS⟩,CS⟩,6) (gB g,0)) (⟨⟨CS⟩,CS⟩,5)) (⟨⟨CS⟩,CS⟩,2)
abbrev zqX (C:list->ae Bool):Prop:=∀ l,C l=.ok false
theorem zKG {E:Zv} : zqX (ziP E):=λ l=>ae.ext λ k=>by rw[e118,bn]
abbrev zqY (C:list×Pt Int->ae Bool):Prop:=∀ (l:list) (z:Pt Int),0 < l.bI.len->C (l,z)=.ok ((l.bI.get 0).Z == z.v)
theorem zKH {E:ZO} : zqY (zjk E):=λ l z h=>ae.ext λ k=>by rw[e162,bn,bD (by omega)]
abbrev zqZ:=dN 118 Unit Unit ⊕ dN 162 Unit (Pt Int)
def zKI (g : Sl aC) : zqZ → Bool
  | .inl _=>false
  | .inr c=>(g.get 0).Z == c.v.v
abbrev QOp {γ:Type}(i:γ->zqZ) (C:Sl aC×γ->ae (set×Int)):Prop:=∀ (g:Sl aC) (c:γ),g.len<=1000->C (g,c)=.ok (DW g (zKI g (i c)))
abbrev zkm (C:Sl aC×zqZ->ae (set×Int)):Prop:=QOp id C
theorem zfi {E:qO}(UR:zkf E.c109) (UT:zkj E.Oo) (UU:zkl E.c159) (sD:Vx E.c167) (zpX:zqX E.zlf):QOp .inl (zg E):=λ g c hl=>ae.ext λ k=>by
 rw[zdX,UR g hl,bn,bn];unfold DW;cases hg:sU g with
 | false=>rfl
 | true =>
  have G:=nz.1 hg;have G2:=G.2;rw[UT g G,bn,show (⟨⟨g⟩,(kE g).foldl mO CS⟩:set)=gB g from rfl,UU g G,bn,sD _ (by show 0 < g.len;omega) (by show g.len<=1000;omega),bn,zpX,bn];show cond (!true) _ (cond (!iF g) _ (cond (fV g) _ _))=_;cases iF g <;> cases fV g <;> rfl
theorem zfj {E:qP}(UR:zkf E.c109) (UT:zkj E.Oo) (UU:zkl E.c159) (sD:Vx E.c167) (zpY:zqY E.c162):QOp .inr (zh E):=λ g c hl=>ae.ext λ k=>by
 rw[zd1,UR g hl,bn,bn];unfold DW;cases hg:sU g with
 | false=>rfl
 | true =>
  have G:=nz.1 hg;have G2:=G.2;rw[UT g G,bn,show (⟨⟨g⟩,(kE g).foldl mO CS⟩:set)=gB g from rfl,UU g G,bn,sD _ (by show 0 < g.len;omega) (by show g.len<=1000;omega),bn,zpY _ _ (by show 0 < g.len;omega),bn];show cond (!true) _ (cond (!iF g) _ (cond (fV g) (cond (!((g.get 0).Z == c.v.v)) _ _) _))=k (cond true (cond (iF g) (cond (fV g && !((g.get 0).Z == c.v.v)) _ _) _) _);cases iF g <;> cases fV g <;> cases ((g.get 0).Z == c.v.v) <;> rfl
theorem zKJ {f:Sl aC×dN 118 Unit Unit->ae (set×Int)}{h:Sl aC×dN 162 Unit (Pt Int)->ae (set×Int)}(a:QOp .inl f) (b:QOp .inr h):zkm (ae.two f h):=λ g c hl=>by
 rcases c with c | c
 ·exact a g c hl
 ·exact b g c hl
def iT (s:straight) (z:Int):Int:=s.start+s.bK * z
def oD (s:straight) (g:aC):Bool:=decide (g.Low * s.den<=iT s g.Z/\iT s g.Z<=g.High * s.den)
def zq1 (s:straight) (g:aC):Bool:=decide (iT s g.Z=g.Low * s.den)
theorem XI {s:straight}(S:wV s){z:Int}(hz : -200000<=z/\z<=200000):aO (s.start+aO (s.bK * z))=iT s z/\(-600000000000<=iT s z/\iT s z<=600000000000):=by
 have b : -400000000000<=s.bK * z/\s.bK * z<=400000000000:=by
  rcases Int.lt_or_le z 0 with h | h
  ·have := mJ (x := s.bK) (y := -z) (X := 2000000) (Y := 200000) (by have := S.1; omega) (by have := S.1; omega) (by omega) (by omega);rw[Int.mul_neg] at this;omega
  ·exact mJ (X:=2000000) (Y:=200000) (by have:=S.1;omega) (by have:=S.1;omega) h (by omega)
 have:=S.2.1;unfold iT;rw[bg (x:=s.bK * z) (by omega) (by omega),bg (by omega) (by omega)];omega
theorem zfk {s:straight}(S:wV s){p:Int}(hp : -1000000<=p/\p<=1000000):aO (p * s.den)=p * s.den:=by
 have:=mJ hp.1 hp.2 (show 0<=s.den by have:=S.2.2;omega) S.2.2.2;exact bg (by omega) (by omega)
theorem Rk {s:straight}(S:wV s){g:aC}(h:fE g):KO s g=oD s g:=by
 unfold KO oD inB;rw[(XI S (z:=g.Z) (by have:=h.1;omega)).1,zfk S (mr h),zfk S (oC h)]
theorem XJ {s:straight}(S:wV s){g:aC}(h:fE g):Q8 s g=zq1 s g:=by
 unfold Q8 zq1;rw[(XI S (z:=g.Z) (by have:=h.1;omega)).1,zfk S (mr h)];rw[Bool.eq_iff_iff];simp
def Bq (g:Sl aC) (s:straight):Prop:=∀ i,i < g.len->oD s (g.get i)=true
def lh (g:Sl aC) (s:straight):Prop:=∃ i,i < g.len/\zq1 s (g.get i)=true
theorem Ht {g:Sl aC}(G:dm g){s:straight}(S:wV s):allB g s=true↔Bq g s:=by
 unfold allB;rw[dC];exact⟨λ h i hi=>by rw[<- Rk S (G.1 i hi)];exact h i hi,λ h i hi=>by rw[Rk S (G.1 i hi)];exact h i hi⟩
theorem Rl {g:Sl aC}(G:dm g){s:straight}(S:wV s):(!dR (λ j=>!Q8 s (g.get j)) g.len)=true↔lh g s:=by
 rw[Bool.not_eq_true',<- Bool.not_eq_true,dC];constructor
 ·intro h;apply Classical.byContradiction;intro hc;refine h λ i hi=>?_;cases e:Q8 s (g.get i) with
  | false=>rfl
  | true=>rw[XJ S (G.1 i hi)] at e;exact (hc ⟨i,hi,e⟩).elim
 ·rintro ⟨i, hi, e⟩ h;have:=h i hi;rw[XJ S (G.1 i hi),e] at this;cases this
def Dj (g:Sl aC) (s:straight):Prop:=s∈cst g/\Bq g s
theorem ug {g:Sl aC}(G:dm g){s:straight}(h:Dj g s):wV s:=pY G h.1
def zI (a b:aS):Prop:=a.Num * b.cO < b.Num * a.cO
def Hu (s:straight):aS:=⟨s.bK,s.den⟩
theorem Vz {z p y q:Int}(h:z ≠ y):iT (zV z p y q) z=p * (zV z p y q).den/\iT (zV z p y q) y=q * (zV z p y q).den:=by
 unfold zV iT;split
 ·constructor
  ·show q * z - p * y + (p - q) * z = p * (z - y);rw[Int.sub_mul,Int.mul_sub];omega
  ·show q * z - p * y + (p - q) * y = q * (z - y);rw[Int.sub_mul,Int.mul_sub];omega
 ·constructor
  ·show p * y - q * z + (q - p) * z = p * (y - z);rw[Int.sub_mul,Int.mul_sub];omega
  ·show p * y - q * z + (q - p) * y = q * (y - z);rw[Int.sub_mul,Int.mul_sub];omega
def XK (g:Sl aC) (s:straight):Prop:=∃ i,i < g.len/\iT s (g.get i).Z=(g.get i).High * s.den
theorem zaA {g:Sl aC}{s:straight}(h:s∈cst g):lh g s\/XK g s:=by
 obtain⟨a,b,h1,h2,hz,p,q,hp,hq,rfl⟩:=XH h;have e:=(Vz (p:=p) (q:=q) hz).1;rcases hp with rfl | rfl
 ·exact .inl ⟨a,by omega,decide_eq_true e⟩
 ·exact .inr ⟨a,by omega,e⟩
theorem par {s t:straight}(h:s.bK * t.den=t.bK * s.den) (z:Int):iT s z * t.den - iT t z * s.den=s.start * t.den - t.start * s.den:=by
  unfold iT;rw[Int.add_mul,Int.add_mul];have e:s.bK * z * t.den=t.bK * z * s.den:=by
    calc s.bK * z * t.den = s.bK * t.den * z := by ac_rfl
      _=t.bK * z * s.den:=by rw[h];ac_rfl
  omega
theorem vX {g:Sl aC}{s:straight}(h:Bq g s){i:Nat}(hi:i < g.len):(g.get i).Low * s.den<=iT s (g.get i).Z/\iT s (g.get i).Z<=(g.get i).High * s.den:=of_decide_eq_true (h i hi)
theorem zq2 {g:Sl aC}(G:dm g){s t:straight}(hs:Dj g s) (ht:Dj g t) (h:s.bK * t.den=t.bK * s.den) (hl:s.start * t.den < t.start * s.den) : ¬ lh g t/\¬ XK g s:=by
 have ps:0 < s.den:=by have:=(ug G hs).2.2;omega
 have pt:0 < t.den:=by have:=(ug G ht).2.2;omega
 constructor
 ·intro ⟨i, hi, e⟩;have e:iT t (g.get i).Z=(g.get i).Low * t.den:=of_decide_eq_true e;have a:=(vX hs.2 hi).1;have p:=par h (g.get i).Z;have a2:=Int.mul_le_mul_of_nonneg_right a (Int.le_of_lt pt);have:(g.get i).Low * s.den * t.den=iT t (g.get i).Z * s.den:=by rw[e];ac_rfl
  omega
 ·intro ⟨i, hi, e⟩;have a:=(vX ht.2 hi).2;have p:=par h (g.get i).Z;have a2:=Int.mul_le_mul_of_nonneg_right a (Int.le_of_lt ps);have:(g.get i).High * t.den * s.den=iT s (g.get i).Z * t.den:=by rw[e];ac_rfl
  omega
theorem Rn {g:Sl aC}(G:dm g){s t:straight}(hs:Dj g s) (ht:Dj g t) (hf:lh g s↔lh g t) (h1 : ¬ zI (Hu s) (Hu t)) (h2 : ¬ zI (Hu t) (Hu s)):eQ s=eQ t:=by
 have ps:0 < s.den:=by have:=(ug G hs).2.2;omega
 have pt:0 < t.den:=by have:=(ug G ht).2.2;omega
 have h:s.bK * t.den=t.bK * s.den:=by
  have a : ¬ s.bK * t.den < t.bK * s.den:=h1;have b : ¬ t.bK * s.den < s.bK * t.den:=h2;omega
 have key:∀ {s t:straight},Dj g s->Dj g t->(lh g s↔lh g t)->s.bK * t.den=t.bK * s.den->¬ s.start * t.den < t.start * s.den:=fun {s t} hs ht hf h hl=>by
  obtain⟨a,b⟩:=zq2 G hs ht h hl;rcases zaA hs.1 with c | c
  ·exact a (hf.1 c)
  ·exact b c
 have e:s.start * t.den=t.start * s.den:=by
  have a:=key hs ht hf h;have b:=key ht hs hf.symm h.symm;omega
 unfold eQ;rw[(Vu ps pt).2 h,(Vu ps pt).2 e]
def Hy (g:Sl aC) (s t:straight):Prop:=(lh g s/\(lh g t->zI (Hu s) (Hu t)))\/(¬ lh g s/\¬ lh g t/\zI (Hu t) (Hu s))
theorem NM {a:aS} : ¬ zI a a:=by unfold zI;omega
theorem XL {a b:aS}(h:zI a b) : ¬ zI b a:=by unfold zI at *;omega
theorem XM {a b c:aS}(ha:0 < a.cO) (hb:0 < b.cO) (hc:0 < c.cO) (h1:zI a b) (h2:zI b c):zI a c:=by
 unfold zI at *;have y1:=Int.mul_lt_mul_of_pos_right h1 hc;have y2:=Int.mul_lt_mul_of_pos_right h2 ha;have z1:b.Num * a.cO * c.cO=b.Num * c.cO * a.cO:=by ac_rfl
 have z2:c.Num * b.cO * a.cO=c.Num * a.cO * b.cO:=by ac_rfl
 have z3:a.Num * b.cO * c.cO=a.Num * c.cO * b.cO:=by ac_rfl
 have:a.Num * c.cO * b.cO < c.Num * a.cO * b.cO:=by omega
 exact Int.lt_of_mul_lt_mul_right this (Int.le_of_lt hb)
theorem zkn {g:Sl aC}{s:straight} : ¬ Hy g s s:=λ h=>by
 rcases h with ⟨a,b⟩ | ⟨_,_,c⟩
 ·exact NM (b a)
 ·exact NM c
theorem zfl {g:Sl aC}{s t:straight}(h:Hy g s t) : ¬ Hy g t s:=λ k=>by
 rcases h with ⟨a,b⟩ | ⟨a,b,c⟩ <;> rcases k with ⟨x,y⟩ | ⟨x,y,z⟩
 ·exact XL (b x) (y a)
 ·exact y a
 ·exact b x
 ·exact XL c z
theorem zaB {g:Sl aC}(G:dm g){s t u:straight}(hs:Dj g s) (ht:Dj g t) (hu:Dj g u) (h:Hy g s t) (k:Hy g t u):Hy g s u:=by
 have ps:0 < (Hu s).cO:=by have:=(ug G hs).2.2;show 0 < s.den;omega
 have pt:0 < (Hu t).cO:=by have:=(ug G ht).2.2;show 0 < t.den;omega
 have pu:0 < (Hu u).cO:=by have:=(ug G hu).2.2;show 0 < u.den;omega
 rcases h with ⟨a,b⟩ | ⟨a,b,c⟩ <;> rcases k with ⟨x,y⟩ | ⟨x,y,z⟩
 ·exact .inl ⟨a,λ w=>XM ps pt pu (b x) (y w)⟩
 ·exact .inl ⟨a,λ w=>absurd w y⟩
 ·exact absurd x b
 ·exact .inr ⟨a,y,XM pu pt ps z c⟩
theorem zko {g:Sl aC}(G:dm g){s t:straight}(hs:Dj g s) (ht:Dj g t) (hn:eQ s ≠ eQ t):Hy g s t\/Hy g t s:=by
 by_cases a:lh g s <;> by_cases b:lh g t
 ·by_cases c : zI (Hu s) (Hu t)
  ·exact .inl (.inl ⟨a,λ _=>c⟩)
  ·by_cases d : zI (Hu t) (Hu s)
   ·exact .inr (.inl ⟨b,λ _=>d⟩)
   ·exact absurd (Rn G hs ht ⟨λ _=>b,λ _=>a⟩ c d) hn
 ·exact .inl (.inl ⟨a,λ w=>absurd w b⟩)
 ·exact .inr (.inl ⟨b,λ w=>absurd w a⟩)
 ·by_cases c : zI (Hu s) (Hu t)
  ·exact .inr (.inr ⟨b,a,c⟩)
  ·by_cases d : zI (Hu t) (Hu s)
   ·exact .inl (.inr ⟨a,b,d⟩)
   ·exact absurd (Rn G hs ht ⟨λ w=>absurd w a,λ w=>absurd w b⟩ c d) hn
abbrev zkp (C:Int->ae Bool):Prop:=∀ x,C x=.ok false
theorem zKK {E:zas} : zkp (zj7 E):=λ x=>ae.ext λ k=>by rw[zJX,bn,show (x != x)=false by simp]
def mP (a b:Int):Int:=cond (decide (a < b)) (-1) (cond (decide (a > b)) 1 0)
abbrev VA (C:Int×Int->ae Int):Prop:=∀ a b,C (a,b)=.ok (mP a b)
theorem zKL {E:zaf}(QQ:zkp E.I8):VA (zjR E):=λ a b=>ae.ext λ k=>by
 rw[e208,QQ,bn,QQ,bn,bn];unfold mP;cases decide (a < b) <;> cases decide (a > b) <;> rfl
def FOK (f:aS):Prop:=(-1000000000<=f.Num/\f.Num<=1000000000)/\0 < f.cO/\f.cO<=1000000000
def cmF (a b:aS):Int:=mP (a.Num * b.cO) (b.Num * a.cO)
theorem zyE {a b:aS}(h1:FOK a) (h2:FOK b):aO (a.Num * b.cO)=a.Num * b.cO:=by
 have:=mJ h1.1.1 h1.1.2 (Int.le_of_lt h2.2.1) h2.2.2;exact bg (by omega) (by omega)
abbrev zfm (C:aS×aS->ae Int):Prop:=∀ a b:aS,aO (a.Num * b.cO)=a.Num * b.cO->aO (b.Num * a.cO)=b.Num * a.cO->C (a,b)=.ok (cmF a b)
theorem zKN {E:ZU}(Ve:VA E.c208):zfm (zjq E):=λ a b h1 h2=>ae.ext λ k=>by
 rw[e170,Ve,bn,bn,h1,h2];rfl
theorem zfn {a b:aS} : cmF a b < 0↔zI a b:=by
 unfold cmF mP zI;by_cases h:a.Num * b.cO < b.Num * a.cO
 ·rw[decide_eq_true h];simp[h]
 ·rw [decide_eq_false h];cases decide (a.Num * b.cO > b.Num * a.cO) <;> simp[h]
theorem zfo {a b:aS} : 0 - cmF a b < 0↔zI b a:=by
 unfold cmF mP zI;by_cases h:a.Num * b.cO < b.Num * a.cO
 ·rw[decide_eq_true h];simp;omega
 ·rw [decide_eq_false h];by_cases h2:a.Num * b.cO > b.Num * a.cO
  ·rw[decide_eq_true h2];simp;omega
  ·rw[decide_eq_false h2];simp;omega
theorem zyF (a b:aS) : -1<=cmF a b/\cmF a b<=1:=by
 unfold cmF mP;cases decide (a.Num * b.cO < b.Num * a.cO) <;> cases decide (a.Num * b.cO > b.Num * a.cO) <;> simp
theorem zfp {a b c d:Int}(hb:0 < b) (hd:0 < d):zI (red a b) (red c d)↔a * d < c * b:=by
 have a1:=mM (num:=a) hb;have a2:=lC (num:=a) hb;have c1:=mM (num:=c) hd;have c2:=lC (num:=c) hd;have hG:=jo (num:=a) hb;have hK:=jo (num:=c) hd;unfold zI;generalize (Int.gcd a b:Int)=G at a1 a2 hG;generalize (Int.gcd c d:Int)=K at c1 c2 hK;generalize (red a b).Num=p at a1 ⊢;generalize (red a b).cO=q at a2 ⊢;generalize (red c d).Num=u at c1 ⊢;generalize (red c d).cO=v at c2 ⊢;subst a1 a2 c1 c2;have e1:G * p * (K * v)=p * v * (G * K):=by ac_rfl
 have e2:K * u * (G * q)=u * q * (G * K):=by ac_rfl
 rw[e1,e2];have hp:=Int.mul_pos hG hK;exact⟨λ h=>Int.mul_lt_mul_of_pos_right h hp,λ h=>Int.lt_of_mul_lt_mul_right h (Int.le_of_lt hp)⟩
theorem DX {a b:Int}(h1 : -1000000000<=a) (h2:a<=1000000000) (hb:0 < b) (hb2:b<=1000000000):FOK (red a b):=by
 have r1:=zG (num:=a) hb;have r2:=Ho (num:=a) hb;have r3:=kw (num:=a) hb;exact⟨by omega,by omega,by omega⟩
def uh (g:Sl aC) (s:straight):Bool:=!dR (λ j=>!Q8 s (g.get j)) g.len
def zfq (g:Sl aC) (s t:straight):Int:=cond (uh g s) (cond (uh g t) (cmF (red s.bK s.den) (red t.bK t.den)) (-1)) (cond (uh g t) 1 (aO (0 - cmF (red s.bK s.den) (red t.bK t.den))))
abbrev zq3 (C:straight×straight×Pt set->ae Int):Prop:=∀ s t (P:Pt set),wV s->wV t->P.v.list.bI.len<=1000->C (s,t,P)=.ok (zfq P.v.list.bI s t)
theorem zKO {E:zav}(zkc:zqV E.zgu) (sF:Hq E.lu) (GZ:zfm E.zT):zq3 (zkb E):=λ s t P S T hl=>ae.ext λ k=>by
 have s1:=S.1;have s3:=S.2.2;have t1:=T.1;have t3:=T.2.2
 rw[e254,zkc _ _ hl,bn,zkc _ _ hl,bn,sF _ _ (by omega) (by omega) (by omega) (by omega),bn,sF _ _ (by omega) (by omega) (by omega) (by omega),bn,
  GZ _ _ (zyE (DX (by omega) (by omega) (by omega) (by omega)) (DX (by omega) (by omega) (by omega) (by omega))) (zyE (DX (by omega) (by omega) (by omega) (by omega)) (DX (by omega) (by omega) (by omega) (by omega))),bn,bn]
 unfold zfq;show cond (uh P.v.list.bI s) (cond (uh P.v.list.bI t) _ (cond (uh P.v.list.bI s) _ (cond (uh P.v.list.bI t) _ _))) (cond (uh P.v.list.bI s) _ (cond (uh P.v.list.bI t) _ _))=_;cases uh P.v.list.bI s <;> cases uh P.v.list.bI t <;> rfl
theorem zkq {g:Sl aC}(G:dm g){s t:straight}(hs:Dj g s) (ht:Dj g t):zfq g s t < 0↔Hy g s t:=by
 have S:=ug G hs;have T:=ug G ht;have a:=Rl G S;have b:=Rl G T;have ps:0 < s.den:=by have:=S.2.2;omega
 have pt:0 < t.den:=by have:=T.2.2;omega
 have e1:=(zfn (a:=red s.bK s.den) (b:=red t.bK t.den)).trans (zfp ps pt);have e2:=(zfo (a:=red s.bK s.den) (b:=red t.bK t.den)).trans (zfp pt ps);have bb:=zyF (red s.bK s.den) (red t.bK t.den);have e3:zI (Hu s) (Hu t)↔s.bK * t.den < t.bK * s.den:=Iff.rfl;have e4:zI (Hu t) (Hu s)↔t.bK * s.den < s.bK * t.den:=Iff.rfl;unfold zfq Hy;rw[<- a,<- b,e3,e4,<- e1,<- e2,bg (by omega) (by omega)];show cond (uh g s) _ _ < 0↔(uh g s=true/\(uh g t=true->_))\/(¬ uh g s=true/\¬ uh g t=true/\_);cases uh g s <;> cases uh g t <;> simp
end Go.Proofs
namespace Go.Pm
section perm
variable {c:Nat->Nat->Int}
theorem vY (x : Nat) : ∀ l : List Nat, (Lc c x l).Perm (x :: l)
  | []=>.refl _
  | y :: r=>by
    unfold Lc;split
    · exact .refl _
    · exact ((vY x r).cons y).trans (.swap _ _ _)
theorem xN (n:Nat):(ul n c).Perm (List.range n):=by
 unfold ul;generalize List.range n=l
 induction l with
 | nil=>exact .refl _
 | cons x l ih=>exact (vY x _).trans (ih.cons x)
def leB (c:Nat->Nat->Int) (a b:Nat):Prop:=¬ c b a < 0
theorem XN {n : Nat} (H : STO n c) {x : Nat} (hx : x < n) : ∀ {l : List Nat}, (∀ y ∈ l, y < n) → l.Pairwise (leB c) → (Lc c x l).Pairwise (leB c)
  | [],_,_=>by simp[Lc]
  | y :: r,hl,hp=>by
    have hy:=hl y kz;rw[List.pairwise_cons] at hp;unfold Lc;split
    · rename_i h;have h:=of_decide_eq_true h;rw[List.pairwise_cons];refine⟨λ z hz=>?_,List.pairwise_cons.2 hp⟩;have hxy:leB c x y:=λ h2=>by
        have:=H.1 x hx;have:=H.2.2 x y x hx hy hx h h2;omega
      rcases jf.1 hz with rfl | hz
      · exact hxy
      · intro h2;exact hp.1 z hz (H.2.2 z x y (hl z (jc _ hz)) hx hy h2 h)
    · rename_i h;have h:=of_decide_eq_false h;rw[List.pairwise_cons];refine⟨λ z hz=>?_,XN H hx (λ z hz=>hl z (jc _ hz)) hp.2⟩;rcases jf.1 ((vY x r).mem_iff.1 hz) with rfl | hz
      · exact h
      · exact hp.1 z hz
theorem Rq {n:Nat}(H:STO n c):(ul n c).Pairwise (leB c):=by
 have key:∀ l:List Nat,(∀ y∈l,y < n)->(l.foldr (Lc c) []).Pairwise (leB c)/\∀ y∈l.foldr (Lc c) [],y < n:=by
  intro l
  induction l with
  | nil=>intro _;exact⟨List.Pairwise.nil,λ y hy=>by simp at hy⟩
  | cons x l ih =>
   intro h;obtain⟨h1,h2⟩:=ih λ y hy=>h y (jc _ hy);have hx:=h x kz;refine⟨XN H hx h2 h1,λ y hy=>?_⟩;rcases jf.1 ((vY x _).mem_iff.1 hy) with rfl | hy
   ·exact hx
   ·exact h2 y hy
 exact (key _ λ y hy=>List.mem_range.1 hy).1
theorem VB {n:Nat}(H:STO n c){l:List Nat}(hp:l.Perm (List.range n)) (hs:l.Pairwise (leB c)):l=ul n c:=by
 refine List.Perm.eq_of_pairwise (le:=leB c) (λ a b ha hb h1 h2=>?_) hs (Rq H) (hp.trans (xN n).symm);have ha:=List.mem_range.1 (hp.mem_iff.1 ha);have hb:=List.mem_range.1 ((xN n).mem_iff.1 hb);by_cases e:a=b
 ·exact e
 ·rcases H.2.1 a b ha hb e with h | h
  ·exact absurd h.1 h2
  ·exact absurd h.1 h1
end perm
end Go.Pm
namespace Go.Proofs
open Go Go.Pm
set_option maxRecDepth 100000
theorem zmH {α : Type} [bG α] [qi α] {C : List PA → ae (List PA)} {caps : List PV} {ag : Bool} {w : Sl α} {cmp : α → α → Int} {R : α → α → Prop} (hn : w.len ≤ 1000000)
    (hc:∀ i j,i < w.len->j < w.len->Ej C caps ag (pR w) i j=some (cmp (w.get i) (w.get j))) (hR:∀ i j,i < w.len->j < w.len->(cmp (w.get i) (w.get j) < 0↔R (w.get i) (w.get j)))
    (irr:∀ i,i < w.len->¬ R (w.get i) (w.get i)) (tot:∀ i j,i < w.len->j < w.len->i ≠ j->R (w.get i) (w.get j)\/R (w.get j) (w.get i)) (asym:∀ i j,i < w.len->j < w.len->R (w.get i) (w.get j)->¬ R (w.get j) (w.get i))
    (tr:∀ i j k,i < w.len->j < w.len->k < w.len->R (w.get i) (w.get j)->R (w.get j) (w.get k)->R (w.get i) (w.get k)) :
    soP C caps ag w=true/\∃ l:List Nat,l.Perm (List.range w.len)/\l.Pairwise (λ i j=>R (w.get i) (w.get j))/\∀ i (h:i < l.length),soG C caps ag w i=w.get l[i]:=by
  have hv:∀ i j,i < w.len->j < w.len->(kQ C caps ag (pR w) i j < 0↔R (w.get i) (w.get j)):=λ i j hi hj=>by
    unfold kQ;rw[hc i j hi hj];exact hR i j hi hj
  have S1:zbP w.len (λ i j=>(Ej C caps ag (pR w) i j).isSome) (kQ C caps ag (pR w))=true:=by
    simp only[zbP,List.all_eq_true,List.mem_range,fM,Bool.or_eq_true,decide_eq_true_eq,Bool.not_eq_true',Bool.and_eq_false_iff,decide_eq_false_iff_not];intro i hi;refine⟨by have : ¬ kQ C caps ag (pR w) i i < 0:=λ h=>irr i hi ((hv i i hi hi).1 h);omega,λ j hj=>?_⟩;refine⟨⟨by rw[hc i j hi hj];rfl,?_⟩,λ k hk=>?_⟩
    · by_cases hij : i = j
      · exact .inl (.inl (by rw[hij];exact Nat.beq_refl j))
      · rcases tot i j hi hj hij with h | h
        · have : ¬ kQ C caps ag (pR w) j i < 0 := fun k => asym i j hi hj h ((hv j i hj hi).1 k);exact .inl (.inr ⟨(hv i j hi hj).2 h,by omega⟩)
        · have : ¬ kQ C caps ag (pR w) i j < 0 := fun k => asym j i hj hi h ((hv i j hi hj).1 k);exact .inr ⟨(hv j i hj hi).2 h,by omega⟩
    · by_cases h1 : kQ C caps ag (pR w) i j < 0
      · by_cases h2 : kQ C caps ag (pR w) j k < 0
        · exact .inr ((hv i k hi hk).2 (tr i j k hi hj hk ((hv i j hi hj).1 h1) ((hv j k hj hk).1 h2)))
        · exact .inl (.inr h2)
      · exact .inl (.inl h1)
  have hb:(znH w.len (λ i j=>(Ej C caps ag (pR w) i j).isSome) (kQ C caps ag (pR w))).b=true:=by
    show (Nat.ble w.len 4611686018427387 && zbP w.len _ _)=true;rw[S1,Nat.ble_eq_true_of_le (by omega)];rfl
  have T:STO w.len (kQ C caps ag (pR w)):=(CP.h _ hb).2.2;have pm:=xN (c:=kQ C caps ag (pR w)) w.len;refine⟨hb,ul w.len (kQ C caps ag (pR w)),pm,?_,λ i h=>?_⟩
  · have nd : (ul w.len (kQ C caps ag (pR w))).Nodup := pm.nodup_iff.2 List.nodup_range;refine (List.Pairwise.and (Rq T) nd).imp_of_mem ?_;intro a b ha hb hab;have ha:=List.mem_range.1 (pm.mem_iff.1 ha);have hb:=List.mem_range.1 (pm.mem_iff.1 hb);rcases tot a b ha hb hab.2 with h | h
    · exact h
    · exact absurd ((hv b a hb ha).2 h) hab.1
  · show (bG.dec (bG.enc (w.get ((ul w.len (kQ C caps ag (pR w))).getD i ((ul w.len (kQ C caps ag (pR w))).getD 0 0))))).1 = _;rw[qi.de,List.getD_eq_getElem?_getD,xY h];rfl
theorem qY (g:Sl aC){i:Nat}(h:i < (kE g).length):(gB g).cu.get i=(kE g)[i]:=by
 have:=wW (kE g) CS i (kE g)[i] (xY h);rw[show (CS:Sl straight).len+i=i by show 0+i=i;omega] at this;exact this
theorem zfr (g:Sl aC):∀ (r acc:List straight) (F:List Int->Option (List Int)),(Bo g r acc F).length<=acc.length+r.length:=by
 intro r
 induction r with
 | nil=>intro acc F;exact iZ _
 | cons y r ih =>
  intro acc F;have a:=ih (acc ++ [y]) (Eg (oZ (eQ y)) [1] F);have b:=ih acc F;rw[OE] at a;simp only[Jz,SC] at a ⊢;simp only[Bo];cases (CX (F (oZ (eQ y))) 0 != 0) <;> cases allB g y <;> simp only[Bool.not_true,Bool.not_false,cond_true,cond_false] <;> omega
theorem NP {g:Sl aC}(G:dm g):(kE g).length<=2304:=by
 unfold kE;cases fV g with
 | true=>exact Nat.zero_le _
 | false =>
  have a:=zfr g (cst g) [] λ _=>none;have b:=NJ G;rw[cond_false];simp only[SC,Nat.zero_add] at a;omega
theorem XO {g:Sl aC}(G:dm g){s:straight}(h:s∈kE g):Dj g s:=by
 cases hf:fV g with
 | true=>unfold kE at h;rw[hf] at h;cases h
 | false =>
  obtain⟨a,b⟩:=(Vy hf).1 s h;exact⟨a,(Ht G (pY G a)).1 b⟩
abbrev zq4 (C:set->ae (Sl straight)):Prop:=∀ g,dm g->∃ D:Sl straight,C (gB g)=.ok D/\D.len=(kE g).length/\∀ i,i < D.len->wV (D.get i)
theorem zKP {E:zau}(zKQ:zq3 E.Sz):zq4 (zka E):=λ g G=>by
  have hl:=NP G;have hG:=G.2.2;have len:=Hr g;have cr:∀ i,i < (gB g).cu.len->Dj g ((gB g).cu.get i):=λ i hi=>by
    rw[qY g (by omega)];exact XO G (List.getElem_mem _)
  have ne:∀ i j,i < (gB g).cu.len->j < (gB g).cu.len->i ≠ j->eQ ((gB g).cu.get i) ≠ eQ ((gB g).cu.get j):=λ i j hi hj hij e=>by
    rw[qY g (by omega),qY g (by omega)] at e;cases hf:fV g with
    | true =>
      have:kE g=[]:=by unfold kE;rw[hf];rfl
      rw[this] at len;simp at len;omega
    | false =>
      have P:=(Vy hf).2.2;rw[List.pairwise_iff_getElem] at P;rcases Nat.lt_or_ge i j with h | h
      · exact P i j (by omega) (by omega) h e
      · exact P j i (by omega) (by omega) (by omega) e.symm
  obtain ⟨hp, l, h1, _, h3⟩ := zmH (C := ae.un E.Sz) (caps := bG.enc (⟨gB g⟩ : Pt set)) (ag := true) (w := (gB g).cu) (cmp := zfq g) (R := Hy g) (by omega)
    (λ i j hi hj=>by
      show (E.Sz ((gB g).cu.get i,(gB g).cu.get j,(⟨gB g⟩:Pt set))).T _=_;rw[zKQ _ _ _ (ug G (cr i hi)) (ug G (cr j hj)) (by show g.len<=1000;omega)];rfl)
    (λ i j hi hj=>zkq G (cr i hi) (cr j hj)) (λ i hi=>zkn) (λ i j hi hj hij=>zko G (cr i hi) (cr j hj) (ne i j hi hj hij)) (λ i j _ _ h=>zfl h)
    (λ i j k hi hj hk a b=>zaB G (cr i hi) (cr j hj) (cr k hk) a b)
  have ll:l.length=(gB g).cu.len:=by rw[h1.length_eq,List.length_range]
  refine⟨⟨(gB g).cu.len,soG (ae.un E.Sz) (bG.enc (⟨gB g⟩:Pt set)) true (gB g).cu⟩,ae.ext λ k=>?_,len,λ i hi=>?_⟩
  · rw[e249,hp,bn,show room (gB g).cu.len 24=true from decide_eq_true (by omega)];rfl
  · have hi : i < (gB g).cu.len := hi;show wV (soG _ _ _ _ i);rw[h3 i (by omega)];exact ug G (cr _ (List.mem_range.1 (h1.mem_iff.1 (List.getElem_mem _))))
def NQ (g:Sl aC):Int:=(DW g false).2
abbrev zq5 (C:Sl aC->ae (Sl Line×Int)):Prop:=∀ g:Sl aC,g.len<=1000->∃ L,C g=.ok (L,NQ g)/\(NQ g=0->0 < L.len)
theorem zKR {E:Vs}(N:Big E.N) (UN:zkm E.c117) (zqM:zq4 E.zgt) (Vb:zki E.c198):zq5 (ze3 E):=λ g hl=>by
 have e:∀ (A:Type) (k:Sl Line×Int->Option A),(ze3 E g).T k=cond ((DW g false).2 != 0) (k (⟨0,λ _=>default⟩,(DW g false).2)) ((E.zgt (DW g false).1).T λ r2=>Bl E E.N r2 (r2.len:Int) 0 ⟨0,λ _=>⟨⟨0,0⟩,⟨0,0⟩⟩⟩ k):=λ A k=>by
  rw[e240,UN g (.inl ⟨(),()⟩) hl,bn];rfl
 unfold NQ;by_cases h0:(DW g false).2=0
 ·have:sU g=true/\iF g=true/\fV g=false:=by
   unfold DW at h0;revert h0;cases sU g <;> cases iF g <;> cases fV g <;> simp
  obtain⟨hg,hs,hf⟩:=this;have G:=nz.1 hg;have e1:(DW g false).1=gB g:=by unfold DW;rw[hg,hs,hf];rfl
  obtain⟨D,d1,d2,d3⟩:=zqM g G;have dl:D.len<=2304:=by rw[d2];exact NP G
  have key:∃ L:Sl Line,L.len=D.len/\∀ (A:Type) (k:Sl Line×Int->Option A),Bl E E.N D (D.len:Int) 0 ⟨0,λ _=>⟨⟨0,0⟩,⟨0,0⟩⟩⟩ k=k (L,0):=by
   let acc:Nat->Sl Line:=λ n=>Nat.rec ⟨0,λ _=>⟨⟨0,0⟩,⟨0,0⟩⟩⟩ (λ i v=>mO v (eQ (D.get i))) n;have al:∀ n,(acc n).len=n:=λ n=>by
    induction n with
    | zero=>rfl
    | succ n ih=>show (acc n).len+1=n+1;rw[ih]
   refine⟨acc D.len,al _,λ A k=>?_⟩;refine jW (X:=λ n i=>Bl E n D (D.len:Int) (i:Int) (acc i) k) (m:=D.len) (λ n i hi=>?_) (λ n=>?_) _ (by have:=N;omega)
   ·rw[ze4,decide_eq_true (by omega),cond_true,bD (by omega),Int.toNat_natCast,Vb _ (d3 i hi),bn,bT (by omega),show room ((acc i).len+1) 32=true from decide_eq_true (by rw[al];omega)];rfl
   ·rw[ze4,decide_eq_false (by omega)];rfl
  obtain⟨L,l1,l2⟩:=key;refine⟨L,ae.ext λ k=>?_,λ _=>?_⟩
  ·rw[e,h0,e1,d1,bn,l2];rfl
  ·rw [l1, d2];unfold iF at hs;rw[hf,cond_false,decide_eq_true_eq] at hs;omega
 ·exact⟨_,ae.ext λ k=>by rw[e,show ((DW g false).2 != 0)=true by simpa using h0];rfl,λ h=>absurd h h0⟩
abbrev zq6 (C:Sl aC->ae (Line×Int)):Prop:=∀ g:Sl aC,g.len<=1000->∃ l,C g=.ok (l,NQ g)
theorem zKS {E:zah}(zqE:zq5 E.zlE):zq6 (zjT E):=λ g hl=>by
 obtain⟨L,h1,h2⟩:=zqE g hl;by_cases h0:NQ g=0
 ·exact⟨_,ae.ext λ k=>by rw[e211,h1,bn,h0];show bf (decide ((0:Int)<=0/\0 < (L.len:Int))) _=_;rw[bD ⟨Int.le_refl 0,by have:=h2 h0;omega⟩];rfl⟩
 ·exact⟨_,ae.ext λ k=>by rw[e211,h1,bn];show cond (NQ g != 0) _ _=_;rw[show (NQ g != 0)=true by simpa using h0];rfl⟩
theorem zq7 {g:Sl aC}(G:dm g):(NQ g != 5)=iF g:=by
 unfold NQ DW;rw[nz.2 G];cases iF g <;> cases fV g <;> rfl
theorem zkr {g:Sl aC}(h:0 < g.len):fV g=dR (λ i=>(g.get (i+1)).Z == (g.get 0).Z) (g.len - 1):=by
 unfold fV;rw[Bool.eq_iff_iff,dC,dC];refine⟨λ a i hi=>a (i+1) (by omega),λ a i hi=>?_⟩;cases i with
 | zero=>simp
 | succ i=>exact a i (by omega)
abbrev zfs (C:Sl aC->ae Bool):Prop:=∀ g:Sl aC,0 < g.len->g.len<=1000->C g=.ok (fV g)
theorem zKT {E:U6}(N:Big E.N):zfs (zi8 E):=λ g h0 h1=>ae.ext λ k=>by
 rw[zHn,bn,zkr h0];have:=loopA (L:=λ n i=>xJ E n g (i+1) k) (p:=λ i=>(g.get (i+1)).Z == (g.get 0).Z) (m:=g.len - 1) (fin:=k true) (stop:=k false) (by omega) (λ n i hi=>by
  show xJ E (n+1) g ((i:Int)+1) k=cond _ (xJ E n g (aO ((i:Int)+1)+1) k) _
  rw[zeb,decide_eq_true (by omega),cond_true,bD (by omega),bD (by omega),show ((i:Int)+1).toNat=i+1 by omega,show (i:Int)+1=((i+1:Nat):Int) by omega,bT (by omega),
   show aO ((i+1:Nat):Int)=((i+1:Nat):Int) from bg (by omega) (by omega)]
  rw[show ((i+1:Nat):Int)+1=((i+1+1:Nat):Int) by omega];cases h:(g.get (i+1)).Z == (g.get 0).Z <;> simp[bne,h]) (λ n=>by
  show xJ E (n+1) g (((g.len - 1:Nat):Int)+1) k=_;rw[zeb,decide_eq_false (by omega)];rfl) E.N (by have:=N;omega)
 rw[show (1:Int)=0+1 from rfl];refine this.trans ?_;cases dR (λ i=>(g.get (i+1)).Z == (g.get 0).Z) (g.len - 1) <;> rfl
theorem VC (g:Sl aC):fF g 1=⟨(g.get 0).Low,(g.get 0).High⟩:=by
 show (⟨_,_⟩:bZ)=_;simp only[fF,gt_iff_lt,Int.lt_irrefl,if_false]
abbrev zks (C:Sl aC->ae (Int×Int×Bool)):Prop:=∀ g:Sl aC,0 < g.len->g.len<=1000->C g=.ok ((fF g g.len).Low,(fF g g.len).High,decide ((fF g g.len).Low<=(fF g g.len).High))
theorem zKU {E:Vk}(N:Big E.N):zks (zjG E):=λ g h0 h1=>ae.ext λ k=>by
 rw[zIP,bD (by omega),bD (by omega),bn];have:=jW (X:=λ n i=>NC E n g (fF g (i+1)).Low (fF g (i+1)).High ((i+1:Nat):Int) k) (m:=g.len - 1) (fin:=k ((fF g g.len).Low,(fF g g.len).High,decide ((fF g g.len).Low<=(fF g g.len).High))) (λ n i hi=>by
  rw[zeu,decide_eq_true (by omega),cond_true,bD (by omega),bD (by omega),bT (by omega),Int.toNat_natCast];rfl) (λ n=>by
  rw[zeu,show g.len - 1+1=g.len by omega,decide_eq_false (by omega)];rfl) E.N (by have:=N;omega)
 rw[show (0+1:Nat)=1 from rfl,VC] at this;exact this
def plN (l:Line) (z:Int):Int:=l.Start.Num * l.dM.cO+l.dM.Num * z * l.Start.cO
def SK (l:Line):Int:=l.Start.cO * l.dM.cO
theorem XP {s:straight}(S:wV s):(-2000000<=(eQ s).dM.Num/\(eQ s).dM.Num<=2000000)/\(-200000000000<=(eQ s).Start.Num/\(eQ s).Start.Num<=200000000000)/\(0 < (eQ s).dM.cO/\(eQ s).dM.cO<=100000)/\0 < (eQ s).Start.cO/\(eQ s).Start.cO<=100000:=by
 have h1:=S.1;have h2:=S.2.1;have h3:=S.2.2;have p:0 < s.den:=by omega
 have a1:=zG (num:=s.bK) p;have a2:=Ho (num:=s.bK) p;have a3:=kw (num:=s.bK) p;have b1:=zG (num:=s.start) p;have b2:=Ho (num:=s.start) p;have b3:=kw (num:=s.start) p;show (_<=(red s.bK s.den).Num/\(red s.bK s.den).Num<=_)/\(_<=(red s.start s.den).Num/\(red s.start s.den).Num<=_)/\(_ < (red s.bK s.den).cO/\(red s.bK s.den).cO<=_)/\_ < (red s.start s.den).cO/\(red s.start s.den).cO<=_;omega
theorem zft {s:straight}(S:wV s) (z:Int):iT s z * SK (eQ s)=plN (eQ s) z * s.den:=by
  have p:0 < s.den:=by have:=S.2.2;omega
  have a1:=mM (num:=s.bK) p;have a2:=lC (num:=s.bK) p;have b1:=mM (num:=s.start) p;have b2:=lC (num:=s.start) p;unfold iT SK plN;show (s.start+s.bK * z) * ((red s.start s.den).cO * (red s.bK s.den).cO)=((red s.start s.den).Num * (red s.bK s.den).cO+(red s.bK s.den).Num * z * (red s.start s.den).cO) * s.den;generalize (Int.gcd s.bK s.den:Int)=G at a1 a2;generalize (Int.gcd s.start s.den:Int)=K at b1 b2;generalize (red s.bK s.den).Num=x at a1 ⊢;generalize (red s.bK s.den).cO=q at a2 ⊢;generalize (red s.start s.den).Num=u at b1 ⊢;generalize (red s.start s.den).cO=v at b2 ⊢;rw[Int.add_mul,Int.add_mul];have e1:s.start * (v * q)=u * q * s.den:=by
    calc s.start * (v * q) = K * u * (v * q) := by rw [b1]
      _=u * q * (K * v):=by ac_rfl
      _=u * q * s.den:=by rw[b2]
  have e2:s.bK * z * (v * q)=x * z * v * s.den:=by
    calc s.bK * z * (v * q) = G * x * z * (v * q) := by rw [a1]
      _=x * z * v * (G * q):=by ac_rfl
      _=x * z * v * s.den:=by rw[a2]
  rw[e1,e2]
theorem XQ {s:straight}(S:wV s):0 < SK (eQ s):=by
 have:=XP S;exact Int.mul_pos this.2.2.2.1 this.2.2.1.1
theorem Rt {s:straight}(S:wV s) (z n:Int):(n * SK (eQ s)<=plN (eQ s) z↔n * s.den<=iT s z)/\(plN (eQ s) z<=n * SK (eQ s)↔iT s z<=n * s.den):=by
 have p:0 < s.den:=by have:=S.2.2;omega
 have d:=XQ S;have c:=zft S z;generalize SK (eQ s)=D at c d ⊢;generalize plN (eQ s) z=M at c ⊢;generalize iT s z=X at c ⊢;have e:n * D * s.den=n * s.den * D:=by ac_rfl
 constructor
 ·constructor
  ·intro h;have:=Int.mul_le_mul_of_nonneg_right h (Int.le_of_lt p);refine Int.le_of_mul_le_mul_right (?_:n * s.den * D<=X * D) d;omega
  ·intro h;have:=Int.mul_le_mul_of_nonneg_right h (Int.le_of_lt d);refine Int.le_of_mul_le_mul_right (?_:n * D * s.den<=M * s.den) p;omega
 ·constructor
  ·intro h;have:=Int.mul_le_mul_of_nonneg_right h (Int.le_of_lt p);refine Int.le_of_mul_le_mul_right (?_:X * D<=n * s.den * D) d;omega
  ·intro h;have:=Int.mul_le_mul_of_nonneg_right h (Int.le_of_lt d);refine Int.le_of_mul_le_mul_right (?_:M * s.den<=n * D * s.den) p;omega
abbrev zkt (C:Line×Int->ae (Int×Int)):Prop:=∀ s z,wV s->-200000<=z/\z<=200000->C (eQ s,z)=.ok (plN (eQ s) z,SK (eQ s))
theorem zKV {E:ZQ} : zkt (zjm E):=λ s z S hz=>ae.ext λ k=>by
 obtain⟨h1,h2,h3,h4⟩:=XP S;have m1:=mJ h2.1 h2.2 (Int.le_of_lt h3.1) h3.2;have m2 : -400000000000<=(eQ s).dM.Num * z/\(eQ s).dM.Num * z<=400000000000:=by
  rcases Int.lt_or_le z 0 with h | h
  ·have := mJ (y := -z) (Y := 200000) h1.1 h1.2 (by omega) (by omega);rw[Int.mul_neg] at this;omega
  ·have := mJ (y := z) (Y := 200000) h1.1 h1.2 h (by omega);omega
 have m3:=mJ m2.1 m2.2 (Int.le_of_lt h4.1) h4.2;have m4:=mJ (x:=(eQ s).Start.cO) (X:=100000) (by omega) h4.2 (Int.le_of_lt h3.1) h3.2;rw[e166,bn,bg (x:=(eQ s).Start.Num * (eQ s).dM.cO) (by omega) (by omega),bg (x:=(eQ s).dM.Num * z) (by omega) (by omega),bg (x:=(eQ s).dM.Num * z * (eQ s).Start.cO) (by omega) (by omega),bg (by omega) (by omega),bg (by omega) (by omega)];rfl
abbrev zq8 (C:Line×aC->ae Bool):Prop:=∀ s g,wV s->fE g->C (eQ s,g)=.ok (oD s g)
theorem zKW {E:Zu}(UQ:zkt E.Oq):zq8 (ziO E):=λ s g S G=>ae.ext λ k=>by
 obtain⟨h1,h2,h3,h4⟩:=XP S;have m4:=mJ (x:=(eQ s).Start.cO) (X:=100000) (by omega) h4.2 (Int.le_of_lt h3.1) h3.2;have d:=XQ S;have m5:SK (eQ s)<=10000000000:=m4.2;have l1:=mJ (mr G).1 (mr G).2 (Int.le_of_lt d) m5;have l2:=mJ (oC G).1 (oC G).2 (Int.le_of_lt d) m5;rw[e116,UQ s g.Z S (by have:=G.1;omega),bn,bn];show cond (decide (aO (g.Low * SK (eQ s))<=plN (eQ s) g.Z)) (k (decide (plN (eQ s) g.Z<=aO (g.High * SK (eQ s))))) (k false)=_;rw[bg (x:=g.Low * SK (eQ s)) (by omega) (by omega),bg (x:=g.High * SK (eQ s)) (by omega) (by omega),kc k];congr 1;unfold oD;have a:=(Rt S g.Z g.Low).1;have b:=(Rt S g.Z g.High).2;rw[Bool.eq_iff_iff,decide_eq_true_eq,<- a,<- b];by_cases h:g.Low * SK (eQ s)<=plN (eQ s) g.Z <;> simp[h]
abbrev Q55 (C:Int×Int×Int×Int->ae Line):Prop:=∀ z p y q,(0<=z/\z<=100000)->(0<=y/\y<=100000)->(-1000000<=p/\p<=1000000)->(-1000000<=q/\q<=1000000)->z ≠ y->C (z,p,y,q)=.ok (eQ (zV z p y q))
theorem s55 {E:E55}(UJ:Hq E.OD):Q55 (F55 E):=λ z p y q hz hy hp hq hn=>ae.ext λ k=>by
 have b1:=mJ hp.1 hp.2 hy.1 hy.2;have b2:=mJ hq.1 hq.2 hz.1 hz.2;rw[e55,bn];unfold zV;by_cases h:z > y
 ·rw[decide_eq_true (show y < z from h),cond_true,if_pos h,zmu,bg (x:=q * z) (by omega) (by omega),bg (x:=p * y) (by omega) (by omega),bg (x:=p - q) (by omega) (by omega),bg (x:=z - y) (by omega) (by omega),bg (x:=q * z - p * y) (by omega) (by omega),
   UJ _ _ (by omega) (by omega) (by omega) (by omega),bn,UJ _ _ (by omega) (by omega) (by omega) (by omega),bn];rfl
 ·rw[decide_eq_false (show ¬ y < z from h),cond_false,if_neg h,zmu,bg (x:=p * y) (by omega) (by omega),bg (x:=q * z) (by omega) (by omega),bg (x:=q - p) (by omega) (by omega),bg (x:=y - z) (by omega) (by omega),bg (x:=p * y - q * z) (by omega) (by omega),
   UJ _ _ (by omega) (by omega) (by omega) (by omega),bn,UJ _ _ (by omega) (by omega) (by omega) (by omega),bn];rfl
abbrev zq9 (C:aC×Int->ae Int):Prop:=∀ g e,C (g,e)=.ok (cond (e == 0) g.Low g.High)
theorem zKY {E:zat} : zq9 (zj8 E):=λ g e=>ae.ext λ k=>by rw[e247,bn,kc k]
theorem zyH {α:Type} [bG α] [qi α] (a b:α):Qr [a,b] 0=a:=by
 show (bG.dec (CV (shp 8) (bG.enc a) (bG.enc a))).1=a;rw[jM (pz 8) (bG.sm _ _),qi.de]
theorem zyI {α:Type} [bG α] [qi α] (a b:α):Qr [a,b] 1=b:=by
 show (bG.dec (CV (shp 8) (bG.enc a) (bG.enc b))).1=b;rw[jM (pz 8) (bG.sm _ _),qi.de]
theorem Ru {l:Sl aQ}{p:Int}(h:nR l p=true){i:Nat}(hi:i < l.len):(0<=(l.get i).dI.Low/\(l.get i).dI.Low<=(l.get i).dI.High/\(l.get i).dI.High<=aO (p.tdiv 2)) /\
  (i=0\/((l.get (i - 1)).Time < (l.get i).Time/\(l.get (i - 1)).dI.Low<=(l.get i).dI.Low)):=by
 simp only[nR,fM,dC] at h;have:=h.1 i hi;simp only[stB,inB,fM,Bool.or_eq_true,decide_eq_true_eq] at this;exact⟨⟨this.1.1.2.1,this.1.1.2.2,this.1.2⟩,this.2.imp id λ x=>⟨x.1.1,x.1.2⟩⟩
theorem NR {l : Sl aQ} {p : Int} (h : nR l p = true) : ∀ {j : Nat}, j < l.len → ∀ {i : Nat}, i < j → (l.get i).Time < (l.get j).Time ∧ (l.get i).dI.Low ≤ (l.get j).dI.Low
  | 0,_,_,hi=>absurd hi (by omega)
  | j+1,hj,i,hi=>by
    have:=(Ru h hj).2;rw[Nat.add_sub_cancel] at this;rcases this with h0 | ⟨a,b⟩
    · omega
    · by_cases e : i = j
      · rw[e];exact⟨a,b⟩
      · obtain ⟨c, d⟩ := NR h (j := j) (by omega) (i := i) (by omega);omega
theorem Rw (l : Sl aQ) (t : Int) : ∀ n, qM l t n = 0 ∨ ∃ i, i < n ∧ (l.get i).Time ≤ t ∧ qM l t n = (l.get i).dI.Low
  | 0=>.inl rfl
  | n+1=>by
    simp only[qM];by_cases h:(l.get n).Time<=t
    · rw[decide_eq_true h];exact .inr ⟨n,by omega,h,rfl⟩
    · rw [decide_eq_false h];rcases Rw l t n with e | ⟨i,a,b,c⟩
      · exact .inl e
      · exact .inr ⟨i,by omega,b,c⟩
theorem Rx (l : Sl aQ) (t z : Int) : ∀ d, d ≤ l.len → uX l t z d = z ∨ ∃ j, j < l.len ∧ t ≤ (l.get j).Time ∧ uX l t z d = (l.get j).dI.High
  | 0,_=>.inl rfl
  | d+1,hd=>by
    simp only[uX];by_cases h:(l.get (l.len - 1 - d)).Time >= t
    · rw[decide_eq_true h];exact .inr ⟨l.len - 1 - d,by omega,h,rfl⟩
    · rw [decide_eq_false h];exact Rx l t z d (by omega)
theorem zku {p:af}(hp:Xo p) (h:nR p.aQ p.aZ=true){t:Int}(ht:0<=t/\t<=1000000):0<=(pW p t).1/\(pW p t).1<=(pW p t).2/\(pW p t).2<=p.aZ:=by
 obtain⟨_,_,_,_,hpi,_,_,_,_,hj,_⟩:=hp;have e1:aO (t - p.dH)=t - p.dH:=bg (by omega) (by omega);have e2:aO (t+p.dH)=t+p.dH:=bg (by omega) (by omega);have e4:0<=p.aZ.tdiv 2/\p.aZ.tdiv 2<=p.aZ:=by
  rw[Int.tdiv_eq_ediv_of_nonneg (by omega)];omega
 have e3:aO (p.aZ.tdiv 2)=p.aZ.tdiv 2:=bg (by omega) (by omega);have a:=Rw p.aQ (t - p.dH) p.aQ.len;have b:=Rx p.aQ (t+p.dH) (p.aZ.tdiv 2) p.aQ.len (iZ _);unfold pW;rw[e1,e2,e3];show 0<=qM _ _ _/\qM _ _ _<=uX _ _ _ _/\uX _ _ _ _<=_;rcases a with a | ⟨i,a1,a2,a3⟩ <;> rcases b with b | ⟨j,b1,b2,b3⟩
 ·rw[a,b];omega
 ·rw[a,b3];have:=(Ru h b1).1;rw[e3] at this;omega
 ·rw[a3,b];have:=(Ru h a1).1;rw[e3] at this;omega
 ·rw [a3, b3];have x:=(Ru h a1).1;have y:=(Ru h b1).1;rw[e3] at x y;by_cases e:i=j
  ·subst e;omega
  ·have hij:i < j:=by
    rcases Nat.lt_or_ge i j with h1 | h1
    ·exact h1
    ·have:=(NR h a1 (i:=j) (by omega)).1;omega
   have:=(NR h b1 hij).2;omega
theorem NS {p:af}(hp:Xo p){a b:Int}(h1:a<=b) (h2:p.First - p.aZ - p.dD<=a) (h3:b<=p.First+(p.bM+1) * p.aZ+p.dD):fE (gate p a b):=by
 obtain⟨_,_,hz,hf,hpi,hst,hsp,ho,_,_,_,hl,hr⟩:=hp;obtain⟨e1,e2,e3⟩:=zxI hf hpi hst hsp ho;obtain⟨q1,q2⟩:=vV (a:=p.bM+1) (b:=p.aZ) (by omega) (by omega);refine⟨hz,?_⟩;show _<=aO (a+p.bu.Low)/\aO (a+p.bu.Low)<=aO (b+p.bu.High)/\aO (b+p.bu.High)<=_;rw[bg (x:=a+p.bu.Low) (by omega) (by omega),bg (x:=b+p.bu.High) (by omega) (by omega)];omega
theorem zfu {p:af}{a b c d:Int}(h1:fE (gate p a b)) (h2:fE (gate p c d)) (h:(gate p a b).Low<=(gate p c d).High):fE ⟨p.Z,(gate p a b).Low,(gate p c d).High⟩ :=
 ⟨h1.1,h1.2.1,h,h2.2.2.2⟩
theorem zyJ {b:Bool}{x y:Sl aC}(h1:∀ i,i < x.len->fE (x.get i)) (h2:∀ i,i < y.len->fE (y.get i)) {i:Nat}(hi:i < (cond b x y).len):fE ((cond b x y).get i):=by
 cases b
 ·exact h2 i hi
 ·exact h1 i hi
theorem zra {p:af}(hp:Xo p) (hb:Zm p=true){h:bz}(hh:hpB p h=true){i:Nat}(hi:i < (gaP p h).len):fE ((gaP p h).get i):=by
 simp only[hpB,inB,fM,decide_eq_true_eq] at hh;obtain⟨⟨⟨⟨⟨hc,hm⟩,_⟩,_⟩,_⟩,hk⟩:=hh;obtain⟨hki,_,hz,hf,hpi,hst,hsp,ho,_,hj,_,hl,hr⟩:=hp;have hp':Xo p:=zxJ hb;have q0:=vV (a:=h.Channel) (b:=p.aZ) (by omega) (by omega);have q1:=vV (a:=h.Channel+1) (b:=p.aZ) (by omega) (by omega);have q2:=vV (a:=h.Channel+h.iO - 1) (b:=p.aZ) (by omega) (by omega);have q3:=vV (a:=p.bM+1) (b:=p.aZ) (by omega) (by omega);have m0:h.Channel * p.aZ+p.aZ<=(p.bM+1) * p.aZ:=by
  have:=Int.mul_le_mul_of_nonneg_right (show h.Channel+1<=p.bM+1 by omega) (show 0<=p.aZ by omega);rw[Int.add_mul,Int.one_mul] at this;omega
 have m1:(h.Channel+1) * p.aZ<=(p.bM+1) * p.aZ:=Int.mul_le_mul_of_nonneg_right (by omega) (by omega);revert hi;unfold gaP;cases hk2:p.Kind != 2 with
 | true =>
  simp only[cond_true]
  rw[bg (x:=h.Channel+h.iO) (by omega) (by omega),bg (x:=h.Channel+h.iO - 1) (by omega) (by omega),bg (x:=(h.Channel+h.iO - 1) * p.aZ) (by omega) (by omega),bg (x:=p.First+(h.Channel+h.iO - 1) * p.aZ) (by omega) (by omega),bg (x:=p.First+(h.Channel+h.iO - 1) * p.aZ - p.dD) (by omega) (by omega),
   bg (x:=h.Channel+1) (by omega) (by omega),bg (x:=(h.Channel+1) * p.aZ) (by omega) (by omega),bg (x:=p.First+(h.Channel+1) * p.aZ) (by omega) (by omega),bg (x:=p.First+(h.Channel+1) * p.aZ+p.dD) (by omega) (by omega)]
  by_cases c:p.First+(h.Channel+h.iO - 1) * p.aZ - p.dD > p.First+(h.Channel+1) * p.aZ+p.dD
  ·rw[decide_eq_true c];intro hi;exact absurd hi (SE _)
  ·rw [decide_eq_false c];intro hi;exact NS hp' (by omega) (by omega) (by omega)
 | false =>
  have hk3:p.Kind=2:=by simpa using hk2
  have hd:0<=h.aQ/\h.aQ<=1000000:=by
   simp only[knB,hk3,beq_self_eq_true,cond_true,inB,fM,decide_eq_true_eq] at hk;exact hk.2
  have hs:nR p.aQ p.aZ=true:=by
   simp only[Zm,fM,hk3,beq_self_eq_true,cond_true] at hb;exact hb.1.1.2
  obtain⟨r1,r2,r3⟩:=zku hp' hs hd;simp only[cond_false];generalize pW p h.aQ=R at r1 r2 r3 ⊢;rw[bg (x:=h.Channel * p.aZ) (by omega) (by omega),bg (x:=p.First+h.Channel * p.aZ) (by omega) (by omega),bg (x:=p.First+h.Channel * p.aZ - R.2) (by omega) (by omega),bg (x:=p.First+h.Channel * p.aZ - R.1) (by omega) (by omega),bg (x:=p.First+h.Channel * p.aZ+R.1) (by omega) (by omega),bg (x:=p.First+h.Channel * p.aZ+R.2) (by omega) (by omega)];have g1:fE (gate p (p.First+h.Channel * p.aZ - R.2) (p.First+h.Channel * p.aZ - R.1)):=NS hp' (by omega) (by omega) (by omega);have g2:fE (gate p (p.First+h.Channel * p.aZ+R.1) (p.First+h.Channel * p.aZ+R.2)):=NS hp' (by omega) (by omega) (by omega);have g3:(gate p (p.First+h.Channel * p.aZ - R.2) (p.First+h.Channel * p.aZ - R.1)).Low<=(gate p (p.First+h.Channel * p.aZ+R.1) (p.First+h.Channel * p.aZ+R.2)).High:=by
   show aO _<=aO _;rw[bg (by omega) (by omega),bg (by omega) (by omega)];omega
  intro hi;refine zyJ (λ _ _=>zfu g1 g2 g3) (λ i hi=>?_) hi;have hi:i < 2:=hi;rcases (show i=0\/i=1 by omega) with e | e <;> subst e
  ·show fE (Qr _ 0);rw[zyH];exact g1
  ·show fE (Qr _ 1);rw[zyI];exact g2
theorem zrb {s:au}(hs:dU s=true){h:bz}(hh:jX s h=true){i:Nat}(hi:i < (xW s h).len):fE ((xW s h).get i):=by
 have hp:=GK hh;have h1:h.af.toNat < s.aj.len:=by omega
 simp only[jX,fM,decide_eq_true_eq] at hh;exact zra (vW hs h1) (GI hs h1) hh.2 hi
abbrev iH:=List (Int×Int)
section
variable (ag:iH->Bool) (us:iH->Int->Bool) (sd:Nat->iH)
def gr : Nat → iH → Nat → List iH
  | 0,_,_=>[]
  | f+1,c,i=>(sd i).flatMap λ p=>cond (us c p.1 || !ag (c ++ [p])) [] ((c ++ [p]) :: gr f (c ++ [p]) (p.1.toNat+1))
def NT : Nat → List iH → iH → Nat → List iH
  | 0,out,_,_=>out
  | f+1,out,c,i=>(sd i).foldl (λ out p=>cond (us c p.1 || (decide (2000 < out.length) || !ag (c ++ [p]))) out (NT f (out ++ [c ++ [p]]) (c ++ [p]) (p.1.toNat+1))) out
inductive Ch : iH → Nat → Prop
  | nil:Ch [] 0
  | snoc {c:iH} {i:Nat} {p:Int×Int} : Ch c i->p∈sd i->us c p.1=false->ag (c ++ [p])=true->Ch (c ++ [p]) (p.1.toNat+1)
end
section
variable {ag:iH->Bool}{us:iH->Int->Bool}{sd:Nat->iH}
theorem NU : ∀ {f c i x}, x ∈ gr ag us sd f c i → ∃ p e, p ∈ sd i ∧ x = c ++ p :: e
  | f+1,c,i,x,h=>by
    simp only[gr,jr] at h;obtain⟨p,hp,h⟩:=h;cases hc:us c p.1 || !ag (c ++ [p]) with
    | true=>rw[hc] at h;cases h
    | false =>
      rw[hc] at h;rcases jf.1 h with h | h
      · exact⟨p,[],hp,h⟩
      · obtain ⟨q, e, _, h⟩ := NU h;exact⟨p,q :: e,hp,by rw[h];simp⟩
theorem zmI : ∀ {f c i x}, Ch ag us sd c i → x ∈ gr ag us sd f c i → ∃ j, Ch ag us sd x j
  | f+1,c,i,x,hc,h=>by
    simp only[gr,jr] at h;obtain⟨p,hp,h⟩:=h;cases hu:us c p.1 || !ag (c ++ [p]) with
    | true=>rw[hu] at h;cases h
    | false =>
      rw[hu] at h;simp only[Bool.or_eq_false_iff,Bool.not_eq_false'] at hu;have hn:=Ch.snoc hc hp hu.1 hu.2;rcases jf.1 h with h | h
      · exact⟨_,h ▸ hn⟩
      · exact zmI hn h
theorem zyK {f:Nat} : ∀ {c j},Ch ag us sd c j->c.length<=f->(c=[]\/c∈gr ag us sd f [] 0)/\∀ x∈gr ag us sd (f - c.length) c j,x∈gr ag us sd f [] 0:=by
 intro c j h
 induction h with
 | nil=>intro _;exact⟨.inl rfl,λ x hx=>hx⟩
 | @snoc c i p hc hp hu ha ih =>
  intro hl;rw[OE] at hl ⊢;simp only[Jz,SC] at hl ⊢;obtain⟨_,ih⟩:=ih (by omega);have e:gr ag us sd (f - c.length) c i=(sd i).flatMap λ p=>cond (us c p.1 || !ag (c ++ [p])) [] ((c ++ [p]) :: gr ag us sd (f - (c.length+1)) (c ++ [p]) (p.1.toNat+1)):=by
   rw[show f - c.length=(f - (c.length+1))+1 by omega,gr]
  have hin:∀ y∈(c ++ [p]) :: gr ag us sd (f - (c.length+1)) (c ++ [p]) (p.1.toNat+1),y∈gr ag us sd (f - c.length) c i:=λ y hy=>by
   rw[e,jr];exact⟨p,hp,by rw[hu,ha];exact hy⟩
  exact⟨.inr (ih _ (hin _ kz)),λ x hx=>ih _ (hin _ (jc _ hx))⟩
theorem zJ (hs : ∀ i, (sd i).Nodup) : ∀ f c i, (gr ag us sd f c i).Nodup
  | 0,_,_=>List.Pairwise.nil
  | f+1,c,i=>by
    rw[gr];unfold List.Nodup;rw[List.pairwise_flatMap];have pre:∀ p,∀ x∈cond (us c p.1 || !ag (c ++ [p])) [] ((c ++ [p]) :: gr ag us sd f (c ++ [p]) (p.1.toNat+1)),∃ e,x=c ++ p :: e:=λ p x hx=>by
      cases hu:us c p.1 || !ag (c ++ [p]) with
      | true=>rw[hu] at hx;cases hx
      | false =>
        rw[hu] at hx;rcases jf.1 hx with h | h
        · exact⟨[],h⟩
        · obtain ⟨q, e, _, h⟩ := NU h;exact⟨q :: e,by rw[h];simp⟩
    refine⟨λ p _=>?_,(hs i).imp_of_mem fun {p q} _ _ hpq x hx y hy e=>?_⟩
    · cases us c p.1 || !ag (c ++ [p]) with
      | true=>exact List.Pairwise.nil
      | false =>
        refine List.Pairwise.cons (λ y hy e=>?_) (zJ hs f _ _);obtain⟨q,r,_,h⟩:=NU hy;rw[<- e] at h;have:=congrArg List.length h;simp at this
    · obtain ⟨a, ha⟩ := pre p x hx;obtain⟨b,hb⟩:=pre q y hy;rw[ha,hb] at e;have:=List.append_cancel_left e;rw[BG] at this;exact hpq this.1
theorem zfv : ∀ {f out c i}, (out.length ≤ (NT ag us sd f out c i).length) ∧ ((NT ag us sd f out c i).length ≤ 2000 → NT ag us sd f out c i = out ++ gr ag us sd f c i)
  | 0,out,c,i=>⟨iZ _,λ _=>by simp[NT,gr]⟩
  | f+1,out,c,i=>by
    simp only[NT,gr];generalize sd i=l
    induction l generalizing out with
    | nil=>exact⟨iZ _,λ _=>by simp⟩
    | cons p l ih =>
      rw[List.foldl_cons,lG];cases hu:us c p.1 || !ag (c ++ [p]) with
      | true =>
        have:(us c p.1 || (decide (2000 < out.length) || !ag (c ++ [p])))=true:=by
          revert hu;cases us c p.1 <;> cases ag (c ++ [p]) <;> simp
        rw[this];exact ih out
      | false =>
        have:(us c p.1 || (decide (2000 < out.length) || !ag (c ++ [p])))=decide (2000 < out.length):=by
          revert hu;cases us c p.1 <;> cases ag (c ++ [p]) <;> simp
        rw[this,cond_false];by_cases h:2000 < out.length
        · rw [decide_eq_true h];obtain⟨a,_⟩:=ih out;exact⟨a,λ h2=>by have:_<=2000:=h2;rw[cond_true] at this;omega⟩
        · rw [decide_eq_false h, cond_false];obtain⟨a,b⟩:=zfv (f:=f) (out:=out ++ [c ++ [p]]) (c:=c ++ [p]) (i:=p.1.toNat+1);obtain⟨a2,b2⟩:=ih (NT ag us sd f (out ++ [c ++ [p]]) (c ++ [p]) (p.1.toNat+1));rw[OE] at a;refine⟨by omega,λ h2=>?_⟩;rw[b2 h2,b (by omega)];simp
theorem XR : ∀ {f out c i x}, Ch ag us sd c i → x ∈ NT ag us sd f out c i → x ∈ out ∨ ∃ j, Ch ag us sd x j
  | 0,out,c,i,x,_,h=>.inl h
  | f+1,out,c,i,x,hc,h=>by
    simp only[NT] at h;have key:∀ (l:iH) (out:List iH),(∀ p∈l,p∈sd i)->x∈l.foldl (λ out p=>cond (us c p.1 || (decide (2000 < out.length) || !ag (c ++ [p]))) out (NT ag us sd f (out ++ [c ++ [p]]) (c ++ [p]) (p.1.toNat+1))) out->x∈out\/∃ j,Ch ag us sd x j:=by
      intro l
      induction l with
      | nil=>intro out _ h;exact .inl h
      | cons p l ih =>
        intro out hp h;rw[List.foldl_cons] at h;have ih:=ih _ (λ q hq=>hp q (jc _ hq)) h;rcases ih with ih | ih
        · cases hu:us c p.1 || (decide (2000 < out.length) || !ag (c ++ [p])) with
          | true=>rw[hu] at ih;exact .inl ih
          | false =>
            rw[hu] at ih;simp only[Bool.or_eq_false_iff,Bool.not_eq_false'] at hu;have hn:=Ch.snoc hc (hp p kz) hu.1 hu.2.2;rcases XR hn ih with h | h
            · rcases dL.1 h with h | h
              · exact .inl h
              · rw[jL.1 h];exact .inr ⟨_,hn⟩
            · exact .inr h
        · exact .inr ih
    exact key _ _ (λ _ h=>h) h
end
/-! Hits that are chosen, and what a muon can be. -/
theorem zkv {ag ag' : iH → Bool} {us us' : iH → Int → Bool} {sd sd' : Nat → iH} (hs : ∀ i p, p ∈ sd i → p ∈ sd' i) (hu : ∀ c i p, Ch ag us sd c i → p ∈ sd i → us' c p.1 = us c p.1) (ha : ∀ c i p, Ch ag us sd c i → p ∈ sd i → ag (c ++ [p]) = true → ag' (c ++ [p]) = true) :
  ∀ {c i},Ch ag us sd c i->Ch ag' us' sd' c i:=by
 intro c i h
 induction h with
 | nil=>exact .nil
 | snoc hc hp h1 h2 ih=>exact .snoc ih (hs _ _ hp) (by rw[hu _ _ _ hc hp];exact h1) (ha _ _ _ hc hp h2)
theorem zrd {α : Type} {F : List α} (len : α → Nat) (sub : α → α → Prop) (refl : ∀ a, sub a a) (tr : ∀ a b c, sub a b → sub b c → sub a c) (B : Nat) (hB : ∀ a ∈ F, len a ≤ B) :
  ∀ a∈F,∃ m∈F,sub a m/\∀ x∈F,¬ (len m < len x/\sub m x):=by
 have key:∀ d a,a∈F->B - len a<=d->∃ m∈F,sub a m/\∀ x∈F,¬ (len m < len x/\sub m x):=by
  intro d
  induction d with
  | zero =>
   intro a ha hd;exact⟨a,ha,refl a,λ x hx h=>by have:=hB x hx;omega⟩
  | succ d ih =>
   intro a ha hd;by_cases h:∃ x∈F,len a < len x/\sub a x
   ·obtain ⟨x, hx, h1, h2⟩ := h;have:=hB x hx;obtain⟨m,hm,h3,h4⟩:=ih x hx (by omega);exact⟨m,hm,tr _ _ _ h2 h3,h4⟩
   ·exact⟨a,ha,refl a,λ x hx h2=>h ⟨x,hx,h2⟩⟩
 exact λ a ha=>key _ a ha (iZ _)
def gY (t:ai):iH:=(List.range t.Hits.len).map λ i=>(t.Hits.get i,t.bC.get i)
theorem mQ (t:ai):(gY t).length=t.Hits.len:=by simp[gY]
theorem NV {t:ai}{i:Nat}(h:i < t.Hits.len):(gY t)[i]? = some (t.Hits.get i,t.bC.get i):=by
 simp[gY,List.getElem?_range h]
def OC (x:Int) (t:ai):Prop:=t.View=x/\t.bC.len=t.Hits.len
def vg (l:Sl bz) (c:iH) (i:Int):Bool:=c.any λ q=>(l.get q.1.toNat).af == (l.get i.toNat).af
def DY (s:au) (l:Sl bz) (x:Int) (i:Nat):iH:=sdL s l x (l.len - i) i
theorem zK {i : Int} {y : Int × Int} : ∀ {d k}, y ∈ Xq i d k ↔ y.1 = i ∧ (k : Int) ≤ y.2 ∧ y.2 < ((k + d : Nat) : Int)
  | 0,k=>by
    refine⟨λ h=>(by cases h),λ h=>?_⟩;omega
  | d+1,k=>by
    rw[Xq,jf,zK];constructor
    · rintro (h | h)
      · rw[h];show i=i/\(k:Int)<=(k:Int)/\(k:Int) < _;omega
      · omega
    · intro h;by_cases e:y.2=(k:Int)
      · exact .inl (Prod.ext h.1 e)
      · exact .inr (by omega)
theorem NW {s : au} {l : Sl bz} {x : Int} {y : Int × Int} : ∀ {d i}, y ∈ sdL s l x d i ↔ ((i : Int) ≤ y.1 ∧ y.1 < ((i + d : Nat) : Int)) ∧ OA s l y.1.toNat = x ∧ 0 ≤ y.2 ∧ y.2 < (xH s l y.1.toNat : Int)
  | 0,i=>⟨λ h=>(by cases h),λ h=>by omega⟩
  | d+1,i=>by
    rw[sdL,dL,NW];constructor
    · rintro (h | h)
      · cases hv:OA s l i == x with
        | false=>rw[hv] at h;cases h
        | true =>
          rw[hv,cond_true,zK] at h;rw[h.1,Int.toNat_natCast];exact⟨by omega,eq_of_beq hv,by omega,by omega⟩
      · exact⟨by omega,h.2⟩
    · rintro ⟨h1, h2, h3, h4⟩;by_cases e:y.1=(i:Int)
      · refine .inl ?_;rw[e,Int.toNat_natCast] at h2 h4;rw[beq_iff_eq.2 h2,cond_true,zK];exact⟨e,by omega,by omega⟩
      · exact .inr ⟨by omega,h2,h3,h4⟩
theorem NY {s:au}{l:Sl bz}{x:Int}{y:Int×Int}{i:Nat}(hi:i<=l.len):y∈DY s l x i↔((i:Int)<=y.1/\y.1 < (l.len:Int))/\OA s l y.1.toNat=x/\0<=y.2/\y.2 < (xH s l y.1.toNat:Int):=by
 unfold DY;rw[NW,show i+(l.len - i)=l.len by omega]
theorem vk {s:au}{l:Sl bz}{x:Int}{y:Int×Int}{i:Nat}(h:y∈DY s l x i):i < l.len/\((i:Int)<=y.1/\y.1 < (l.len:Int))/\OA s l y.1.toNat=x/\0<=y.2/\y.2 < (xH s l y.1.toNat:Int):=by
 by_cases hi:i<=l.len
 ·have:=(NY hi).1 h;exact⟨by omega,this⟩
 ·unfold DY at h;rw[show l.len - i=0 by omega] at h;cases h
theorem KP (i : Int) : ∀ d k, (Xq i d k).Nodup
  | 0,_=>List.Pairwise.nil
  | d+1,k=>by
    rw[Xq];refine List.Pairwise.cons (λ y hy e=>?_) (KP i d (k+1));have:=zK.1 hy;rw[<- e] at this;have:=this.2.1;simp only at this;omega
theorem KQ (s : au) (l : Sl bz) (x : Int) : ∀ d i, (sdL s l x d i).Nodup
  | 0,_=>List.Pairwise.nil
  | d+1,i=>by
    rw[sdL];unfold List.Nodup;rw[List.pairwise_append];refine⟨?_,KQ s l x d (i+1),λ a ha b hb e=>?_⟩
    · cases OA s l i == x
      · exact List.Pairwise.nil
      · exact KP _ _ _
    · have h1:a.1=(i:Int):=by
        cases hv:OA s l i == x with
        | false=>rw[hv] at ha;cases ha
        | true=>rw[hv,cond_true] at ha;exact (zK.1 ha).1
      have:=(NW.1 hb).1;rw[<- e] at this;omega
structure Val (s : au) (l : Sl bz) (x : Int) (c : iH) (j : Nat) : Prop where
  le:c.length<=j/\j<=l.len
  mem:∀ p∈c,(0<=p.1/\p.1 < (j:Int))/\OA s l p.1.toNat=x/\0<=p.2/\p.2 < (xH s l p.1.toNat:Int)
  pw:c.Pairwise λ p q=>p.1 < q.1/\(l.get p.1.toNat).af ≠ (l.get q.1.toNat).af
theorem Val.snoc {s:au}{l:Sl bz}{x:Int}{c:iH}{j:Nat}{p:Int×Int}(h:Val s l x c j) (hp:p∈DY s l x j) (hu:vg l c p.1=false):Val s l x (c ++ [p]) (p.1.toNat+1):=by
 obtain⟨h1,h2,h3,h4⟩:=vk hp;have hle:=h.le;refine⟨by rw[OE];simp only[Jz,SC];omega,λ q hq=>?_,?_⟩
 ·rcases dL.1 hq with hq | hq
  ·have := h.mem q hq;exact⟨by omega,this.2⟩
  ·rw[jL.1 hq];exact⟨by omega,h3,h4⟩
 ·rw [List.pairwise_append];refine⟨h.pw,List.pairwise_singleton _ _,λ a ha b hb=>?_⟩;rw[jL.1 hb];have:=(h.mem a ha).1;refine⟨by omega,λ e=>?_⟩;unfold vg at hu;rw[List.any_eq_false] at hu;exact hu a ha (by simpa using e)
theorem Bv {ag:iH->Bool}{s:au}{l:Sl bz}{x:Int}{c:iH}{j:Nat}(h:Ch ag (vg l) (DY s l x) c j):Val s l x c j:=by
 induction h with
 | nil=>exact⟨⟨iZ _,Nat.zero_le _⟩,(λ p h=>by cases h),List.Pairwise.nil⟩
 | snoc _ hp hu _ ih=>exact ih.snoc hp hu
theorem vZ {t:ai}{c:iH}(hc:gY t=c){i:Nat}(hi:i < t.Hits.len):c[i]? = some (t.Hits.get i,t.bC.get i):=by rw[<- hc];exact NV hi
theorem DZ {s:au}{l:Sl bz}{x:Int}{t:ai}{c:iH}{j:Nat}(hx:vwB x=true) (ht:OC x t) (hc:gY t=c) (h:Val s l x c j) (hn:c ≠ []):Zp s l t=true:=by
 have hlen:c.length=t.Hits.len:=by rw[<- hc,mQ]
 have hle:=h.le;have pw:=List.pairwise_iff_getElem.1 h.pw;have ge:∀ i (hi:i < t.Hits.len) (hi':i < c.length),c[i]=(t.Hits.get i,t.bC.get i):=λ i hi hi'=>by
  have:=vZ hc hi;rw[xY hi'] at this;exact Option.some.inj this
 simp only[Zp,fM,decide_eq_true_eq,dC];refine⟨⟨⟨by rw[ht.1];exact hx,?_⟩,ht.2⟩,λ i hi=>?_⟩
 ·rcases Nat.eq_zero_or_pos t.Hits.len with h0 | h0
  ·rw[h0] at hlen;exact absurd (List.length_eq_zero_iff.1 hlen) hn
  ·exact h0
 ·have hi' : i < c.length := by omega
  have m:=h.mem c[i] (List.getElem_mem _);rw[ge i hi hi'] at m;simp only[chP,fM,Bool.or_eq_true,decide_eq_true_eq,inB,usB,dC,Bool.not_eq_true',decide_eq_false_iff_not];refine⟨⟨⟨⟨by simp only at m;omega,?_⟩,by rw[ht.1];exact m.2.1⟩,?_⟩,λ k hk=>?_⟩
  ·rcases Nat.eq_zero_or_pos i with h0 | h0
   ·exact .inl h0
   ·refine .inr ?_;have:=(pw (i - 1) i (by omega) hi' (by omega)).1;rw[ge i hi hi',ge (i - 1) (by omega) (by omega)] at this;exact this
  ·have := m.2.2;show 0<=t.bC.get i/\t.bC.get i<=((xH s l (t.Hits.get i).toNat:Nat):Int) - 1;simp only at this;omega
  ·have := (pw k i (by omega) hi' hk).2;rw[ge i hi hi',ge k (by omega) (by omega)] at this;exact this
def xX (s:au) (l:Sl bz) (c:iH):Sl aC:=gw z0 (λ i=>(xW s (l.get ((c[i]?).getD (0,0)).1.toNat)).get ((c[i]?).getD (0,0)).2.toNat) c.length
theorem NZ {s:au}{l:Sl bz}{t:ai}{c:iH}(hc:gY t=c):gtS s l t=xX s l c:=by
 unfold gtS xX;rw[<- hc,mQ];exact zf λ i hi=>by rw[NV hi];rfl
theorem N7 {s:au}{l:Sl bz}{x:Int}{c:iH}{j:Nat}(he:Evt s l) (hl:l.len<=24) (h:Val s l x c j) (hn:c ≠ []):dm (xX s l c):=by
 have e:(xX s l c).len=c.length:=GL _ _ _;have hle:=h.le;refine⟨λ i hi=>?_,by
  rw[e];rcases Nat.eq_zero_or_pos c.length with h0 | h0
  ·exact absurd (List.length_eq_zero_iff.1 h0) hn
  ·exact h0,by omega⟩
 rw[e] at hi;show fE ((gw z0 _ c.length).get i);rw[UH hi,xY hi];have m:=h.mem c[i] (List.getElem_mem _);have m2:=m.2.2;show fE ((xW s (l.get (c[i]).1.toNat)).get (c[i]).2.toNat);refine zrb he.se (dC.1 he.hi _ (by omega)) ?_;show _ < xH s l (c[i]).1.toNat;omega
def zmJ (g:Sl aC):Prop:=∀ k,k < g.len->(g.get k).Z=(g.get 0).Z
theorem Hz {g : Sl aC} {i b : Nat} {x : straight} (hx : x ∈ xM (g.get i) (g.get b)) : ∀ m k, k ≤ b → b < k + m → x ∈ zH g i m k
  | 0,k,h1,h2=>by omega
  | m+1,k,h1,h2=>by
    show x∈xM (g.get i) (g.get k) ++ zH g i m (k+1);by_cases h:k=b
    · rw[h];exact List.mem_append_left _ hx
    · exact List.mem_append_right _ (Hz hx m (k+1) (by omega) (by omega))
theorem HY {g : Sl aC} {a : Nat} {x : straight} (hx : x ∈ zH g a (g.len - (a + 1)) (a + 1)) : ∀ m i, i ≤ a → a < i + m → x ∈ Js g m i
  | 0,i,h1,h2=>by omega
  | m+1,i,h1,h2=>by
    show x∈zH g i (g.len - (i+1)) (i+1) ++ Js g m (i+1);by_cases h:i=a
    · rw[h];exact List.mem_append_left _ hx
    · exact List.mem_append_right _ (HY hx m (i+1) (by omega) (by omega))
theorem zfw {z p y q:Int}(h:z ≠ y):zV z p y q=zV y q z p:=by
 unfold zV;by_cases h1:z > y
 ·rw[if_pos h1,if_neg (show ¬ y > z by omega)]
 ·rw[if_neg h1,if_pos (show y > z by omega)]
theorem zyL {g:Sl aC}{a b:Nat}(ha:a < g.len) (hb:b < g.len) (hz:(g.get a).Z ≠ (g.get b).Z){p q:Int}(hp:p=(g.get a).Low\/p=(g.get a).High) (hq:q=(g.get b).Low\/q=(g.get b).High):zV (g.get a).Z p (g.get b).Z q∈cst g:=by
 have key:∀ {a b:Nat} {p q:Int},a < b->b < g.len->(g.get a).Z ≠ (g.get b).Z->(p=(g.get a).Low\/p=(g.get a).High)->(q=(g.get b).Low\/q=(g.get b).High)->zV (g.get a).Z p (g.get b).Z q∈cst g:=fun {a b p q} h1 h2 hz hp hq=>by
  refine HY (Hz ?_ _ _ h1 (by omega)) _ 0 (Nat.zero_le _) (by omega);unfold xM;rw[if_neg hz];rcases hp with rfl | rfl <;> rcases hq with rfl | rfl <;> simp
 rcases Nat.lt_or_ge a b with h | h
 ·exact key h hb hz hp hq
 ·have : a ≠ b := fun e => hz (by rw [e]);rw[zfw hz];exact key (by omega) ha (Ne.symm hz) hq hp
theorem zL {Q : Nat → Prop} {le : Nat → Nat → Prop} (tot : ∀ i j, Q i → Q j → le i j ∨ le j i) (tr : ∀ i j k, Q i → Q j → Q k → le i j → le j k → le i k) : ∀ n, (∃ k, k < n ∧ Q k) → ∃ k, k < n ∧ Q k ∧ ∀ j, j < n → Q j → le j k
  | 0,⟨k,h,_⟩=>absurd h (SE k)
  | n+1,hex=>by
    by_cases h:∃ k,k < n/\Q k
    · obtain ⟨k, hk, qk, hm⟩ := zL tot tr n h;by_cases qn:Q n
      · rcases tot n k qn qk with h1 | h1
        · exact⟨k,by omega,qk,λ j hj qj=>by
            by_cases e:j=n
            · rw[e];exact h1
            · exact hm j (by omega) qj⟩
        · exact⟨n,by omega,qn,λ j hj qj=>by
            by_cases e:j=n
            · rw[e];rcases tot n n qn qn with h2 | h2 <;> exact h2
            · exact tr j k n qj qk qn (hm j (by omega) qj) h1⟩
      · exact⟨k,by omega,qk,λ j hj qj=>hm j (by
          have:j ≠ n:=λ e=>qn (e ▸ qj);omega) qj⟩
    · obtain ⟨k, hk, qk⟩ := hex;have e:k=n:=by
        rcases Nat.lt_or_ge k n with h1 | h1
        · exact absurd ⟨k,h1,qk⟩ h
        · omega
      subst e;exact⟨k,by omega,qk,λ j hj qj=>by
        by_cases e:j=k
        · rw[e];rcases tot k k qk qk with h2 | h2 <;> exact h2
        · exact absurd ⟨j,by omega,qj⟩ h⟩
def Ry (a b:straight):Prop:=a.bK * b.den<=b.bK * a.den
theorem N8 {a b c:straight}(ha:0 < a.den) (hb:0 < b.den) (hc:0 < c.den) (h1:Ry a b) (h2:Ry b c):Ry a c:=by
 unfold Ry at *;have y1:=Int.mul_le_mul_of_nonneg_right h1 (Int.le_of_lt hc);have y2:=Int.mul_le_mul_of_nonneg_right h2 (Int.le_of_lt ha);refine Int.le_of_mul_le_mul_right (a:=b.den) ?_ hb
 grind
def lcS (g:Sl aC) (i:Nat) (p:Int) (k:Nat):straight:=zV (g.get i).Z p (g.get k).Z (if (g.get k).Z > (g.get i).Z then (g.get k).Low else (g.get k).High)
def ucS (g:Sl aC) (i:Nat) (p:Int) (k:Nat):straight:=zV (g.get i).Z p (g.get k).Z (if (g.get k).Z > (g.get i).Z then (g.get k).High else (g.get k).Low)
theorem H5 {g:Sl aC}{i k:Nat}{p:Int}{c:straight}(he:iT c (g.get i).Z=p * c.den) (hz:(g.get k).Z ≠ (g.get i).Z):oD c (g.get k)=true↔Ry (lcS g i p k) c/\Ry c (ucS g i p k):=by
 unfold oD Ry lcS ucS zV;rw[decide_eq_true_eq];unfold iT at *;by_cases h:(g.get k).Z > (g.get i).Z
 ·simp only [if_pos h, if_neg (show ¬ (g.get i).Z > (g.get k).Z by omega)];constructor
  ·intro ⟨h1,h2⟩;constructor <;> grind
  ·intro ⟨h1,h2⟩;constructor <;> grind
 ·simp only [if_neg h, if_pos (show (g.get i).Z > (g.get k).Z by omega)];constructor
  ·intro ⟨h1,h2⟩;constructor <;> grind
  ·intro ⟨h1,h2⟩;constructor <;> grind
theorem XT {z p y q:Int}(h:z ≠ y):0 < (zV z p y q).den:=by
 unfold zV;by_cases h1:z > y
 ·rw[if_pos h1];show 0 < z - y;omega
 ·rw[if_neg h1];show 0 < y - z;omega
theorem KR {g:Sl aC}{i k:Nat}{p:Int}{s c:straight}(ps:0 < s.den) (pc:0 < c.den) (he:iT s (g.get i).Z=p * s.den) (hc:iT c (g.get i).Z=p * c.den) (hz:(g.get k).Z=(g.get i).Z) (h:oD s (g.get k)=true):oD c (g.get k)=true:=by
 unfold oD at *;rw[decide_eq_true_eq] at *;rw[hz,he] at h;rw[hz,hc];exact⟨Int.mul_le_mul_of_nonneg_right (Int.le_of_mul_le_mul_right h.1 ps) (Int.le_of_lt pc),Int.mul_le_mul_of_nonneg_right (Int.le_of_mul_le_mul_right h.2 ps) (Int.le_of_lt pc)⟩
theorem rot {g : Sl aC} {s : straight} (hd : 0 < s.den) (ha : Bq g s) {i : Nat} (hi : i < g.len) {p : Int} (hp : p = (g.get i).Low ∨ p = (g.get i).High) (he : iT s (g.get i).Z = p * s.den) (hn : ∃ k, k < g.len ∧ (g.get k).Z ≠ (g.get i).Z) :
  (∃ c,Dj g c/\0 < c.den/\iT c (g.get i).Z=p * c.den/\Ry c s)/\∃ c,Dj g c/\0 < c.den/\iT c (g.get i).Z=p * c.den/\Ry s c:=by
 have ld:∀ k,(g.get k).Z ≠ (g.get i).Z->0 < (lcS g i p k).den:=λ k h=>XT (Ne.symm h);have ud:∀ k,(g.get k).Z ≠ (g.get i).Z->0 < (ucS g i p k).den:=λ k h=>XT (Ne.symm h);have le1:∀ k,(g.get k).Z ≠ (g.get i).Z->iT (lcS g i p k) (g.get i).Z=p * (lcS g i p k).den:=λ k h=>(Vz (Ne.symm h)).1;have ue1:∀ k,(g.get k).Z ≠ (g.get i).Z->iT (ucS g i p k) (g.get i).Z=p * (ucS g i p k).den:=λ k h=>(Vz (Ne.symm h)).1;have sp:∀ k,k < g.len->(g.get k).Z ≠ (g.get i).Z->Ry (lcS g i p k) s/\Ry s (ucS g i p k):=λ k hk hz=>(H5 he hz).1 (ha k hk);constructor
 ·obtain ⟨k, hk, qk, hm⟩ := zL (Q := fun k => (g.get k).Z ≠ (g.get i).Z) (le := fun a b => Ry (lcS g i p a) (lcS g i p b)) (fun a b _ _ => Int.le_total _ _) (fun a b c ha hb hc h1 h2 => N8 (ld a ha) (ld b hb) (ld c hc) h1 h2) g.len hn;refine⟨lcS g i p k,⟨zyL hi hk (Ne.symm qk) hp (by split <;> simp),λ j hj=>?_⟩,ld k qk,le1 k qk,(sp k hk qk).1⟩;by_cases hz:(g.get j).Z=(g.get i).Z
  ·exact KR hd (ld k qk) he (le1 k qk) hz (ha j hj)
  ·exact (H5 (le1 k qk) hz).2 ⟨hm j hj hz,N8 (ld k qk) hd (ud j hz) (sp k hk qk).1 (sp j hj hz).2⟩
 ·obtain ⟨k, hk, qk, hm⟩ := zL (Q := fun k => (g.get k).Z ≠ (g.get i).Z) (le := fun a b => Ry (ucS g i p b) (ucS g i p a)) (fun a b _ _ => Int.le_total _ _) (fun a b c ha hb hc h1 h2 => N8 (ud c hc) (ud b hb) (ud a ha) h2 h1) g.len hn;refine⟨ucS g i p k,⟨zyL hi hk (Ne.symm qk) hp (by split <;> simp),λ j hj=>?_⟩,ud k qk,ue1 k qk,(sp k hk qk).2⟩;by_cases hz:(g.get j).Z=(g.get i).Z
  ·exact KR hd (ud k qk) he (ue1 k qk) hz (ha j hj)
  ·exact (H5 (ue1 k qk) hz).2 ⟨N8 (ld j hz) hd (ud k qk) (sp j hj hz).1 (sp k hk qk).2,hm j hj hz⟩
theorem zre {g:Sl aC}(hl:1<=g.len){s:straight}(ha:Bq g s):∃ d,0<=d/\Bq g ⟨s.bK,s.start - d,s.den⟩/\∃ i,i < g.len/\iT ⟨s.bK,s.start - d,s.den⟩ (g.get i).Z=(g.get i).Low * s.den:=by
 obtain⟨k,hk,_,hm⟩:=zL (Q:=λ _=>True) (le:=λ a b=>iT s (g.get b).Z - (g.get b).Low * s.den<=iT s (g.get a).Z - (g.get a).Low * s.den) (λ a b _ _=>Int.le_total _ _) (λ a b c _ _ _ h1 h2=>Int.le_trans h2 h1) g.len ⟨0,hl,trivial⟩;have hk2:=vX ha hk;refine⟨iT s (g.get k).Z - (g.get k).Low * s.den,by omega,λ j hj=>decide_eq_true ?_,k,hk,by unfold iT;simp only;omega⟩;have h1:=hm j hj trivial;have h2:=vX ha hj;unfold iT at *;simp only;omega
theorem zrf {g:Sl aC}(hl:1<=g.len){s:straight}(ha:Bq g s):∃ d,0<=d/\Bq g ⟨s.bK,s.start+d,s.den⟩/\∃ i,i < g.len/\iT ⟨s.bK,s.start+d,s.den⟩ (g.get i).Z=(g.get i).High * s.den:=by
 obtain⟨k,hk,_,hm⟩:=zL (Q:=λ _=>True) (le:=λ a b=>(g.get b).High * s.den - iT s (g.get b).Z<=(g.get a).High * s.den - iT s (g.get a).Z) (λ a b _ _=>Int.le_total _ _) (λ a b c _ _ _ h1 h2=>Int.le_trans h2 h1) g.len ⟨0,hl,trivial⟩;have hk2:=vX ha hk;refine⟨(g.get k).High * s.den - iT s (g.get k).Z,by omega,λ j hj=>decide_eq_true ?_,k,hk,by unfold iT;simp only;omega⟩;have h1:=hm j hj trivial;have h2:=vX ha hj;unfold iT at *;simp only;omega
theorem Rz {g:Sl aC}(nf : ¬ zmJ g) (i:Nat) (hi:i < g.len):∃ k,k < g.len/\(g.get k).Z ≠ (g.get i).Z:=by
 by_cases h:∃ k,k < g.len/\(g.get k).Z ≠ (g.get i).Z
 ·exact h
 ·have all : ∀ k, k < g.len → (g.get k).Z = (g.get i).Z := fun k hk => Classical.byContradiction fun e => h ⟨k, hk, e⟩;exact absurd (λ k hk=>(all k hk).trans (all 0 (by omega)).symm) nf
theorem XU {a b:straight}{z p h:Int}(ha:iT a z=p * a.den) (hb:iT b z=p * b.den) (hs:Ry a b) (hh:z<=h):iT a h * b.den<=iT b h * a.den:=by
 have y:=Int.mul_le_mul_of_nonneg_right hs (show 0<=h - z by omega);unfold iT at *;have e1:a.start=p * a.den - a.bK * z:=by omega
 have e2:b.start=p * b.den - b.bK * z:=by omega
 rw[e1,e2];clear ha hb hs e1 e2
 grind
theorem XV {a b:straight}{z p h:Int}(ha:iT a z=p * a.den) (hb:iT b z=p * b.den) (hs:Ry a b) (hh:h<=z):iT b h * a.den<=iT a h * b.den:=by
 have y:=Int.mul_le_mul_of_nonneg_right hs (show 0<=z - h by omega);unfold iT at *;have e1:a.start=p * a.den - a.bK * z:=by omega
 have e2:b.start=p * b.den - b.bK * z:=by omega
 rw[e1,e2];clear ha hb hs e1 e2
 grind
theorem lp {g : Sl aC} (hl : 1 ≤ g.len) (nf : ¬ zmJ g) {s : straight} (hd : 0 < s.den) (ha : Bq g s) :
  (∀ h,(∃ c,Dj g c/\iT c h * s.den<=iT s h * c.den)/\∃ c,Dj g c/\iT s h * c.den<=iT c h * s.den)/\(∃ c,Dj g c/\Ry c s)/\∃ c,Dj g c/\Ry s c:=by
 obtain⟨d,d0,da,i,hi,di⟩:=zre hl ha;obtain⟨e,e0,ea,j,hj,ej⟩:=zrf hl ha;obtain⟨⟨c1,c1c,c1d,c1p,c1s⟩,⟨c2,c2c,c2d,c2p,c2s⟩⟩:=rot (s:=⟨s.bK,s.start - d,s.den⟩) hd da hi (.inl rfl) di (Rz nf i hi);obtain⟨⟨f1,f1c,f1d,f1p,f1s⟩,⟨f2,f2c,f2d,f2p,f2s⟩⟩:=rot (s:=⟨s.bK,s.start+e,s.den⟩) hd ea hj (.inr rfl) ej (Rz nf j hj);have lo:∀ {c:straight} {h:Int},0 < c.den->iT c h * s.den<=iT ⟨s.bK,s.start - d,s.den⟩ h * c.den->iT c h * s.den<=iT s h * c.den:=fun {c h} pc k=>by
  have:=Int.mul_nonneg d0 (Int.le_of_lt pc);unfold iT at *;simp only at k
  grind
 have hi':∀ {c:straight} {h:Int},0 < c.den->iT ⟨s.bK,s.start+e,s.den⟩ h * c.den<=iT c h * s.den->iT s h * c.den<=iT c h * s.den:=fun {c h} pc k=>by
  have:=Int.mul_nonneg e0 (Int.le_of_lt pc);unfold iT at *;simp only at k
  grind
 refine⟨λ h=>⟨?_,?_⟩,⟨c1,c1c,c1s⟩,⟨c2,c2c,c2s⟩⟩
 ·rcases Int.le_total (g.get i).Z h with k | k
  ·exact⟨c1,c1c,lo c1d (XU (b:=⟨s.bK,s.start - d,s.den⟩) c1p di c1s k)⟩
  ·exact⟨c2,c2c,lo c2d (XV (a:=⟨s.bK,s.start - d,s.den⟩) di c2p c2s k)⟩
 ·rcases Int.le_total (g.get j).Z h with k | k
  ·exact⟨f2,f2c,hi' f2d (XU (a:=⟨s.bK,s.start+e,s.den⟩) ej f2p f2s k)⟩
  ·exact⟨f1,f1c,hi' f1d (XV (b:=⟨s.bK,s.start+e,s.den⟩) f1p ej f1s k)⟩
def sW (lt : aS → aS → Bool) (f : Nat → aS) : Nat → aS
  | 0=>f 0
  | n+1=>cond (lt (f n) (sW lt f n)) (f n) (sW lt f n)
theorem VD {lt : aS → aS → Bool} {Q : aS → Prop} {f : Nat → aS} (irr : ∀ a, Q a → lt a a = false) (tr : ∀ a b c, Q a → Q b → Q c → lt a b = true → lt b c = true → lt a c = true) :
  ∀ n,(∀ i,i < n+1->Q (f i))->(∃ i,i < n+1/\sW lt f (n+1)=f i)/\∀ j,j < n+1->lt (f j) (sW lt f (n+1))=false
 | 0,hq=>by
  have e:sW lt f 1=f 0:=by simp only[sW];cases lt (f 0) (f 0) <;> rfl
  rw[e];exact⟨⟨0,by omega,rfl⟩,λ j hj=>by rw[show j=0 by omega];exact irr _ (hq 0 (by omega))⟩
 | n+1,hq=>by
  obtain⟨⟨i,hi,e⟩,h⟩:=VD irr tr n λ i hi=>hq i (by omega);have qe:Q (sW lt f (n+1)):=by rw[e];exact hq i (by omega)
  rw[sW];cases hl:lt (f (n+1)) (sW lt f (n+1)) with
  | true =>
   rw[cond_true];refine⟨⟨n+1,by omega,rfl⟩,λ j hj=>?_⟩;by_cases ej:j=n+1
   ·rw[ej];exact irr _ (hq _ (by omega))
   ·cases hx:lt (f j) (f (n+1)) with
    | false=>rfl
    | true=>rw[<- h j (by omega),tr _ _ _ (hq j (by omega)) (hq (n+1) (by omega)) qe hx hl]
  | false =>
   rw[cond_false];refine⟨⟨i,by omega,e⟩,λ j hj=>?_⟩;by_cases ej:j=n+1
   ·rw[ej];exact hl
   ·exact h j (by omega)
def ltB (a b:aS):Bool:=decide (cmF a b < 0)
def gtB (a b:aS):Bool:=decide (cmF a b > 0)
theorem zM {a b:aS} : gtB a b=true↔zI b a:=by
 unfold gtB;rw[decide_eq_true_eq,<- zfo];omega
theorem zN {a b:aS} : ltB a b=true↔zI a b:=by
 unfold ltB;rw[decide_eq_true_eq,zfn]
def Jd (z:Int) (s:straight):aS:=⟨iT s z,s.den⟩
def loF (g:Sl aC) (z:Int):aS:=sW ltB (λ i=>Jd z ((gB g).cu.get i)) (kE g).length
def hiF (g:Sl aC) (z:Int):aS:=sW gtB (λ i=>Jd z ((gB g).cu.get i)) (kE g).length
theorem Bz {g:Sl aC}(G:dm g){i:Nat}(h:i < (kE g).length):Dj g ((gB g).cu.get i):=by
 rw[qY g h];exact XO G (List.getElem_mem _)
theorem zrg {g:Sl aC}(G:dm g) (z:Int) (h:0 < (kE g).length):(∃ s,Dj g s/\loF g z=Jd z s)/\∀ s∈kE g,¬ zI (Jd z s) (loF g z):=by
  obtain⟨n,hn⟩:∃ n,(kE g).length=n+1:=⟨(kE g).length - 1,by omega⟩;have pos:∀ i,i < n+1->0 < (Jd z ((gB g).cu.get i)).cO:=λ i hi=>by have:=(ug G (Bz G (i:=i) (by omega))).2.2;show 0 < ((gB g).cu.get i).den;omega
  have := VD (lt := ltB) (Q := fun a => 0 < a.cO) (f := fun i => Jd z ((gB g).cu.get i)) (fun a _ => by cases e : ltB a a with | false => rfl | true => exact absurd (zN.1 e) NM)
    (λ a b c ha hb hc h1 h2=>zN.2 (XM ha hb hc (zN.1 h1) (zN.1 h2))) n pos
  unfold loF;rw[hn];obtain⟨⟨i,hi,e⟩,h2⟩:=this;refine⟨⟨_,Bz G (i:=i) (by omega),e⟩,λ s hs hl=>?_⟩;obtain⟨j,hj,rfl⟩:=List.getElem_of_mem hs;have:=h2 j (by omega);rw[qY g hj] at this;rw[zN.2 hl] at this;cases this
theorem zrh {g:Sl aC}(G:dm g) (z:Int) (h:0 < (kE g).length):(∃ s,Dj g s/\hiF g z=Jd z s)/\∀ s∈kE g,¬ zI (hiF g z) (Jd z s):=by
  obtain⟨n,hn⟩:∃ n,(kE g).length=n+1:=⟨(kE g).length - 1,by omega⟩;have pos:∀ i,i < n+1->0 < (Jd z ((gB g).cu.get i)).cO:=λ i hi=>by have:=(ug G (Bz G (i:=i) (by omega))).2.2;show 0 < ((gB g).cu.get i).den;omega
  have := VD (lt := gtB) (Q := fun a => 0 < a.cO) (f := fun i => Jd z ((gB g).cu.get i)) (fun a _ => by cases e : gtB a a with | false => rfl | true => exact absurd (zM.1 e) NM)
    (λ a b c ha hb hc h1 h2=>zM.2 (XM hc hb ha (zM.1 h2) (zM.1 h1))) n pos
  unfold hiF;rw[hn];obtain⟨⟨i,hi,e⟩,h2⟩:=this;refine⟨⟨_,Bz G (i:=i) (by omega),e⟩,λ s hs hl=>?_⟩;obtain⟨j,hj,rfl⟩:=List.getElem_of_mem hs;have:=h2 j (by omega);rw[qY g hj] at this;rw[zM.2 hl] at this;cases this
def cmpL : List Int → List Int → Int
  | [],[]=>0
  | [],_ :: _=>-1
  | _ :: _,[]=>1
  | a :: x,b :: y=>cond (mP a b != 0) (mP a b) (cmpL x y)
theorem xO {a b:Int} : mP a b=0↔a=b:=by
 unfold mP;by_cases h:a < b
 ·rw[decide_eq_true h];simp;omega
 ·rw [decide_eq_false h];by_cases k:a > b
  ·rw[decide_eq_true k];simp;omega
  ·rw[decide_eq_false k];simp;omega
theorem XW {a b:Int} : mP a b < 0↔a < b:=by
 unfold mP;by_cases h:a < b
 ·rw[decide_eq_true h];simp[h]
 ·rw [decide_eq_false h];cases decide (a > b) <;> simp[h]
theorem sZ : ∀ {x y : List Int}, cmpL x y < 0 ↔ (∃ b y', x = [] ∧ y = b :: y') ∨ ∃ a x' b y', x = a :: x' ∧ y = b :: y' ∧ (a < b ∨ a = b ∧ cmpL x' y' < 0)
  | [],[]=>by simp[cmpL]
  | [],b :: y=>by simp[cmpL]
  | a :: x,[]=>by simp[cmpL]
  | a :: x,b :: y=>by
    simp only[cmpL];have e:((∃ b' y',a :: x=[]/\b :: y=b' :: y')\/∃ a' x' b' y',a :: x=a' :: x'/\b :: y=b' :: y'/\(a' < b'\/a'=b'/\cmpL x' y' < 0))↔(a < b\/a=b/\cmpL x y < 0):=by
      constructor
      · rintro (⟨b', y', h, _⟩ | ⟨a', x', b', y', h1, h2, h⟩)
        · cases h
        · cases h1;cases h2;exact h
      · intro h;exact .inr ⟨a,x,b,y,rfl,rfl,h⟩
    rw[e];by_cases h:a=b
    · subst h;rw[show (mP a a != 0)=false by rw[xO.2 rfl];rfl];simp
    · rw [show (mP a b != 0) = true by simpa [xO] using h, cond_true, XW];simp[h]
theorem H6 : ∀ {x y : List Int}, cmpL x y = 0 ↔ x = y
  | [],[]=>by simp[cmpL]
  | [],b :: y=>by simp[cmpL]
  | a :: x,[]=>by simp[cmpL]
  | a :: x,b :: y=>by
    simp only[cmpL];by_cases h:a=b
    · subst h;rw[show (mP a a != 0)=false by rw[xO.2 rfl];rfl,cond_false,H6];simp
    · rw[show (mP a b != 0)=true by simpa [xO] using h,cond_true,xO];simp[h]
theorem RD (x:List Int) : ¬ cmpL x x < 0:=by rw[H6.2 rfl];omega
theorem N9 : ∀ {x y z : List Int}, cmpL x y < 0 → cmpL y z < 0 → cmpL x z < 0
  | x,y,z,h1,h2=>by
    rw[sZ] at h1 h2;rcases h1 with ⟨b,y',rfl,rfl⟩ | ⟨a,x',b,y',rfl,rfl,h1⟩
    · rcases h2 with ⟨c, z', h, _⟩ | ⟨b', y'', c, z', h, rfl, h2⟩
      · cases h
      · exact sZ.2 (.inl ⟨c,z',rfl,rfl⟩)
    · rcases h2 with ⟨c, z', h, _⟩ | ⟨b', y'', c, z', h, rfl, h2⟩
      · cases h
      · cases h;refine sZ.2 (.inr ⟨a,x',c,z',rfl,rfl,?_⟩);rcases h1 with h1 | ⟨rfl,h1⟩ <;> rcases h2 with h2 | ⟨rfl,h2⟩
        · exact .inl (by omega)
        · exact .inl h1
        · exact .inl h2
        · exact .inr ⟨rfl,N9 h1 h2⟩
theorem H7 : ∀ {x y : List Int}, x ≠ y → cmpL x y < 0 ∨ cmpL y x < 0
  | [],[],h=>absurd rfl h
  | [],b :: y,_=>.inl (by simp[cmpL])
  | a :: x,[],_=>.inr (by simp[cmpL])
  | a :: x,b :: y,h=>by
    rcases Int.lt_trichotomy a b with k | k | k
    · exact .inl (sZ.2 (.inr ⟨a,x,b,y,rfl,rfl,.inl k⟩))
    · subst k;have:x ≠ y:=λ e=>h (by rw[e]);rcases H7 this with k | k
      · exact .inl (sZ.2 (.inr ⟨a,x,a,y,rfl,rfl,.inr ⟨rfl,k⟩⟩))
      · exact .inr (sZ.2 (.inr ⟨a,y,a,x,rfl,rfl,.inr ⟨rfl,k⟩⟩))
    · exact .inr (sZ.2 (.inr ⟨b,y,a,x,rfl,rfl,.inl k⟩))
def tq (w:Sl Int):List Int:=(List.range w.len).map w.get
theorem XX (w:Sl Int):(tq w).length=w.len:=by simp[tq]
def zky (a b:ai):Int:=cond (mP a.View b.View != 0) (mP a.View b.View) (cond (cmpL (tq a.Hits) (tq b.Hits) != 0) (cmpL (tq a.Hits) (tq b.Hits)) (cmpL (tq a.bC) (tq b.bC)))
def ltT (a b:ai):Prop:=a.View < b.View\/a.View=b.View/\(cmpL (tq a.Hits) (tq b.Hits) < 0\/tq a.Hits=tq b.Hits/\cmpL (tq a.bC) (tq b.bC) < 0)
theorem zkz {a b:ai} : zky a b < 0↔ltT a b:=by
 unfold zky ltT;by_cases h:a.View=b.View
 ·rw [show (mP a.View b.View != 0) = false by rw [xO.2 h]; rfl, cond_false];by_cases k:tq a.Hits=tq b.Hits
  ·rw [show (cmpL (tq a.Hits) (tq b.Hits) != 0) = false by rw [H6.2 k]; rfl, cond_false, H6.2 k];simp[h,k]
  ·rw [show (cmpL (tq a.Hits) (tq b.Hits) != 0) = true by simpa [H6] using k, cond_true];simp[h,k]
 ·rw [show (mP a.View b.View != 0) = true by simpa [xO] using h, cond_true, XW];simp[h]
theorem XY (a:ai) : ¬ ltT a a:=λ h=>by
 rcases h with h | ⟨_,h | ⟨_,h⟩⟩
 ·omega
 ·exact RD _ h
 ·exact RD _ h
theorem zfx {a b c:ai}(h:ltT a b) (k:ltT b c):ltT a c:=by
 rcases h with h | ⟨h,h2⟩ <;> rcases k with k | ⟨k,k2⟩
 ·exact .inl (by omega)
 ·exact .inl (by omega)
 ·exact .inl (by omega)
 ·refine .inr ⟨by omega, ?_⟩;rcases h2 with h2 | ⟨h2,h3⟩ <;> rcases k2 with k2 | ⟨k2,k3⟩
  ·exact .inl (N9 h2 k2)
  ·exact .inl (k2 ▸ h2)
  ·exact .inl (h2 ▸ k2)
  ·exact .inr ⟨h2.trans k2,N9 h3 k3⟩
theorem zfy {a b:ai}(h:ltT a b) : ¬ ltT b a:=λ k=>XY a (zfx h k)
theorem zkA {a b:ai}(h : ¬ (a.View=b.View/\tq a.Hits=tq b.Hits/\tq a.bC=tq b.bC)):ltT a b\/ltT b a:=by
 rcases Int.lt_trichotomy a.View b.View with k | k | k
 ·exact .inl (.inl k)
 ·by_cases h1 : tq a.Hits = tq b.Hits
  ·have : tq a.bC ≠ tq b.bC := fun e => h ⟨k, h1, e⟩;rcases H7 this with h2 | h2
   ·exact .inl (.inr ⟨k,.inr ⟨h1,h2⟩⟩)
   ·exact .inr (.inr ⟨k.symm,.inr ⟨h1.symm,h2⟩⟩)
  ·rcases H7 h1 with h2 | h2
   ·exact .inl (.inr ⟨k,.inl h2⟩)
   ·exact .inr (.inr ⟨k.symm,.inl h2⟩)
 ·exact .inr (.inl k)
theorem zri {a b:ai}(h1:tq a.Hits=tq b.Hits) (h2:tq a.bC=tq b.bC) (ha:a.bC.len=a.Hits.len) (hb:b.bC.len=b.Hits.len):gY a=gY b:=by
 have l1:a.Hits.len=b.Hits.len:=by rw[<- XX,<- XX,h1]
 have key:∀ t:ai,t.bC.len=t.Hits.len->gY t=(tq t.Hits).zip (tq t.bC):=λ t ht=>by
  unfold gY tq;rw[ht,List.zip_map']
 rw[key a ha,key b hb,h1,h2]
def qZ (a b:ai):Bool:=(gY b).all (λ p=>(gY a).contains p) && (b.View == a.View)
theorem H8 {a b:ai} : qZ a b=true↔(∀ p∈gY b,p∈gY a)/\b.View=a.View:=by
 unfold qZ;simp[List.all_eq_true]
theorem zfz {t u:ai}{p:Int×Int}(h1:u.Hits.len=t.Hits.len+1) (h2:∀ j,j < t.Hits.len->u.Hits.get j=t.Hits.get j/\u.bC.get j=t.bC.get j) (h3:u.Hits.get t.Hits.len=p.1/\u.bC.get t.Hits.len=p.2):gY u=gY t ++ [p]:=by
 unfold gY;rw[h1,List.range_succ,List.map_append];congr 1
 ·exact List.map_congr_left λ i hi=>by
   have:=h2 i (List.mem_range.1 hi);rw[this.1,this.2]
 ·show [(u.Hits.get t.Hits.len, u.bC.get t.Hits.len)] = [p];rw[h3.1,h3.2]
def tu (s : straight) (g : Sl aC) : Nat → Sl Int
  | 0=>⟨0,λ _=>0⟩
  | i+1=>cond (oD s (g.get i)) (mO (tu s g i) (i:Int)) (tu s g i)
theorem H9 (s : straight) (g : Sl aC) : ∀ i, (tu s g i).len ≤ i ∧ ((tu s g i).len = i ↔ ∀ j, j < i → oD s (g.get j) = true) ∧ (0 < (tu s g i).len ↔ ∃ j, j < i ∧ oD s (g.get j) = true)
  | 0=>⟨iZ _,⟨λ _ j hj=>absurd hj (SE j),λ _=>rfl⟩,⟨λ h=>absurd h (Nat.lt_irrefl 0),λ ⟨j,hj,_⟩=>absurd hj (SE j)⟩⟩
  | i+1=>by
    obtain⟨a,b,c⟩:=H9 s g i;simp only[tu];cases h:oD s (g.get i) with
    | true =>
      show (tu s g i).len+1<=i+1/\((tu s g i).len+1=i+1↔_)/\(0 < (tu s g i).len+1↔_);refine⟨by omega,⟨λ e j hj=>?_,λ e=>?_⟩,⟨λ _=>⟨i,by omega,h⟩,λ _=>by omega⟩⟩
      · by_cases k : j = i
        · rw[k];exact h
        · exact b.1 (by omega) j (by omega)
      · rw[b.2 λ j hj=>e j (by omega)]
    | false =>
      show (tu s g i).len<=i+1/\((tu s g i).len=i+1↔_)/\(0 < (tu s g i).len↔_);refine⟨by omega,⟨λ e=>by omega,λ e=>by rw[e i (by omega)] at h;cases h⟩,c.trans ⟨λ ⟨j,h1,h2⟩=>⟨j,by omega,h2⟩,λ ⟨j,h1,h2⟩=>⟨j,?_,h2⟩⟩⟩;have:j ≠ i:=λ e=>by rw[e,h] at h2;cases h2
      omega
abbrev Q57 (C:Line×Sl aC->ae (Sl Int)):Prop:=∀ s (g:Sl aC),wV s->g.len<=1000->(∀ i,i < g.len->fE (g.get i))->C (eQ s,g)=.ok (tu s g g.len)
theorem s57 {E:E57}(N:Big E.N) (h116:zq8 E.c116):Q57 (F57 E):=λ s g S hl G=>ae.ext λ k=>by
 rw[e57,bn];refine jW (X:=λ n i=>QC E n (eQ s) g (i:Int) (tu s g i) k) (m:=g.len) (λ n i hi=>?_) (λ n=>?_) _ (by have:=N;omega)
 ·rw [zmv, decide_eq_true (by omega), cond_true, bD (by omega), Int.toNat_natCast, h116 s _ S (G i hi), bn, bT (by omega), jl (by have := (H9 s g i).1; omega) (by omega)];simp only[tu];cases oD s (g.get i) <;> rfl
 ·rw[zmv,decide_eq_false (by omega)];rfl
def eL:Sl Line:=⟨0,λ _=>⟨⟨0,0⟩,⟨0,0⟩⟩⟩
def xg (v:Sl Line) (l:List straight):Sl Line:=(l.map eQ).foldl mO v
theorem rq (v:Sl Line) (l:List straight):(xg v l).len=v.len+l.length:=by unfold xg;rw[qc,List.length_map]
theorem vz (v:Sl Line) (a b:List straight):xg v (a ++ b)=xg (xg v a) b:=by unfold xg;rw[List.map_append,List.foldl_append]
def Dk (g:Sl aC):Sl Line:=xg eL (cst g)
theorem zkB (g:Sl aC):(Dk g).len=(cst g).length:=by unfold Dk;rw[rq];show 0+_=_;omega
theorem Oa (g:Sl aC){i:Nat}(h:i < (cst g).length):(Dk g).get i=eQ (cst g)[i]:=by
 have:=wW ((cst g).map eQ) eL i (eQ (cst g)[i]) (by rw[VO,xY h];rfl);rw[show (eL:Sl Line).len+i=i by show 0+i=i;omega] at this;exact this
abbrev zrj (C:Sl aC->ae (Sl Line)):Prop:=∀ g,dm g->C g=.ok (Dk g)
theorem zK2 {E:NG}(N:Big E.N) (zjY:zq9 E.zgs) (h55:Q55 E.c55):zrj (zjX E):=λ g G=>ae.ext λ k=>by
 have hg:=G.2;have hN:=N;have inn:∀ n0 n1 (i j:Nat) (w:Sl Line),i < g.len->j < g.len->w.len<=100000->Bj E n0 n1 E.N g (i:Int) (j:Int) 0 w k=Bi E n0 n1 g (i:Int) ((j+1:Nat):Int) (xg w (xM (g.get i) (g.get j))) k:=by
  intro n0 n1 i j w hi hj hw;have gi:=G.1 i hi;have gj:=G.1 j hj;obtain⟨n,hn⟩:∃ n,E.N=n+1+1+1+1+1:=⟨E.N - 5,by omega⟩
  have st:∀ n (v:Int) (w:Sl Line) (p q:Int),(0<=v/\v < 4)->w.len<=200000->(g.get i).Z ≠ (g.get j).Z->p=cond (aO (v.tdiv 2) == 0) (g.get i).Low (g.get i).High->q=cond (v.tmod 2 == 0) (g.get j).Low (g.get j).High->(-1000000<=p/\p<=1000000)->(-1000000<=q/\q<=1000000) ->
    Bj E n0 n1 (n+1) g (i:Int) (j:Int) v w k=Bj E n0 n1 n g (i:Int) (j:Int) (v+1) (xg w [zV (g.get i).Z p (g.get j).Z q]) k:=by
   intro n v w p q hv hw hz hp hq hpb hqb;rw[Vr,decide_eq_true (show v < 4 by omega),cond_true];simp only[bD (show 0<=(i:Int)/\(i:Int) < (g.len:Int) by omega),bD (show 0<=(j:Int)/\(j:Int) < (g.len:Int) by omega)];rw[Int.toNat_natCast,Int.toNat_natCast,show ((g.get i).Z != (g.get j).Z)=true by simpa using hz,cond_true,zjY,bn,zjY,bn,<- hp,<- hq,h55 _ _ _ _ gi.1 gj.1 hpb hqb hz,bn,jl (by omega) (by omega),bg (by omega) (by omega)];rfl
  unfold xM;rw[hn];by_cases hz:(g.get i).Z=(g.get j).Z
  ·rw [if_pos hz, Vr, decide_eq_true (by omega), cond_true, bD (by omega), bD (by omega), Int.toNat_natCast, Int.toNat_natCast, show ((g.get i).Z != (g.get j).Z) = false by simpa using hz, cond_false, bT (by omega)];rfl
  ·rw [if_neg hz]
   rw[st _ 0 w (g.get i).Low (g.get j).Low (by omega) (by omega) hz rfl rfl (mr gi) (mr gj),
    st _ (0+1) _ (g.get i).Low (g.get j).High (by omega) (by rw[rq];simp only[Jz,SC];omega) hz rfl rfl (mr gi) (oC gj),<- vz,
    st _ (0+1+1) _ (g.get i).High (g.get j).Low (by omega) (by rw[rq];simp only[OE,Jz,SC];omega) hz rfl rfl (oC gi) (mr gj),<- vz,
    st _ (0+1+1+1) _ (g.get i).High (g.get j).High (by omega) (by rw[rq];simp only[OE,Jz,SC];omega) hz rfl rfl (oC gi) (oC gj),<- vz,Vr,decide_eq_false (by omega),cond_false,bT (by omega)]
   rfl
 have mid:∀ n0 (i:Nat),i < g.len->∀ (m j n1:Nat) (w:Sl Line),j+m=g.len->m < n1->w.len+4 * m<=100000->Bi E n0 n1 g (i:Int) (j:Int) w k=Ha E n0 g ((i+1:Nat):Int) (xg w (zH g i m j)) k:=by
  intro n0 i hi m
  induction m with
  | zero =>
   intro j n1 w hj hn hw;obtain⟨n1,rfl⟩:∃ n',n1=n'+1:=⟨n1 - 1,by omega⟩;rw[zeU,decide_eq_false (by omega),cond_false,bT (by omega)];rfl
  | succ m ih =>
   intro j n1 w hj hn hw;obtain⟨n1,rfl⟩:∃ n',n1=n'+1:=⟨n1 - 1,by omega⟩;have:=Ri (g.get i) (g.get j);rw[zeU,decide_eq_true (by omega),cond_true,inn n0 n1 i j w hi (by omega) (by omega),ih (j+1) n1 _ (by omega) (by omega) (by rw[rq];omega),<- vz];rfl
 have out:∀ (m i n:Nat) (w:Sl Line),i+m=g.len->m < n->w.len+96 * m<=10000->Ha E n g (i:Int) w k=k (xg w (Js g m i)):=by
  intro m
  induction m with
  | zero =>
   intro i n w hi hn hw;obtain⟨n,rfl⟩:∃ n',n=n'+1:=⟨n - 1,by omega⟩;rw[zeT,decide_eq_false (by omega)];rfl
  | succ m ih =>
   intro i n w hi hn hw;obtain⟨n,rfl⟩:∃ n',n=n'+1:=⟨n - 1,by omega⟩;have:=Rj g i (g.len - (i+1)) (i+1);rw[zeT,decide_eq_true (by omega),cond_true,bT (by omega),mid n i (by omega) (g.len - (i+1)) (i+1) E.N w (by omega) (by omega) (by omega),ih (i+1) n _ (by omega) (by omega) (by rw[rq];omega),<- vz];rfl
 rw[zJv,bn];exact out g.len 0 E.N eL (by omega) (by omega) (by show 0+_<=_;omega)
abbrev zrk (C:Line×Sl aC->ae Bool):Prop:=∀ s g,wV s->dm g->∃ b,C (eQ s,g)=.ok b
theorem zK3 {E:Vt}(N:Big E.N) (UQ:zkt E.Oq):zrk (zj9 E):=λ s g S G=>by
 have hg:=G.2;exact⟨_,ae.ext λ k=>by
  rw[e248,bn];refine (loopA (L:=λ n v=>NI E n (eQ s) g v k) (p:=λ i=>!(plN (eQ s) (g.get i).Z == aO ((g.get i).Low * SK (eQ s)))) (m:=g.len) (fin:=k false) (stop:=k true) (by omega) (λ n i hi=>?_) (λ n=>?_) _ (by have:=N;omega)).trans (kc k _ _ _)
  ·have gi := G.1 i hi;rw[ze5,decide_eq_true (by omega),cond_true,bD (by omega),Int.toNat_natCast,UQ s _ S (by have:=gi.1;omega),bn,bD (by omega)];show cond (plN (eQ s) (g.get i).Z == aO ((g.get i).Low * SK (eQ s))) _ _=_;cases plN (eQ s) (g.get i).Z == aO ((g.get i).Low * SK (eQ s)) <;> rfl
  ·rw[ze5,decide_eq_false (by omega)];rfl⟩
def leB (a b:aS):Bool:=decide (aO (a.Num * b.cO) < aO (b.Num * a.cO))
abbrev Q56 (C:aS×aS->ae Bool):Prop:=∀ a b,C (a,b)=.ok (leB a b)
theorem s56 {E:E56} : Q56 (F56 E):=λ a b=>ae.ext λ k=>by rw[e56,bn];rfl
abbrev zrl (C:Line×Line×Sl aC->ae Bool):Prop:=∀ s t g,wV s->wV t->dm g->∃ b,C (eQ s,eQ t,g)=.ok b
theorem zK4 {E:zaj}(zj0:zrk E.VN) (h56:Q56 E.c56):zrl (zjZ E):=λ s t g S T G=>by
 obtain⟨a,ha⟩:=zj0 s g S G;obtain⟨b,hb⟩:=zj0 t g T G;exact⟨cond (a != b) a (cond a (leB (eQ s).dM (eQ t).dM) (leB (eQ t).dM (eQ s).dM)),ae.ext λ k=>by
  rw[e226,ha,hb,bn,bn,bn,bn,h56,h56,bn,bn,kc k,kc k,bn]⟩
def LnS (g:Sl aC) (v:Sl Line):Prop:=∀ i,i < v.len->∃ s,s∈cst g/\v.get i=eQ s
abbrev zkC (C:Sl aC->ae (Sl Line)):Prop:=∀ g,dm g->∃ L:Sl Line,C g=.ok L/\(0 < L.len↔∃ s∈cst g,Bq g s)/\L.len<=2304/\LnS g L
theorem zK5 {E:Jq}(N:Big E.N) (zqp:zrj E.zlB) (h57:Q57 E.c57) (zqq:zrl E.c226):zkC (zjH E):=λ g G=>by
 have hg:=G.2;have hN:=N;have hc:=NJ G;have hcd:=zkB g;have pos:∀ n0 (i:Nat),i < (cst g).length->∀ (v:Sl Line),LnS g v->v.len<=2304->∃ a,a<=v.len/\∀ (A:Type) (k:Sl Line->Option A),uZ E n0 E.N g v (Dk g) (i:Int) 0 k=sG E n0 g v (Dk g) (i:Int) (a:Int) k:=by
  intro n0 i hi v hv hl;have key:∀ (m j n1:Nat),j+m=v.len->m < n1->∃ a,a<=v.len/\∀ (A:Type) (k:Sl Line->Option A),uZ E n0 n1 g v (Dk g) (i:Int) (j:Int) k=sG E n0 g v (Dk g) (i:Int) (a:Int) k:=by
   intro m
   induction m with
   | zero =>
    intro j n1 hj hn;obtain⟨n1,rfl⟩:∃ n',n1=n'+1:=⟨n1 - 1,by omega⟩;exact⟨j,by omega,λ A k=>by rw[zey,decide_eq_false (by omega)];rfl⟩
   | succ m ih =>
    intro j n1 hj hn;obtain⟨n1,rfl⟩:∃ n',n1=n'+1:=⟨n1 - 1,by omega⟩;obtain⟨s,hs,es⟩:=hv j (by omega);obtain⟨b,hb⟩:=zqq s (cst g)[i] g (pY G hs) (pY G (List.getElem_mem hi)) G;have st:∀ (A:Type) (k:Sl Line->Option A),uZ E n0 (n1+1) g v (Dk g) (i:Int) (j:Int) k=cond b (uZ E n0 n1 g v (Dk g) (i:Int) ((j+1:Nat):Int) k) (sG E n0 g v (Dk g) (i:Int) (j:Int) k):=λ A k=>by
     rw[zey,decide_eq_true (by omega),cond_true,bD (by omega),bD (by omega),Int.toNat_natCast,Int.toNat_natCast,es,Oa g hi,hb,bn,bT (by omega)]
    cases b with
    | true =>
     obtain⟨a,h1,h2⟩:=ih (j+1) n1 (by omega) (by omega);exact⟨a,h1,λ A k=>by rw[st];exact h2 A k⟩
    | false=>exact⟨j,by omega,λ A k=>by rw[st];rfl⟩
  exact key v.len 0 E.N (by omega) (by omega)
 have key:∀ (m i n:Nat) (v:Sl Line),i+m=(cst g).length->m < n->LnS g v->v.len<=i->∃ L:Sl Line,(∀ (A:Type) (k:Sl Line->Option A),lY E n g v (Dk g) (i:Int) k=k L)/\(0 < L.len↔0 < v.len\/∃ j,∃ h:j < (cst g).length,i<=j/\Bq g (cst g)[j])/\L.len<=(cst g).length/\LnS g L:=by
  intro m
  induction m with
  | zero =>
   intro i n v hi hn hv hl;obtain⟨n,rfl⟩:∃ n',n=n'+1:=⟨n - 1,by omega⟩;exact⟨v,λ A k=>by rw[zex,decide_eq_false (by omega)];rfl,⟨.inl,λ h=>h.elim id λ ⟨j,h1,h2,_⟩=>by omega⟩,by omega,hv⟩
  | succ m ih =>
   intro i n v hi hn hv hl;obtain⟨n,rfl⟩:∃ n',n=n'+1:=⟨n - 1,by omega⟩;have hi':i < (cst g).length:=by omega
   have S:=pY G (List.getElem_mem hi');have pl:=H9 (cst g)[i] g g.len;have st:∀ (A:Type) (k:Sl Line->Option A),lY E (n+1) g v (Dk g) (i:Int) k=cond (decide (((tu (cst g)[i] g g.len).len:Int) < (g.len:Int))) (lY E n g v (Dk g) ((i+1:Nat):Int) k) (uZ E n E.N g v (Dk g) (i:Int) 0 k):=λ A k=>by
    rw[zex,decide_eq_true (by omega),cond_true,bD (by omega),Int.toNat_natCast,Oa g hi',h57 _ g S (by omega) G.1,bn,bT (by omega)]
   by_cases ha:Bq g (cst g)[i]
   ·have e : (tu (cst g)[i] g g.len).len = g.len := pl.2.1.2 ha;obtain⟨a,a1,a2⟩:=pos n i hi' v hv (by omega);have st2:∀ (A:Type) (k:Sl Line->Option A),lY E (n+1) g v (Dk g) (i:Int) k=sG E n g v (Dk g) (i:Int) (a:Int) k:=λ A k=>by rw[st,decide_eq_false (by omega),cond_false,a2]
    have ins:∃ v':Sl Line,(∀ (A:Type) (k:Sl Line->Option A),G6 E n g v (Dk g) (i:Int) (a:Int) k=lY E n g v' (Dk g) ((i+1:Nat):Int) k)/\v'.len=v.len+1/\LnS g v':=by
     refine⟨_,λ A k=>by
      rw[zqo,bD (by omega),jl (by omega) (by omega),bD (by omega),jl (by omega) (by omega),bD (by omega),jl (by omega) (by omega),bT (by omega)],?_,?_⟩
     ·show ((((a:Int) - 0).toNat+1)+((v.len:Int) - (a:Int)).toNat)=_;omega
     ·intro q hq;have hq:q < ((((a:Int) - 0).toNat+1)+((v.len:Int) - (a:Int)).toNat):=hq;show ∃ s,s∈cst g/\jb (((a:Int) - 0).toNat+1) (jb ((a:Int) - 0).toNat (Jn v.get 0) (λ _=>(Dk g).get (i:Int).toNat)) (Jn v.get (a:Int).toNat) q=eQ s;rw[gX];split
      ·exact hv (q - (((a:Int) - 0).toNat+1)+(a:Int).toNat) (by omega)
      ·rw [gX];split
       ·rw[Int.toNat_natCast,Oa g hi'];exact⟨_,List.getElem_mem hi',rfl⟩
       ·exact hv (q+0) (by omega)
    obtain⟨v',i1,i2,i3⟩:=ins;have fin:∃ v'':Sl Line,(∀ (A:Type) (k:Sl Line->Option A),sG E n g v (Dk g) (i:Int) (a:Int) k=lY E n g v'' (Dk g) ((i+1:Nat):Int) k)/\0 < v''.len/\v''.len<=i+1/\LnS g v'':=by
     by_cases h1:(a:Int) < (v.len:Int)
     ·have e3:∃ B:Bool,∀ (A:Type) (k:Sl Line->Option A),sG E n g v (Dk g) (i:Int) (a:Int) k=cond B (lY E n g v (Dk g) ((i+1:Nat):Int) k) (G6 E n g v (Dk g) (i:Int) (a:Int) k):=⟨_,λ A k=>by
       rw[zez,decide_eq_true h1,cond_true,bD (by omega),bD (by omega),bT (by omega)]⟩
      obtain⟨B,e3⟩:=e3;cases B with
      | true=>exact⟨v,λ A k=>by rw[e3];rfl,by omega,by omega,hv⟩
      | false=>exact⟨v',λ A k=>by rw[e3];exact i1 A k,by omega,by omega,i3⟩
     ·exact⟨v',λ A k=>by rw[zez,decide_eq_false h1];exact i1 A k,by omega,by omega,i3⟩
    obtain⟨v'',f1,f2,f3,f4⟩:=fin;obtain⟨L,l1,l2,l3,l4⟩:=ih (i+1) n v'' (by omega) (by omega) f4 f3;exact⟨L,λ A k=>by rw[st2,f1,l1],l2.trans ⟨λ _=>.inr ⟨i,hi',iZ _,ha⟩,λ _=>.inl f2⟩,l3,l4⟩
   ·have e:(tu (cst g)[i] g g.len).len < g.len:=by
     rcases Nat.lt_or_ge (tu (cst g)[i] g g.len).len g.len with h | h
     ·exact h
     ·exact absurd (pl.2.1.1 (by omega)) ha
    obtain⟨L,l1,l2,l3,l4⟩:=ih (i+1) n v (by omega) (by omega) hv (by omega);refine⟨L,λ A k=>by rw[st,decide_eq_true (by omega),cond_true,l1],l2.trans ⟨λ h=>h.imp id λ ⟨j,h1,h2,h3⟩=>⟨j,h1,by omega,h3⟩,λ h=>h.imp id λ ⟨j,h1,h2,h3⟩=>⟨j,h1,?_,h3⟩⟩,l3,l4⟩;have:j ≠ i:=λ e=>ha (by subst e;exact h3);omega
 obtain⟨L,l1,l2,l3,l4⟩:=key (cst g).length 0 E.N eL (by omega) (by omega) (λ i hi=>absurd hi (SE i)) (iZ _);refine⟨L,ae.ext λ k=>by rw[zIR,zqp g G,bn,bn];exact l1 _ k,l2.trans ⟨λ h=>?_,λ ⟨s,hs,ha⟩=>?_⟩,by omega,l4⟩
 ·rcases h with h | ⟨j, h1, _, h3⟩
  ·exact absurd h (Nat.lt_irrefl 0)
  ·exact⟨_,List.getElem_mem h1,h3⟩
 ·obtain ⟨j, h1, rfl⟩ := List.getElem_of_mem hs;exact .inr ⟨j,h1,Nat.zero_le _,ha⟩
theorem KT {g:Sl aC}(G:dm g) (hf:fV g=false):iF g=true↔∃ s∈cst g,Bq g s:=by
 unfold iF;rw[hf,cond_false,decide_eq_true_eq];obtain⟨c1,c2,_⟩:=Vy hf;constructor
 ·intro h;obtain⟨a,b⟩:=c1 _ (List.getElem_mem (l:=kE g) (n:=0) (by omega));exact⟨_,a,(Ht G (pY G a)).1 b⟩
 ·rintro ⟨s, hs, ha⟩;obtain⟨x,hx,_⟩:=c2 s hs ((Ht G (pY G hs)).2 ha);have:=List.length_pos_of_mem hx;omega
abbrev zrm (C:Sl aC->ae Bool):Prop:=∀ g,dm g->C g=.ok (iF g)
theorem zK6 {E:ZG}(Dh:zfs E.zS) (U2:zks E.c193) (U3:zkC E.c194):zrm (zi5 E):=λ g G=>ae.ext λ k=>by
 have hg:=G.2;rw[zHh,Dh g (by omega) (by omega),bn,bn];cases hf:fV g with
 | true =>
  rw[cond_true,U2 g (by omega) (by omega),bn];unfold iF;rw[hf];rfl
 | false =>
  obtain⟨L,l1,l2,_⟩:=U3 g G;rw[cond_false,l1,bn];congr 1;rw[Bool.eq_iff_iff,KT G hf,<- l2,decide_eq_true_eq];omega
def Ju (z:Int):Prop:=-100000<=z/\z<=200000
abbrev zrn (C:straight×Int->ae aS):Prop:=∀ s z,wV s->Ju z->C (s,z)=.ok (Jd z s)
theorem zK7 {E:zad} : zrn (zjO E):=λ s z S hz=>ae.ext λ k=>by
 rw[e203,bn,(XI S (z:=z) ⟨by have:=hz.1;omega,hz.2⟩).1];rfl
abbrev zro (C:straight×Pt Int->ae aS):Prop:=∀ s (z:Pt Int),wV s->Ju z.v->C (s,z)=.ok (Jd z.v s)
theorem zK8 {E:zac}(zqw:zrn E.c203):zro (zjN E):=λ s z S hz=>ae.ext λ k=>by rw[zJa,zqw _ _ S hz]
theorem VE {s:straight}(S:wV s){z:Int}(hz:Ju z):(-600000000000<=(Jd z s).Num/\(Jd z s).Num<=600000000000)/\0 < (Jd z s).cO/\(Jd z s).cO<=100000:=by
 have:=(XI S (z:=z) ⟨by have:=hz.1;omega,hz.2⟩).2;have:=S.2.2;exact⟨‹_›,by show 0 < s.den;omega,by show s.den<=_;omega⟩
def POK (f:aS):Prop:=(-600000000000<=f.Num/\f.Num<=600000000000)/\0 < f.cO/\f.cO<=100000
theorem XZ {a b:aS}(h1:POK a) (h2:POK b):aO (a.Num * b.cO)=a.Num * b.cO:=by
 have:=mJ h1.1.1 h1.1.2 (Int.le_of_lt h2.2.1) h2.2.2;exact bg (by omega) (by omega)
abbrev zrp (C:aS×aS->ae Bool):Prop:=∀ a b,POK a->POK b->C (a,b)=.ok (ltB a b)
theorem zK9 {E:ZT}(GZ:zfm E.zT):zrp (zjo E):=λ a b h1 h2=>ae.ext λ k=>by rw[e169,GZ _ _ (XZ h1 h2) (XZ h2 h1),bn,bn];rfl
abbrev zrq (C:aS×aS->ae Bool):Prop:=∀ a b,POK a->POK b->C (a,b)=.ok (gtB a b)
theorem zLa {E:ZV}(GZ:zfm E.zT):zrq (zjr E):=λ a b h1 h2=>ae.ext λ k=>by rw[zId,GZ _ _ (XZ h1 h2) (XZ h2 h1),bn,bn];rfl
abbrev zrr:=dN 169 Unit Unit ⊕ dN 171 Unit Unit
def oG : zrr → aS → aS → Bool
  | .inl _=>ltB
  | .inr _=>gtB
abbrev QEx {γ:Type}(i:γ->zrr) (C:Sl aS×γ->ae aS):Prop:=∀ (l:Sl aS) (c:γ),0 < l.len->l.len<=10000->(∀ i,i < l.len->POK (l.get i))->C (l,c)=.ok (sW (oG (i c)) l.get l.len)
abbrev zru (C:Sl aS×zrr->ae aS):Prop:=QEx id C
theorem RF {lt:aS->aS->Bool}{f:Nat->aS} : sW lt f 1=f 0:=by simp only[sW];cases lt (f 0) (f 0) <;> rfl
theorem RG {lt:aS->aS->Bool}{f:Nat->aS}{n:Nat} : sW lt f (n+1)=cond (lt (f n) (sW lt f n)) (f n) (sW lt f n):=rfl
theorem zO {lt : aS → aS → Bool} {f : Nat → aS} : ∀ n, ∃ i, i < n + 1 ∧ sW lt f (n + 1) = f i
  | 0=>⟨0,by omega,RF⟩
  | n+1=>by
    obtain⟨i,hi,e⟩:=zO (lt:=lt) (f:=f) n;rw[RG];cases lt (f (n+1)) (sW lt f (n+1)) with
    | true=>exact⟨n+1,by omega,rfl⟩
    | false=>exact⟨i,by omega,e⟩
theorem zfA {E:nX}(N:Big E.N) (zqi:zrp E.zlo):QEx .inl (zl E):=λ l c h0 hl hp=>ae.ext λ k=>by
 rw[zee,bn,bD (by omega),bD (by omega),<- RF (lt:=oG (.inl c)) (f:=l.get)];have hm:(((l.len:Int) - 1).toNat:Int)=((l.len - 1:Nat):Int):=by omega
 refine (jW (X:=λ n i=>kY E n l (i:Int) (sW (oG (.inl c)) l.get (i+1)) k) (m:=l.len - 1) (fin:=k (sW (oG (.inl c)) l.get l.len)) (λ n i hi=>?_) (λ n=>?_) E.N (by have:=N;omega))
 ·obtain ⟨j, hj, e⟩ := zO (lt := oG (.inl c)) (f := l.get) i;have hq:POK (sW (oG (.inl c)) l.get (i+1)):=by rw[e];exact hp j (by omega)
  rw[GX,hm,decide_eq_true (by omega),cond_true,bD (by omega),Int.toNat_natCast,show Jn l.get 1 i=l.get (i+1) from rfl,zqi _ _ (hp (i+1) (by omega)) hq,bn,bT (by omega),RG (n:=i+1)];show cond (ltB (l.get (i+1)) (sW (oG (.inl c)) l.get (i+1))) _ _=kY E n l _ (cond (ltB (l.get (i+1)) (sW (oG (.inl c)) l.get (i+1))) _ _) k;cases ltB (l.get (i+1)) (sW (oG (.inl c)) l.get (i+1)) <;> rfl
 ·rw[GX,hm,decide_eq_false (by omega),show l.len - 1+1=l.len by omega];rfl
theorem zfB {E:nY}(N:Big E.N) (zqj:zrq E.c171):QEx .inr (zn E):=λ l c h0 hl hp=>ae.ext λ k=>by
 rw[zeg,bn,bD (by omega),bD (by omega),<- RF (lt:=oG (.inr c)) (f:=l.get)];have hm:(((l.len:Int) - 1).toNat:Int)=((l.len - 1:Nat):Int):=by omega
 refine (jW (X:=λ n i=>kZ E n l (i:Int) (sW (oG (.inr c)) l.get (i+1)) k) (m:=l.len - 1) (fin:=k (sW (oG (.inr c)) l.get l.len)) (λ n i hi=>?_) (λ n=>?_) E.N (by have:=N;omega))
 ·obtain ⟨j, hj, e⟩ := zO (lt := oG (.inr c)) (f := l.get) i;have hq:POK (sW (oG (.inr c)) l.get (i+1)):=by rw[e];exact hp j (by omega)
  rw[GY,hm,decide_eq_true (by omega),cond_true,bD (by omega),Int.toNat_natCast,show Jn l.get 1 i=l.get (i+1) from rfl,zqj _ _ (hp (i+1) (by omega)) hq,bn,bT (by omega),RG (n:=i+1)];show cond (gtB (l.get (i+1)) (sW (oG (.inr c)) l.get (i+1))) _ _=kZ E n l _ (cond (gtB (l.get (i+1)) (sW (oG (.inr c)) l.get (i+1))) _ _) k;cases gtB (l.get (i+1)) (sW (oG (.inr c)) l.get (i+1)) <;> rfl
 ·rw[GY,hm,decide_eq_false (by omega),show l.len - 1+1=l.len by omega];rfl
theorem zLb {f:Sl aS×dN 169 Unit Unit->ae aS}{g:Sl aS×dN 171 Unit Unit->ae aS}(a:QEx .inl f) (b:QEx .inr g):zru (ae.two f g):=λ l c h0 hl hp=>by
 rcases c with c | c
 ·exact a l c h0 hl hp
 ·exact b l c h0 hl hp
def Jv (g : Sl aC) (z : Int) : Nat → Sl aS
  | 0=>⟨0,λ _=>⟨0,0⟩⟩
  | i+1=>mO (Jv g z i) (Jd z ((gB g).cu.get i))
theorem lD (g : Sl aC) (z : Int) : ∀ n, (Jv g z n).len = n
  | 0=>rfl
  | n+1=>by show (Jv g z n).len+1=n+1;rw[lD g z n]
theorem D5 (g : Sl aC) (z : Int) : ∀ n i, i < n → (Jv g z n).get i = Jd z ((gB g).cu.get i)
  | n+1,i,h=>by
    show jb (Jv g z n).len (Jv g z n).get (λ _=>Jd z ((gB g).cu.get n)) i=_;rw[gX,lD];by_cases e:i=n
    · rw[if_pos (by omega),e]
    · rw[if_neg (by omega),D5 g z n i (by omega)]
theorem BA {lt : aS → aS → Bool} {f g : Nat → aS} : ∀ n, (∀ i, i < n + 1 → f i = g i) → sW lt f (n + 1) = sW lt g (n + 1)
  | 0,h=>by rw[RF,RF,h 0 (by omega)]
  | n+1,h=>by rw[RG,RG (f:=g) (n:=n+1),BA n λ i hi=>h i (by omega),h (n+1) (by omega)]
abbrev zrv (C:set×dN 202 Unit (Pt Int)->ae (aS×aS)):Prop:=∀ g (c:dN 202 Unit (Pt Int)),dm g->Ju c.v.v->0 < (kE g).length->C (gB g,c)=.ok (red (loF g c.v.v).Num (loF g c.v.v).cO,red (hiF g c.v.v).Num (hiF g c.v.v).cO)
theorem zLc {E:UV}(N:Big E.N) (zpZ:zro E.zlv) (ziS:zru E.c168) (sF:Hq E.lu):zrv (ziQ E):=λ g c G hz h0=>ae.ext λ k=>by
 have hl:=NP G;have hs:=Hr g;have pok:∀ i,i < (kE g).length->POK (Jd c.v.v ((gB g).cu.get i)):=λ i hi=>VE (ug G (Bz G hi)) hz;obtain⟨n,hn⟩:∃ n,(kE g).length=n+1:=⟨(kE g).length - 1,by omega⟩;have lo:∃ i,i < n+1/\loF g c.v.v=Jd c.v.v ((gB g).cu.get i):=by unfold loF;rw[hn];exact zO n
 have hi:∃ i,i < n+1/\hiF g c.v.v=Jd c.v.v ((gB g).cu.get i):=by unfold hiF;rw[hn];exact zO n
 obtain⟨i1,i2,i3⟩:=lo;obtain⟨j1,j2,j3⟩:=hi;have pl:POK (loF g c.v.v):=by rw[i3];exact pok _ (by omega)
 have ph:POK (hiF g c.v.v):=by rw[j3];exact pok _ (by omega)
 rw[e119,bn];refine jW (X:=λ n i=>Nq E n (gB g) c (i:Int) (Jv g c.v.v i) k) (m:=(kE g).length) (λ n i hi=>?_) (λ m=>?_) _ (by have:=N;omega)
 ·rw[zd3,hs,decide_eq_true (by omega),cond_true,bD (by omega),Int.toNat_natCast,zpZ _ _ (ug G (Bz G hi)) hz,bn,jl (by rw[lD];omega) (by omega),bT (by omega)];rfl
 ·have hp:∀ i,i < (Jv g c.v.v (kE g).length).len->POK ((Jv g c.v.v (kE g).length).get i):=λ i hi=>by
   rw[lD] at hi;rw[D5 _ _ _ _ hi];exact pok i hi
  rw[zd3,hs,decide_eq_false (by omega),cond_false,ziS _ _ (by rw[lD];omega) (by rw[lD];omega) hp,bn,ziS _ _ (by rw[lD];omega) (by rw[lD];omega) hp,bn];have e1:sW (oG (.inl ⟨(),()⟩)) (Jv g c.v.v (kE g).length).get (Jv g c.v.v (kE g).length).len=loF g c.v.v:=by
   rw[lD];unfold loF;rw[hn];exact BA n λ i hi=>D5 _ _ _ _ hi
  have e2:sW (oG (.inr ⟨(),()⟩)) (Jv g c.v.v (kE g).length).get (Jv g c.v.v (kE g).length).len=hiF g c.v.v:=by
   rw[lD];unfold hiF;rw[hn];exact BA n λ i hi=>D5 _ _ _ _ hi
  show (E.lu ((sW (oG (.inl ⟨(),()⟩)) (Jv g c.v.v (kE g).length).get (Jv g c.v.v (kE g).length).len).Num,(sW (oG (.inl ⟨(),()⟩)) (Jv g c.v.v (kE g).length).get (Jv g c.v.v (kE g).length).len).cO)).T (λ r4=>(E.lu ((sW (oG (.inr ⟨(),()⟩)) (Jv g c.v.v (kE g).length).get (Jv g c.v.v (kE g).length).len).Num,(sW (oG (.inr ⟨(),()⟩)) (Jv g c.v.v (kE g).length).get (Jv g c.v.v (kE g).length).len).cO)).T λ r5=>k (r4,r5))=_;rw[e1,e2,sF _ _ (by have:=pl.1;omega) (by have:=pl.1;omega) pl.2.1 (by have:=pl.2.2;omega),bn,sF _ _ (by have:=ph.1;omega) (by have:=ph.1;omega) ph.2.1 (by have:=ph.2.2;omega),bn]
def D6 (g:Sl aC) (z:Int):aS×aS:=cond (fV g) (red (fF g g.len).Low 1,red (fF g g.len).High 1) (red (loF g z).Num (loF g z).cO,red (hiF g z).Num (hiF g z).cO)
theorem D7 {g : Sl aC} (G : ∀ i, i < g.len → fE (g.get i)) (h0 : 0 < g.len) : ∀ n, n ≤ g.len → (-1000000 ≤ (fF g n).Low ∧ (fF g n).Low ≤ 1000000) ∧ -1000000 ≤ (fF g n).High ∧ (fF g n).High ≤ 1000000
  | 0,_=>⟨mr (G 0 h0),oC (G 0 h0)⟩
  | n+1,h=>by
    obtain⟨a,b⟩:=D7 G h0 n (by omega);have c:=mr (G n (by omega));have d:=oC (G n (by omega));simp only[fF];constructor
    · split <;> assumption
    · split <;> assumption
abbrev zrx (C:set×Int->ae (aS×aS)):Prop:=∀ g z,dm g->Ju z->(fV g=false->0 < (kE g).length)->C (gB g,z)=.ok (D6 g z)
theorem zLe {E:ZP}(sD:Vx E.c167) (Vd:zkh E.Ov) (sF:Hq E.lu) (h119:zrv E.c119):zrx (zjl E):=λ g z G hz hc=>ae.ext λ k=>by
 have hg:=G.2;rw[zHX,sD (gB g).list (by show 0 < g.len;omega) (by show g.len<=1000;omega),bn,bn];show cond (fV g) _ _=_;unfold D6;cases hf:fV g with
 | true =>
  obtain⟨a,b⟩:=D7 G.1 (by omega) g.len (iZ _);rw[cond_true,Vd _ (by show 0 < g.len;omega) (by show g.len<=1000;omega),bn];show (E.lu ((fF g g.len).Low,1)).T (λ r3=>(E.lu ((fF g g.len).High,1)).T λ r4=>k (r3,r4))=_;rw[sF _ _ (by omega) (by omega) (by omega) (by omega),bn,sF _ _ (by omega) (by omega) (by omega) (by omega),bn];rfl
 | false=>rw[cond_false,h119 g ⟨(),⟨z⟩⟩ G hz (hc hf),bn];rfl
abbrev zry (C:Sl aC×Int->ae (aS×aS×Int)):Prop:=∀ g z,dm g->Ju z->C (g,z)=.ok (cond ((DW g ((g.get 0).Z == z)).2 != 0) (⟨0,0⟩,⟨0,0⟩,(DW g ((g.get 0).Z == z)).2) ((D6 g z).1,(D6 g z).2,0))
theorem zLf {E:Zt}(xI:yX E.c157) (UN:zkm E.c117) (zpT:zrx E.zbr):zry (ziL E):=λ g z G hz=>ae.ext λ k=>by
 have hg:=G.2;rw[zGt,xI,bn,bn,show inB z (-100000) 200000=true from decide_eq_true hz,UN g _ (by omega),bn];show cond ((DW g ((g.get 0).Z == z)).2 != 0) (k (⟨0,0⟩,⟨0,0⟩,(DW g ((g.get 0).Z == z)).2)) ((E.zbr ((DW g ((g.get 0).Z == z)).1,z)).T λ r3=>k (r3.1,r3.2,0))=_;unfold DW;rw[nz.2 G];cases hs:iF g with
 | false=>rfl
 | true =>
  cases hf:fV g && !((g.get 0).Z == z) with
  | true=>rfl
  | false =>
   show (E.zbr (gB g,z)).T _=_;rw[zpT g z G hz λ hf=>by unfold iF at hs;rw[hf,cond_false,decide_eq_true_eq] at hs;omega,bn];rfl
def zrz (p:af) (h:bz):bZ:=cond (p.Kind == 3) p.Clock ⟨aO (aO (h.Time - p.Clock.High) - p.dH),aO (aO (h.Time - p.Clock.Low)+p.dH)⟩
def Dl (s:au) (h:bz):bZ:=zrz (s.aj.get h.af.toNat) h
abbrev zrA (C:placed×bz->ae bZ):Prop:=∀ q h,C (q,h)=.ok (zrz q.af h)
theorem zLg {E:Zr} : zrA (ziK E):=λ q h=>ae.ext λ k=>by rw[zGp,bn,kc k];rfl
abbrev Q74 (C:au×bz->ae bZ):Prop:=∀ s h,jX s h=true->C (s,h)=.ok (Dl s h)
theorem s74 {E:E74} : Q74 (F74 E):=λ s h hh=>ae.ext λ k=>by rw[e74,bn,bD (GK hh),kc k];rfl
def tmG (s:au) (l:Sl bz):Sl aC:=⟨l.len,λ i=>⟨0,(Dl s (l.get i)).Low,(Dl s (l.get i)).High⟩⟩
theorem xP {g h : Sl aC} {m : Nat} (h0 : 0 < m) (e : ∀ i, i < m → g.get i = h.get i) : ∀ n, n ≤ m → fF g n = fF h n
  | 0,_=>by simp only[fF,e 0 h0]
  | n+1,hn=>by simp only[fF,xP h0 e n (by omega),e n (by omega)]
abbrev zrB (C:au×Sl bz->ae (bZ×Bool)):Prop:=∀ s (l:Sl bz),0 < l.len->l.len<=1000->(∀ i,i < l.len->jX s (l.get i)=true)->C (s,l)=.ok (fF (tmG s l) l.len,decide ((fF (tmG s l) l.len).Low<=(fF (tmG s l) l.len).High))
theorem zLi {E:U4}(N:Big E.N) (h74:Q74 E.c74):zrB (zi6 E):=λ s l h0 h1 hh=>ae.ext λ k=>by
 have:=jW (X:=λ n i=>Nu E n s l ((i+1:Nat):Int) (fF (tmG s l) (i+1)) k) (m:=l.len - 1) (fin:=k (fF (tmG s l) l.len,decide ((fF (tmG s l) l.len).Low<=(fF (tmG s l) l.len).High))) (λ n i hi=>by
  rw[zd9,decide_eq_true (by omega),cond_true,bD (by omega),Int.toNat_natCast,h74 _ _ (hh (i+1) (by omega)),bn,bT (by omega)];rfl) (λ n=>by
  rw[zd9,show l.len - 1+1=l.len by omega,decide_eq_false (by omega)];rfl) E.N (by have:=N;omega)
 rw[show (0+1:Nat)=1 from rfl,VC] at this;rw[zHj,bD (by omega),h74 _ _ (hh 0 h0),bn,bn];exact this
abbrev zrC (C:au×Sl bz->ae Int):Prop:=∀ s (l:Sl bz),pV s->dU s=true->l.len<=1000->(∀ i,i < l.len->jX s (l.get i)=true)->C (s,l)=.ok 0
theorem zLj {E:UM}(N:Big E.N) (xG:QSe E.c160) (h112:Zo E.qh):zrC (ziJ E):=λ s l hs hb hl hh=>ae.ext λ k=>by
 rw[zGm,decide_eq_false (by omega),cond_false,xG s hs,bn,hb,bn];refine jW (X:=λ n i=>Np E n s l (i:Int) k) (m:=l.len) (λ n i hi=>?_) (λ n=>?_) _ (by have:=N;omega)
 ·rw [zdU, decide_eq_true (by omega), cond_true, bD (by omega), Int.toNat_natCast, h112 _ _ hs hb, bn, bT (by omega)];show cond (!jX s (l.get i)) _ _=_;rw[hh i hi];rfl
 ·rw[zdU,decide_eq_false (by omega)];rfl
def cmS (x:bZ):bZ×Int:=cond (decide (x.Low > x.High)) (⟨0,0⟩,5) (x,0)
abbrev Q50 (C:au×Sl bz->ae (bZ×Int)):Prop:=∀ s (l:Sl bz),pV s->dU s=true->0 < l.len->l.len<=1000->(∀ i,i < l.len->jX s (l.get i)=true)->C (s,l)=.ok (cmS (fF (tmG s l) l.len))
theorem s50 {E:E50}(N:Big E.N) (zpy:zrC E.zle) (h112:Zo E.qh) (ziE:zrA E.VL):Q50 (F50 E):=λ s l hs hb h0 hl hh=>ae.ext λ k=>by
 have hm:(((l.len:Int) - 1).toNat:Int)=((l.len - 1:Nat):Int):=by omega
 have tm:∀ i,i < l.len->zrz (ofP s (l.get i)).af (l.get i)=Dl s (l.get i):=λ i hi=>by rw[zdO (hh i hi)];rfl
 have:=jW (X:=λ n i=>Xt E n s l (i:Int) (fF (tmG s l) (i+1)) k) (m:=l.len - 1) (fin:=k (cmS (fF (tmG s l) l.len))) (λ n i hi=>by
  rw[zmr,hm,decide_eq_true (by omega),cond_true,bD (by omega),Int.toNat_natCast];show (E.qh (s,l.get (i+1))).T _=_;rw[h112 _ _ hs hb,bn];show (E.VL (ofP s (l.get (i+1)),l.get (i+1))).T _=_;rw[ziE,bn,tm (i+1) (by omega),bT (by omega)];rfl) (λ n=>by
  rw[zmr,hm,show l.len - 1+1=l.len by omega,decide_eq_false (by omega),cond_false,kc k];rfl) E.N (by have:=N;omega)
 rw[show (0+1:Nat)=1 from rfl,VC] at this;rw[e50,zpy s l hs hb hl hh,bn,show ((0:Int) != 0)=false from rfl,cond_false,show ((l.len:Int) == 0)=false by rw[dqU];omega,cond_false,bD (by omega),h112 _ _ hs hb,bn,bD (by omega)];show (E.VL (ofP s (l.get 0),l.get 0)).T _=_;rw[ziE,bn,bD (by omega),tm 0 h0,bn];exact this
def KU (l : Sl bz) (w : Sl Int) : Nat → Sl bz
  | 0=>⟨0,λ _=>⟨0,0,0,0,0,0⟩⟩
  | i+1=>mO (KU l w i) (l.get (w.get i).toNat)
theorem lF (l : Sl bz) (w : Sl Int) : ∀ n, (KU l w n).len = n
  | 0=>rfl
  | n+1=>by show (KU l w n).len+1=n+1;rw[lF l w n]
theorem Ob (l : Sl bz) (w : Sl Int) : ∀ n i, i < n → (KU l w n).get i = l.get (w.get i).toNat
  | n+1,i,h=>by
    show jb (KU l w n).len (KU l w n).get (λ _=>l.get (w.get n).toNat) i=_;rw[gX,lF];by_cases e:i=n
    · rw[if_pos (by omega),e]
    · rw[if_neg (by omega),Ob l w n i (by omega)]
def InH (l:Sl bz) (w:Sl Int):Prop:=∀ i,i < w.len->0<=w.get i/\w.get i < (l.len:Int)
theorem zfC {s:au}{l:Sl bz}(he:Evt s l){w:Sl Int}(h:InH l w):∀ i,i < (KU l w w.len).len->jX s ((KU l w w.len).get i)=true:=λ i hi=>by
 rw[lF] at hi;rw[Ob _ _ _ _ hi];have:=h i hi;exact dC.1 he.hi _ (by omega)
def Ia (s:au) (l:Sl bz) (c:iH):bZ:=fF ⟨c.length,λ i=>⟨0,(Dl s (l.get ((c[i]?).getD (0,0)).1.toNat)).Low,(Dl s (l.get ((c[i]?).getD (0,0)).1.toNat)).High⟩⟩ c.length
theorem X0 {s:au}{l:Sl bz}{t:ai}{c:iH}(hc:gY t=c) (h0:0 < t.Hits.len):fF (tmG s (KU l t.Hits t.Hits.len)) (KU l t.Hits t.Hits.len).len=Ia s l c:=by
 unfold Ia;rw[lF,<- hc,mQ];refine xP h0 (λ i hi=>?_) _ (iZ _);show (⟨0,(Dl s ((KU l t.Hits t.Hits.len).get i)).Low,(Dl s ((KU l t.Hits t.Hits.len).get i)).High⟩:aC)=⟨0,(Dl s (l.get (((gY t)[i]?).getD (0,0)).1.toNat)).Low,(Dl s (l.get (((gY t)[i]?).getD (0,0)).1.toNat)).High⟩;rw[Ob _ _ _ _ hi,NV hi];rfl
def RH (s:au) (l:Sl bz) (c:iH):Bool:=decide ((Ia s l c).Low<=(Ia s l c).High)
abbrev Q93 (C:Pt aW×ai->ae (bZ×Bool)):Prop:=∀ s l r t c,Evt s l->InH l t.Hits->0 < t.Hits.len->t.Hits.len<=100->gY t=c->C (iM s r l,t)=.ok ((cmS (Ia s l c)).1,RH s l c)
theorem s93 {E:E93}(N:Big E.N) (h50:Q50 E.c50):Q93 (F93 E):=λ s l r t c he hi h0 h1 hc=>ae.ext λ k=>by
 rw[e93,bn];refine jW (X:=λ n i=>XB E n (iM s r l) t (i:Int) (KU l t.Hits i) k) (m:=t.Hits.len) (λ n i hi'=>?_) (λ n=>?_) _ (by have:=N;omega)
 ·have a := hi i hi';rw[zmC,decide_eq_true (by omega),cond_true,bD (by omega),Int.toNat_natCast,bD (show 0<=t.Hits.get i/\t.Hits.get i < ((iM s r l).v.hits.len:Int) from a),jl (by rw[lF];omega) (by omega),bT (by omega)];rfl
 ·rw [zmC, decide_eq_false (by omega), cond_false];show (E.c50 (s,KU l t.Hits t.Hits.len)).T _=_;rw[h50 _ _ he.sh he.se (by rw[lF];omega) (by rw[lF];omega) (zfC he hi),bn,X0 hc h0];have:((cmS (Ia s l c)).2 == 0)=RH s l c:=by
   unfold cmS RH;by_cases h:(Ia s l c).Low > (Ia s l c).High
   ·rw[decide_eq_true h,decide_eq_false (by omega)];rfl
   ·rw[decide_eq_false h,decide_eq_true (by omega)];rfl
  rw[this]
abbrev zrE (C:Sl bz×Sl Int->ae (Sl bz)):Prop:=∀ (l:Sl bz) (w:Sl Int),InH l w->w.len<=100->C (l,w)=.ok (KU l w w.len)
theorem zLm {E:U5}(N:Big E.N):zrE (zi7 E):=λ l w hi h1=>ae.ext λ k=>by
 rw[zHl,bn];refine jW (X:=λ n i=>Nv E n l w (i:Int) (KU l w i) k) (m:=w.len) (λ n i hi'=>?_) (λ n=>?_) _ (by have:=N;omega)
 ·have a := hi i hi';rw[zea,decide_eq_true (by omega),cond_true,bD (by omega),Int.toNat_natCast,bD a,jl (by rw[lF];omega) (by omega),bT (by omega)];rfl
 ·rw[zea,decide_eq_false (by omega)];rfl
abbrev Q90 (C:au×Sl bz×Sl Int->ae Bool):Prop:=∀ s l (w:Sl Int),Evt s l->InH l w->0 < w.len->w.len<=100->C (s,l,w)=.ok (decide ((fF (tmG s (KU l w w.len)) (KU l w w.len).len).Low<=(fF (tmG s (KU l w w.len)) (KU l w w.len).len).High))
theorem s90 {E:E90}(zpG:zrE E.c148) (zpH:zrB E.zll):Q90 (F90 E):=λ s l w he hi h0 h1=>ae.ext λ k=>by
 rw[e90,zpG _ _ hi h1,bn,zpH _ _ (by rw[lF];omega) (by rw[lF];omega) (zfC he hi),bn,bn]
def wF (s:au) (l:Sl bz) (c:iH):Bool:=RH s l c && iF (xX s l c)
theorem BB {s:au}{l:Sl bz}{x:Int}{t:ai}{c:iH}{j:Nat}(hc:gY t=c) (h:Val s l x c j):InH l t.Hits:=λ i hi=>by
 have:=vZ hc hi;have m:=(h.mem _ (Ea this)).1;have:=h.le;simp only at m;omega
theorem Oc {t:ai}{c:iH}(hc:gY t=c) (hn:c ≠ []):0 < t.Hits.len:=by
 rw[<- mQ,hc];exact List.length_pos_iff.2 hn
theorem o5 {s:au}{l:Sl bz}{x:Int}{t:ai}{c:iH}{j:Nat}(hc:gY t=c) (h:Val s l x c j):t.Hits.len<=l.len:=by
 rw[<- mQ,hc];have:=h.le;omega
structure Ev (s : au) (l : Sl bz) (x : Int) : Prop extends Evt s l where
  l24:l.len<=24
  vw:vwB x=true
abbrev zrF (C:Pt aW×ai->ae Bool):Prop:=∀ s l r x t c j,Ev s l x->OC x t->gY t=c->Val s l x c j->c ≠ []->C (iM s r l,t)=.ok (wF s l c)
theorem zLo {E:ZZ}(h93:Q93 E.c93) (UZ:ziB E.c105) (zqn:zq6 E.zlz):zrF (zjy E):=λ s l r x t c j he ht hc hv hn=>ae.ext λ k=>by
 have hl:=o5 hc hv;have uf:=he.l24;have G:=N7 he.toEvt he.l24 hv hn;obtain⟨y,hy⟩:=zqn (xX s l c) (by have:=G.2;omega);rw[zIv,h93 s l r t c he.toEvt (BB hc hv) (Oc hc hn) (by omega) hc,bn,bn];unfold wF;cases RH s l c with
 | false=>rfl
 | true =>
  show (E.c105 (iM s r l,t)).T _=_;rw[UZ s l r t he.toEvt (by omega) (DZ he.vw ht hc hv hn),bn,NZ hc,hy,bn,<- zq7 G];rfl
abbrev zkD (C:au×Sl bz×ai->ae Bool):Prop:=∀ s l x t c j,Ev s l x->OC x t->gY t=c->Val s l x c j->c ≠ []->C (s,l,t)=.ok (wF s l c)
theorem zLp {E:Z9}(h65:Q65 E.c65) (zqv:zrm E.c145) (h90:Q90 E.c90):zkD (zjJ E):=λ s l x t c j he ht hc hv hn=>ae.ext λ k=>by
 have hl:=o5 hc hv;have uf:=he.l24;have G:=N7 he.toEvt he.l24 hv hn;rw[zIW,h65 s l t he.toEvt (by omega) (DZ he.vw ht hc hv hn),bn,NZ hc,zqv _ G,bn,h90 s l _ he.toEvt (BB hc hv) (Oc hc hn) (by omega),bn,X0 hc (Oc hc hn),bn];unfold wF;show cond (iF (xX s l c)) (k (RH s l c)) (k false)=_;cases iF (xX s l c) <;> cases RH s l c <;> rfl
abbrev zrG (C:Int×Pt (Pt aW)×Pt Int->ae Bool):Prop:=∀ s l r i k,0<=i/\i < (l.len:Int)->0<=k/\k < (l.len:Int)->C (i,⟨iM s r l⟩,⟨k⟩)=.ok ((l.get i.toNat).af == (l.get k.toNat).af)
theorem zLq {E:ZY} : zrG (zjx E):=λ s l r i k hi hk=>ae.ext λ K=>by
 rw[zIr,bn];exact (bD (p:=0<=i/\i < (l.len:Int)) hi).trans (bD (p:=0<=k/\k < (l.len:Int)) hk)
abbrev zrH (C:Int×Pt (Pt aW)×Pt Int->ae Bool):Prop:=∀ s l r i p,0<=i/\i < (l.len:Int)->C (i,⟨iM s r l⟩,⟨p⟩)=.ok ((l.get i.toNat).af == p)
theorem zLr {E:Z5} : zrH (zjD E):=λ s l r i p hi=>ae.ext λ K=>by
 rw[e190,bn];exact bD (p:=0<=i/\i < (l.len:Int)) hi
abbrev zaF:=dN 180 Unit (Pt (Pt aW)×Pt Int) ⊕ dN 190 Unit (Pt (Pt aW)×Pt Int)
def zkE (l : Sl bz) : zaF → Int → Bool
  | .inl c,h=>(l.get h.toNat).af == (l.get c.v.2.v.toNat).af
  | .inr c,h=>(l.get h.toNat).af == c.v.2.v
def okU (s : au) (l : Sl bz) (r : bP) : zaF → Prop
  | .inl c=>c.v.1.v=iM s r l/\0<=c.v.2.v/\c.v.2.v < (l.len:Int)
  | .inr c=>c.v.1.v=iM s r l
abbrev QUx {γ:Type}(i:γ->zaF) (C:Sl Int×γ->ae Int):Prop:=∀ s l r (w:Sl Int) (c:γ),InH l w->w.len<=1000->okU s l r (i c)->C (w,c)=.ok (fst (λ j=>zkE l (i c) (w.get j)) w.len 0)
abbrev QUa {γ:Type}(i:γ->zaF) (C:Sl Int×γ->ae Bool):Prop:=∀ s l r (w:Sl Int) (c:γ),InH l w->w.len<=1000->okU s l r (i c)->C (w,c)=.ok (!dR (λ j=>!zkE l (i c) (w.get j)) w.len)
abbrev zkF (C:Sl Int×zaF->ae Int):Prop:=QUx id C
abbrev zkG (C:Sl Int×zaF->ae Bool):Prop:=QUa id C
theorem zfD {E:og}(N:Big E.N) (zqC:zrG E.zgo):QUx .inl (zA E):=λ s l r w c hi hw ho=>ae.ext λ k=>by
 obtain⟨⟨⟩,⟨a⟩,⟨b⟩⟩:=c;obtain⟨rfl,hb⟩:=ho;rw[zeP,bn];refine CQ (L:=λ n i=>sK E n w _ i k) (p:=λ j=>zkE l (.inl ⟨(),⟨iM s r l⟩,⟨b⟩⟩) (w.get j)) (m:=w.len) (k:=k) (by omega) (λ n i hi'=>?_) (λ n=>?_) _ (by have:=N;omega)
 ·rw [G8, decide_eq_true (by omega), cond_true, bD (by omega), Int.toNat_natCast];show (E.zgo (w.get i,⟨iM s r l⟩,⟨b⟩)).T _=_;rw[zqC s l r _ _ (hi i hi') hb,bn];rfl
 ·rw[G8,decide_eq_false (by omega)];rfl
theorem zfE {E:oh}(N:Big E.N) (zqD:zrH E.zgq):QUx .inr (zB E):=λ s l r w c hi hw ho=>ae.ext λ k=>by
 obtain⟨⟨⟩,⟨a⟩,⟨b⟩⟩:=c;have ho:a=iM s r l:=ho;subst ho;rw[zeR,bn];refine CQ (L:=λ n i=>sN E n w _ i k) (p:=λ j=>zkE l (.inr ⟨(),⟨iM s r l⟩,⟨b⟩⟩) (w.get j)) (m:=w.len) (k:=k) (by omega) (λ n i hi'=>?_) (λ n=>?_) _ (by have:=N;omega)
 ·rw [G9, decide_eq_true (by omega), cond_true, bD (by omega), Int.toNat_natCast];show (E.zgq (w.get i,⟨iM s r l⟩,⟨b⟩)).T _=_;rw[zqD s l r _ _ (hi i hi'),bn];rfl
 ·rw[G9,decide_eq_false (by omega)];rfl
theorem zLs {f:Sl Int×dN 180 Unit (Pt (Pt aW)×Pt Int)->ae Int}{g:Sl Int×dN 190 Unit (Pt (Pt aW)×Pt Int)->ae Int}(a:QUx .inl f) (b:QUx .inr g):zkF (ae.two f g):=λ s l r w c hi hw ho=>by
 rcases c with c | c
 ·exact a s l r w c hi hw ho
 ·exact b s l r w c hi hw ho
theorem zfF {E:qR}(Vg:zkF E.c210):QUa .inl (zo E):=λ s l r w c hi hw ho=>ae.ext λ k=>by rw[zem,Vg s l r w (.inl c) hi hw ho,bn,bn,sV];rfl
theorem zfG {E:qU}(Vg:zkF E.c210):QUa .inr (zq E):=λ s l r w c hi hw ho=>ae.ext λ k=>by rw[zeq,Vg s l r w (.inr c) hi hw ho,bn,bn,sV];rfl
theorem zLt {f:Sl Int×dN 180 Unit (Pt (Pt aW)×Pt Int)->ae Bool}{g:Sl Int×dN 190 Unit (Pt (Pt aW)×Pt Int)->ae Bool}(a:QUa .inl f) (b:QUa .inr g):zkG (ae.two f g):=λ s l r w c hi hw ho=>by
 rcases c with c | c
 ·exact a s l r w c hi hw ho
 ·exact b s l r w c hi hw ho
theorem zfH {l:Sl bz}{t:ai}{c:iH}(hc:gY t=c) (p:Int->Bool):(!dR (λ j=>!p (t.Hits.get j)) t.Hits.len)=c.any λ q=>p q.1:=by
 rw[Bool.eq_iff_iff,Bool.not_eq_true',<- Bool.not_eq_true,dC,List.any_eq_true];constructor
 ·intro h;apply Classical.byContradiction;intro hn;refine h λ j hj=>?_;cases e:p (t.Hits.get j) with
  | false=>rfl
  | true=>exact (hn ⟨_,Ea (vZ hc hj),e⟩).elim
 ·rintro ⟨q, hq, e⟩ h;obtain⟨j,hj,rfl⟩:=List.getElem_of_mem hq;have hl:j < t.Hits.len:=by rw[<- mQ,hc];exact hj
  have:=vZ hc hl;rw[xY hj] at this;have:=Option.some.inj this;have h2:=h j hl;rw[this] at e;rw[e] at h2;cases h2
def zW (w:Sl ai):List iH:=(List.range w.len).map λ i=>gY (w.get i)
theorem jq (w:Sl ai):(zW w).length=w.len:=by simp[zW]
theorem zkH {w:Sl ai}{i:Nat}(h:i < w.len):(zW w)[i]? = some (gY (w.get i)):=by simp[zW,List.getElem?_range h]
def wG (x:Int) (w:Sl ai):Prop:=∀ i,i < w.len->OC x (w.get i)
theorem X3 (w:Sl ai) (t:ai):zW (mO w t)=zW w ++ [gY t]:=by
 unfold zW;show (List.range (w.len+1)).map _=_;rw[List.range_succ,List.map_append];congr 1
 ·exact List.map_congr_left λ i hi=>by
   show gY (jb w.len w.get (λ _=>t) i)=_;rw[gX,if_neg (by have:=List.mem_range.1 hi;omega)]
 ·show [gY (jb w.len w.get (fun _ => t) w.len)] = _;rw[gX,if_pos (iZ _)]
theorem RI {x:Int}{w:Sl ai}{t:ai}(h:wG x w) (ht:OC x t):wG x (mO w t):=λ i hi=>by
 show OC x (jb w.len w.get (λ _=>t) i);rw[gX];by_cases e:w.len<=i
 ·rw[if_pos e];exact ht
 ·rw[if_neg e];exact h i (by omega)
def SL (x:Int) (t:ai) (p:Int×Int):ai:=⟨x,⟨t.Hits.len+1,jb t.Hits.len t.Hits.get λ _=>p.1⟩,⟨t.bC.len+1,jb t.bC.len t.bC.get λ _=>p.2⟩⟩
theorem X4 {x:Int}{t:ai}{p:Int×Int}(h:t.bC.len=t.Hits.len):gY (SL x t p)=gY t ++ [p]:=by
 refine zfz rfl (λ j hj=>?_) ?_
 ·show jb t.Hits.len t.Hits.get (fun _ => p.1) j = _ ∧ jb t.bC.len t.bC.get (fun _ => p.2) j = _;rw[gX,gX,if_neg (by omega),if_neg (by omega)];exact⟨rfl,rfl⟩
 ·show jb t.Hits.len t.Hits.get (fun _ => p.1) t.Hits.len = _ ∧ jb t.bC.len t.bC.get (fun _ => p.2) t.Hits.len = _;rw[gX,gX,if_pos (by omega),if_pos (by omega)];exact⟨rfl,rfl⟩
theorem BC {x:Int}{t:ai}{p:Int×Int}(h:t.bC.len=t.Hits.len):OC x (SL x t p):=⟨rfl,by show t.bC.len+1=t.Hits.len+1;rw[h]⟩
abbrev zyN:=ai×Int×Bc 143 (Pt aW)×Bc 38 Int×Bw 30 43 3 56 ai×Bs 255 178 2 4×Unit
abbrev X5:=Unit×(Unit×Unit×Pt aW×Int×Sl ai×Unit×Unit)
def QM (f:Nat) (C:zyN->ae X5):Prop:=∀ s l r x t c (i:Nat) (w:Sl ai),Ev s l x->Val s l x c i->gY t=c->t.bC.len=t.Hits.len->l.len < i+f->wG x w->w.len+(gr (wF s l) (vg l) (DY s l x) f c i).length<=2000 ->
 ∃ w',C (t,(i:Int),⟨iM s r l⟩,⟨x⟩,⟨w⟩,{},())=.ok ((),(),(),iM s r l,x,w',(),())/\zW w'=zW w ++ gr (wF s l) (vg l) (DY s l x) f c i/\wG x w'
theorem zLu {E:ZX}{f:Nat}(U0:zkG E.I7) (zqm:zrF E.c182) (i173:zpw E.i173) (hm:QM f E.I9):QM (f+1) (zjv E):=λ s l r x t c i w he hv hc ht hf hw hn=>by
 have uf:=he.l24;have hle:=hv.le;have hlen:=o5 hc hv
 have key:∀ (ys:iH) (w:Sl ai),(∀ y∈ys,y∈DY s l x i)->wG x w->w.len+(ys.flatMap λ p=>cond (vg l c p.1 || !wF s l (c ++ [p])) [] ((c ++ [p]) :: gr (wF s l) (vg l) (DY s l x) f (c ++ [p]) (p.1.toNat+1))).length<=2000 ->
   ∃ w',(∀ (A:Type) (k:X5->Option A) (w0:Sl ai),lX E ys t (i:Int) (iM s r l) x w0 (iM s r l) x w k=k ((),(),(),iM s r l,x,w',(),()))/\zW w'=zW w ++ (ys.flatMap λ p=>cond (vg l c p.1 || !wF s l (c ++ [p])) [] ((c ++ [p]) :: gr (wF s l) (vg l) (DY s l x) f (c ++ [p]) (p.1.toNat+1)))/\wG x w':=by
  intro ys
  induction ys with
  | nil=>intro w _ hw _;exact⟨w,λ A k w0=>zjw ..,by simp,hw⟩
  | cons y ys ih =>
   intro w hy hw hn;rw[lG] at hn ⊢;rw[OE] at hn;have hys:∀ z∈ys,z∈DY s l x i:=λ z hz=>hy z (jc _ hz);obtain⟨_,y1,_,_⟩:=vk (hy y kz);have u:(E.I7 (t.Hits,.inl ⟨(),⟨iM s r l⟩,⟨y.1⟩⟩))=.ok (vg l c y.1):=by
    rw[U0 s l r t.Hits (.inl ⟨(),⟨iM s r l⟩,⟨y.1⟩⟩) (BB hc hv) (by omega) ⟨rfl,(by show 0<=y.1;omega),(by show y.1 < (l.len:Int);omega)⟩];exact congrArg ae.ok (zfH (l:=l) hc λ h=>(l.get h.toNat).af == (l.get y.1.toNat).af)
   have skip:∀ (A:Type) (k:X5->Option A) (w0:Sl ai),vg l c y.1=true->lX E (y :: ys) t (i:Int) (iM s r l) x w0 (iM s r l) x w k=lX E ys t (i:Int) (iM s r l) x w0 (iM s r l) x w k:=λ A k w0 e=>by
    rw[zej,u,bn,e];rfl
   cases hu:vg l c y.1 with
   | true =>
    rw[hu] at hn;obtain⟨w',a,b,d⟩:=ih w hys hw (by simpa using hn);exact⟨w',λ A k w0=>by rw[skip A k w0 hu,a],by rw[b];rfl,d⟩
   | false =>
    have hv2:=hv.snoc (hy y kz) hu;have hc2:gY (SL x t y)=c ++ [y]:=by rw[X4 ht,hc]
    have ag:=zqm s l r x (SL x t y) (c ++ [y]) _ he (BC ht) hc2 hv2 (by simp);have st:∀ (A:Type) (k:X5->Option A) (w0:Sl ai),lX E (y :: ys) t (i:Int) (iM s r l) x w0 (iM s r l) x w k=cond (!wF s l (c ++ [y])) (lX E ys t (i:Int) (iM s r l) x w0 (iM s r l) x w k) (bf (room (w.len+1) 56) (cond (decide ((w.len:Int)+1 > 2000)) none ((E.I9 (SL x t y,aO (y.1+1),⟨iM s r l⟩,⟨x⟩,⟨mO w (SL x t y)⟩,{},())).T λ r3=>lX E ys t (i:Int) (iM s r l) x w0 r3.2.2.2.1 r3.2.2.2.2.1 r3.2.2.2.2.2.1 k))):=λ A k w0=>by
     rw[zej,u,bn,hu,cond_false,jl (by omega) (by omega),jl (by omega) (by omega),jl (by omega) (by omega),jl (by omega) (by omega)];show (E.c182 (iM s r l,SL x t y)).T _=_;rw[ag,bn];rfl
    cases ha:wF s l (c ++ [y]) with
    | false =>
     rw[hu,ha] at hn;obtain⟨w',a,b,d⟩:=ih w hys hw (by simpa using hn);exact⟨w',λ A k w0=>by rw[st,ha];exact a A k w0,by rw[b];rfl,d⟩
    | true =>
     rw[hu,ha] at hn;simp only[Bool.not_true,Bool.or_self,cond_false,Jz] at hn;have e1:aO (y.1+1)=((y.1.toNat+1:Nat):Int):=by rw[bg (by omega) (by omega)];omega
     obtain⟨w1,a1,b1,d1⟩:=hm s l r x (SL x t y) (c ++ [y]) (y.1.toNat+1) (mO w (SL x t y)) he hv2 hc2 (BC (x:=x) ht).2 (by omega) (RI hw (BC ht)) (by show w.len+1+_<=_;omega);have l1:w1.len=w.len+1+(gr (wF s l) (vg l) (DY s l x) f (c ++ [y]) (y.1.toNat+1)).length:=by
      rw[<- jq,b1,OE,jq];rfl
     obtain⟨w',a,b,d⟩:=ih w1 hys d1 (by rw[l1];omega);refine⟨w',λ A k w0=>?_,?_,d⟩
     ·rw [st, ha, e1, a1, bn, jl (by omega) (by omega), decide_eq_false (by omega)];exact a A k w0
     ·rw[b,b1,X3,hc2];simp
 obtain⟨w',a,b,d⟩:=key (DY s l x i) w (λ y hy=>hy) hw hn;refine⟨w',ae.ext λ k=>?_,b,d⟩;rw[zIl,i173 s l r x i he.toEvt hle.2,bn,bn];exact a _ k w
def jE (s:au) (l:Sl bz) (x:Int):List iH:=gr (wF s l) (vg l) (DY s l x) 30 [] 0
theorem X6 (s:au) (l:Sl bz) (x:Int):Val s l x [] 0:=⟨⟨iZ _,Nat.zero_le _⟩,(λ p h=>by cases h),List.Pairwise.nil⟩
abbrev zrK (C:Pt aW×Int->ae (Sl ai×Bool)):Prop:=∀ s l r x,Ev s l x->(jE s l x).length<=2000->∃ w,C (iM s r l,x)=.ok (w,true)/\zW w=jE s l x/\wG x w
theorem zLv {E:Zx}(hm:QM 30 E.I9):zrK (ziV E):=λ s l r x he hn=>by
 have uf:=he.l24;obtain⟨w',a,b,d⟩:=hm s l r x ⟨0,⟨0,λ _=>default⟩,⟨0,λ _=>default⟩⟩ [] 0 ⟨0,λ _=>⟨0,⟨0,λ _=>0⟩,⟨0,λ _=>0⟩⟩⟩ he (X6 s l x) rfl rfl (by omega) (λ i hi=>absurd hi (SE i)) (by show 0+(jE s l x).length<=_;omega);exact⟨w',ae.ext λ k=>by rw[e127];show (E.I9 (_,((0:Nat):Int),_)).T _=_;rw[a,bn,bn],b,d⟩
abbrev zrL (C:ai×Int×Int->ae ai):Prop:=∀ t i k,t.Hits.len<=1000->t.bC.len<=1000->C (t,i,k)=.ok (SL t.View t (i,k))
theorem zLw {E:zak} : zrL (zj1 E):=λ t i k h1 h2=>ae.ext λ K=>by
 rw[e227,bn,jl (by omega) (by omega),jl (by omega) (by omega),jl (by omega) (by omega),jl (by omega) (by omega)];rfl
abbrev stC (s:au) (l:Sl bz) (x:Int) (f:Nat) (c:iH):List iH->Int×Int->List iH:=λ out p=>cond (vg l c p.1 || (decide (2000 < out.length) || !wF s l (c ++ [p]))) out (NT (wF s l) (vg l) (DY s l x) f (out ++ [c ++ [p]]) (c ++ [p]) (p.1.toNat+1))
def QW (f:Nat) (C:(au×Sl bz×ai×Int)×Sl ai->ae (Sl ai)):Prop:=∀ s l x t c (i:Nat) (w:Sl ai),Ev s l x->Val s l x c i->gY t=c->OC x t->l.len < i+f->wG x w->w.len<=2001 ->
 ∃ w',C ((s,l,t,(i:Int)),w)=.ok w'/\zW w'=NT (wF s l) (vg l) (DY s l x) f (zW w) c i/\wG x w'
theorem zfI {s : au} {l : Sl bz} {x : Int} {f : Nat} {c : iH} {i : Int} (h : vg l c i = true) : ∀ (d k : Nat) (out : List iH), (Xq i d k).foldl (stC s l x f c) out = out
  | 0,_,_=>rfl
  | d+1,k,out=>by
    rw[Xq,List.foldl_cons];show (Xq i d (k+1)).foldl _ (cond (vg l c i || _) out _)=out;rw[h];exact zfI h d (k+1) out
theorem RJ {s : au} {l : Sl bz} {x : Int} {f : Nat} {c : iH} {i : Int} : ∀ (d k : Nat) (out : List iH), 2000 < out.length → (Xq i d k).foldl (stC s l x f c) out = out
  | 0,_,_,_=>rfl
  | d+1,k,out,h=>by
    rw[Xq,List.foldl_cons];have:stC s l x f c out (i,(k:Int))=out:=by
      show cond (vg l c i || (decide (2000 < out.length) || _)) out _=out;rw[decide_eq_true h,Bool.true_or,Bool.or_true];rfl
    rw[this];exact RJ d (k+1) out h
theorem Oe {ag : iH → Bool} {us : iH → Int → Bool} {sd : Nat → iH} : ∀ {f out c i}, out.length ≤ 2001 → (NT ag us sd f out c i).length ≤ 2001
  | 0,out,c,i,h=>h
  | f+1,out,c,i,h=>by
    simp only[NT];generalize sd i=l
    induction l generalizing out with
    | nil=>exact h
    | cons p l ih =>
      rw[List.foldl_cons];refine ih _ ?_;cases hc:us c p.1 || (decide (2000 < out.length) || !ag (c ++ [p])) with
      | true=>exact h
      | false =>
        simp only[Bool.or_eq_false_iff,decide_eq_false_iff_not] at hc;exact Oe (by rw[OE];simp only[Jz,SC];omega)
theorem zLx {E:Vl}{f:Nat}(N:Big E.N) (h87:Q87 E.c87) (h75:Q75 E.c75) (zqu:zrL E.c227) (U9:zkD E.c196) (hm:QW f E.Ja):QW (f+1) (zjI E):=λ s l x t c i w he hv hc ht hf hw hn=>by
 have uf:=he.l24;have hle:=hv.le;have hlen:=o5 hc hv;have hN:=N
 -- the kN of one hit
 have inn:∀ (n0:Nat) (a:Nat),i<=a->a < l.len->OA s l a=x->vg l c (a:Int)=false->∀ (m k n1:Nat) (w:Sl ai),k+m=xH s l a->m < n1->wG x w->w.len<=2001 ->
   ∃ w',(∀ (A:Type) (K:Sl ai->Option A),sH E n0 n1 s l t (a:Int) (xW s (l.get a)) (k:Int) w K=nZ E n0 s l t ((a+1:Nat):Int) w' K)/\zW w'=(Xq (a:Int) m k).foldl (stC s l x f c) (zW w)/\wG x w':=by
  intro n0 a ha1 ha2 hva hus m
  induction m with
  | zero =>
   intro k n1 w hk hn1 hw hwl;obtain⟨n1,rfl⟩:∃ n',n1=n'+1:=⟨n1 - 1,by omega⟩;refine⟨w,λ A K=>?_,rfl,hw⟩;rw[Vm,decide_eq_false (by have:(xW s (l.get a)).len=xH s l a:=rfl;omega),cond_false,bT (by omega)]
  | succ m ih =>
   intro k n1 w hk hn1 hw hwl;obtain⟨n1,rfl⟩:∃ n',n1=n'+1:=⟨n1 - 1,by omega⟩;have hgl:(xW s (l.get a)).len=xH s l a:=rfl;have hg2:=DU s l a;by_cases hfull:2000 < w.len
   ·refine ⟨w, fun A K => ?_, (RJ _ _ _ (by rw [jq]; exact hfull)).symm, hw⟩;rw[Vm,decide_eq_true (by omega),cond_true,decide_eq_false (by omega),cond_false,bT (by omega)]
   ·have hp : ((a : Int), (k : Int)) ∈ DY s l x i := (NY hle.2).2 ⟨by simp only; omega, by simpa using hva, by simp only; omega, by simp only [Int.toNat_natCast]; omega⟩;have hv2:=hv.snoc hp hus;have hc2:gY (SL x t ((a:Int),(k:Int)))=c ++ [((a:Int),(k:Int))]:=by rw[X4 ht.2,hc]
    have ag:=U9 s l x (SL x t ((a:Int),(k:Int))) _ _ he (BC ht.2) hc2 hv2 (by simp);have st:∀ (A:Type) (K:Sl ai->Option A),sH E n0 (n1+1) s l t (a:Int) (xW s (l.get a)) (k:Int) w K=cond (wF s l (c ++ [((a:Int),(k:Int))])) ((E.Ja ((s,l,SL x t ((a:Int),(k:Int)),((a+1:Nat):Int)),mO w (SL x t ((a:Int),(k:Int))))).T λ r3=>sH E n0 n1 s l t (a:Int) (xW s (l.get a)) ((k+1:Nat):Int) r3 K) (sH E n0 n1 s l t (a:Int) (xW s (l.get a)) ((k+1:Nat):Int) w K):=λ A K=>by
     rw[Vm,decide_eq_true (by omega),cond_true,decide_eq_true (by omega),cond_true,zqu _ _ _ (by omega) (by rw[ht.2];omega),bn,ht.1,ag,bn,jl (by omega) (by omega),bT (by omega),bT (by omega)];rfl
    rw[Xq,List.foldl_cons];cases hag:wF s l (c ++ [((a:Int),(k:Int))]) with
    | false =>
     have e:stC s l x f c (zW w) ((a:Int),(k:Int))=zW w:=by
      show cond (vg l c (a:Int) || (_ || !wF s l (c ++ [((a:Int),(k:Int))]))) _ _=_;rw[hag,Bool.not_false,Bool.or_true,Bool.or_true];rfl
     rw[e];obtain⟨w',a1,a2,a3⟩:=ih (k+1) n1 w (by omega) (by omega) hw hwl;exact⟨w',λ A K=>by rw[st,hag];exact a1 A K,a2,a3⟩
    | true =>
     have e:stC s l x f c (zW w) ((a:Int),(k:Int))=NT (wF s l) (vg l) (DY s l x) f (zW w ++ [c ++ [((a:Int),(k:Int))]]) (c ++ [((a:Int),(k:Int))]) (a+1):=by
      show cond (vg l c (a:Int) || (decide (2000 < (zW w).length) || !wF s l (c ++ [((a:Int),(k:Int))]))) _ _=_;rw[hag,hus,jq,decide_eq_false hfull];rfl
     rw[e];obtain⟨w1,b1,b2,b3⟩:=hm s l x (SL x t ((a:Int),(k:Int))) _ (a+1) (mO w (SL x t ((a:Int),(k:Int)))) he hv2 hc2 (BC ht.2) (by omega) (RI hw (BC ht.2)) (by show w.len+1<=_;omega);rw[X3,hc2] at b2;have l1:w1.len<=2001:=by
      rw[<- jq,b2];exact Oe (by rw[OE,jq];simp only[Jz,SC];omega)
     obtain⟨w',a1,a2,a3⟩:=ih (k+1) n1 w1 (by omega) (by omega) b3 l1;rw[b2] at a2;exact⟨w',λ A K=>by rw[st,hag,cond_true,b1,bn];exact a1 A K,a2,a3⟩
 have zkI:∀ (ys:iH) (out:List iH),out.length<=2001->(ys.foldl (stC s l x f c) out).length<=2001:=by
  intro ys
  induction ys with
  | nil=>intro out h;exact h
  | cons p ys ih =>
   intro out h;rw[List.foldl_cons];refine ih _ ?_;show (cond (vg l c p.1 || (decide (2000 < out.length) || !wF s l (c ++ [p]))) out _).length<=_;cases hq:vg l c p.1 || (decide (2000 < out.length) || !wF s l (c ++ [p])) with
   | true=>exact h
   | false =>
    simp only[Bool.or_eq_false_iff,decide_eq_false_iff_not] at hq;exact Oe (by rw[OE];simp only[Jz,SC];omega)
 have key:∀ (d a n:Nat) (w:Sl ai),a+d=l.len->i<=a->d < n->wG x w->w.len<=2001->∃ w',(∀ (A:Type) (K:Sl ai->Option A),nZ E n s l t (a:Int) w K=K w')/\zW w'=(sdL s l x d a).foldl (stC s l x f c) (zW w)/\wG x w':=by
  intro d
  induction d with
  | zero =>
   intro a n w ha hi hn hw hwl;obtain⟨n,rfl⟩:∃ n',n=n'+1:=⟨n - 1,by omega⟩;exact⟨w,λ A K=>by rw[zeA,decide_eq_false (by omega)];rfl,rfl,hw⟩
  | succ d ih =>
   intro a n w ha hi hn hw hwl;obtain⟨n,rfl⟩:∃ n',n=n'+1:=⟨n - 1,by omega⟩;have hpl:=he.pl (i:=a) (by omega);rw[sdL,List.foldl_append];have us:E.c87 (l,t.Hits,(l.get a).af)=.ok (vg l c (a:Int)):=by
    rw[h87 l t.Hits _ (by omega) (BB hc hv)];refine congrArg ae.ok ?_;have:=zfH (l:=l) hc λ h=>(l.get h.toNat).af == (l.get a).af;unfold vg;rw[Int.toNat_natCast,<- this];rfl
   have st:∀ (A:Type) (K:Sl ai->Option A),nZ E (n+1) s l t (a:Int) w K=cond (OA s l a != x) (nZ E n s l t ((a+1:Nat):Int) w K) (cond (vg l c (a:Int)) (nZ E n s l t ((a+1:Nat):Int) w K) (sH E n E.N s l t (a:Int) (xW s (l.get a)) ((0:Nat):Int) w K)):=λ A K=>by
    rw[zeA,decide_eq_true (by omega),cond_true,bD (by omega),Int.toNat_natCast,bD hpl,us,bn,h75 s _ he.sh hpl,bn,bT (by omega),ht.1];rfl
   cases hv1:OA s l a == x with
   | false =>
    have e1:(OA s l a != x)=true:=by rw[bne,hv1];rfl
    rw[e1] at st;obtain⟨w',a1,a2,a3⟩:=ih (a+1) n w (by omega) (by omega) (by omega) hw hwl;exact⟨w',λ A K=>by rw[st];exact a1 A K,a2,a3⟩
   | true =>
    have e1:(OA s l a != x)=false:=by rw[bne,hv1];rfl
    rw[e1] at st;rw[cond_true];cases hu:vg l c (a:Int) with
    | true =>
     rw[hu] at st;obtain⟨w',a1,a2,a3⟩:=ih (a+1) n w (by omega) (by omega) (by omega) hw hwl;exact⟨w',λ A K=>by rw[st];exact a1 A K,by rw[zfI hu];exact a2,a3⟩
    | false =>
     rw[hu] at st;obtain⟨w1,b1,b2,b3⟩:=inn n a hi (by omega) (eq_of_beq hv1) hu (xH s l a) 0 E.N w (by omega) (by have:=DU s l a;omega) hw hwl;have l1:w1.len<=2001:=by
      rw[<- jq,b2];exact zkI _ _ (by rw[jq];exact hwl)
     obtain⟨w',a1,a2,a3⟩:=ih (a+1) n w1 (by omega) (by omega) (by omega) b3 l1;rw[b2] at a2;exact⟨w',λ A K=>by rw[st];exact (b1 A K).trans (a1 A K),a2,a3⟩
 obtain⟨w',a1,a2,a3⟩:=key (l.len - i) i E.N w (by omega) (iZ _) (by omega) hw hn;refine⟨w',ae.ext λ K=>by rw[e195,bn];exact a1 _ K,?_,a3⟩;rw[a2,NT];rfl
def RN (s:au) (l:Sl bz) (x:Int):List iH:=NT (wF s l) (vg l) (DY s l x) 30 [] [] 0
theorem X7 {s:au}{l:Sl bz}{x:Int}(h:(RN s l x).length<=2000):RN s l x=jE s l x:=by
 have:=(zfv (f:=30) (out:=[]) (c:=[]) (i:=0)).2 h;rw[List.nil_append] at this;exact this
abbrev zrM (C:au×Sl bz×Int->ae (Sl ai×Bool)):Prop:=∀ s l x,Ev s l x->∃ w,C (s,l,x)=.ok (w,decide ((RN s l x).length<=2000))/\zW w=RN s l x/\wG x w/\w.len<=2001
theorem zLy {E:ZI}(hm:QW 30 E.Ja):zrM (zjd E):=λ s l x he=>by
 have uf:=he.l24;obtain⟨w',a,b,d⟩:=hm s l x ⟨x,⟨0,λ _=>default⟩,⟨0,λ _=>default⟩⟩ [] 0 ⟨0,λ _=>⟨0,⟨0,λ _=>default⟩,⟨0,λ _=>default⟩⟩⟩ he (X6 s l x) rfl ⟨rfl,rfl⟩ (by omega) (λ i hi=>absurd hi (SE i)) (Nat.zero_le _);have hb:zW w'=RN s l x:=b;refine⟨w',ae.ext λ k=>?_,hb,d,?_⟩
 ·rw [e153];show (E.Ja ((_,_,_,((0:Nat):Int)),_)).T _=_;rw[a,bn,bn];have:decide ((w'.len:Int)<=2000)=decide ((RN s l x).length<=2000):=by rw[<- hb,jq];exact decide_eq_decide.2 (by omega)
  rw[this]
 ·rw[<- jq,hb];exact Oe (Nat.zero_le _)
abbrev zrN (C:Int->ae Bool):Prop:=∀ x,C x=.ok false
theorem zLz {E:zar} : zrN (zj6 E):=λ x=>ae.ext λ k=>by rw[e237,bn,show (x != x)=false by simp]
abbrev zrO (C:Int×Int->ae Bool):Prop:=∀ a b,C (a,b)=.ok (decide (a < b))
theorem zLA {E:zaq}(QQ:zkp E.I8):zrO (zj5 E):=λ a b=>ae.ext λ k=>by rw[zJQ,QQ,bn,bn];rfl
theorem zrP {a:Int}(h:0<=a/\a<=1000000):aO (CW .u64 (IntKind.u64.wrap (aO a)) 1)=a / 2:=by
 have e1:aO a=a:=bg (by omega) (by omega);have e2:IntKind.u64.wrap a=a:=by
  have hb:IntKind.u64.bits=64:=rfl;have hs:IntKind.u64.signed=false:=rfl;unfold IntKind.wrap;rw[hb,hs];simp only[Bool.false_and,Bool.false_eq_true,if_false];omega
 have e3:CW .u64 a 1=a / 2:=by
  show a.fdiv (2 ^ (min (1:Int).toNat 64))=_;rw[Int.fdiv_eq_ediv_of_nonneg _ (by decide)];rfl
 rw[e1,e2,e3,bg (by omega) (by omega)]
def hasB (w:Sl Int) (x:Int):Bool:=!dR (λ j=>!decide (w.get j=x)) w.len
theorem RP {w:Sl Int}{x:Int} : hasB w x=true↔∃ j,j < w.len/\w.get j=x:=by
 unfold hasB;rw[Bool.not_eq_true',<- Bool.not_eq_true,dC];constructor
 ·intro h;apply Classical.byContradiction;intro hc;exact h λ i hi=>by simpa using λ e=>hc ⟨i,hi,e⟩
 ·rintro ⟨j, hj, e⟩ h;have:=h j hj;simp[e] at this
def zkJ (w:Sl Int):Prop:=∀ i j,i < j->j < w.len->w.get i < w.get j
abbrev zrQ (C:Sl Int×Int->ae (Int×Bool)):Prop:=∀ w x,zkJ w->w.len<=1000->∃ r,C (w,x)=.ok (r,hasB w x)
theorem zLB {E:Vp}(N:Big E.N) (zqz:zrO E.c236) (zqA:zrN E.zgr):zrQ (zjP E):=λ w x hw hl=>by
 have key:∀ (d i j n:Nat),i+d=j->j<=w.len->d < n->(∀ p,p < i->w.get p < x)->(∀ p,j<=p->p < w.len->x<=w.get p)->∃ r,∀ (A:Type) (k:Int×Bool->Option A),ve E n w x (i:Int) (j:Int) k=k (r,hasB w x):=by
  intro d
  induction d using Nat.strongRecOn with
  | _ d ih =>
   intro i j n hd hj hn h1 h2;obtain⟨n,rfl⟩:∃ n',n=n'+1:=⟨n - 1,by omega⟩;by_cases h0:d=0
   ·have e : i = j := by omega
    subst e;have no:(i < w.len->w.get i ≠ x)->hasB w x=false:=λ hn=>by
     cases hb:hasB w x with
     | false=>rfl
     | true =>
      obtain⟨p,hp,e⟩:=RP.1 hb;rcases Nat.lt_trichotomy p i with q | q | q
      ·have:=h1 p q;omega
      ·subst q;exact absurd e (hn hp)
      ·have a := hw i p q hp;have:=h2 i (iZ _) (by omega);omega
    by_cases hi:i < w.len
    ·by_cases hx : w.get i = x
     ·refine ⟨(i : Int), fun A k => ?_⟩;rw[NE,decide_eq_false (by omega),cond_false,decide_eq_true (by omega),cond_true,bD (by omega),Int.toNat_natCast,show (w.get i == x)=true by simpa using hx,cond_true,RP.2 ⟨i,hi,hx⟩]
     ·refine ⟨(i : Int), fun A k => ?_⟩;rw[NE,decide_eq_false (by omega),cond_false,decide_eq_true (by omega),cond_true,bD (by omega),Int.toNat_natCast,show (w.get i == x)=false by simpa using hx,cond_false,bD (by omega),zqA,bn,no λ _=>hx];rfl
    ·refine ⟨(i : Int), fun A k => ?_⟩;rw[NE,decide_eq_false (by omega),cond_false,decide_eq_false (by omega),cond_false,no λ h=>absurd h hi]
   ·have em : aO (CW .u64 (IntKind.u64.wrap (aO ((i : Int) + (j : Int)))) 1) = (((i + j) / 2 : Nat) : Int) := by rw [zrP (by omega)]; omega
    generalize hm:(i+j) / 2=m at em;have m1:i<=m/\m < j:=by omega
    have st:∀ (A:Type) (k:Int×Bool->Option A),ve E (n+1) w x (i:Int) (j:Int) k=cond (decide (w.get m < x)) (ve E n w x ((m+1:Nat):Int) (j:Int) k) (ve E n w x (i:Int) (m:Int) k):=λ A k=>by
     rw[NE,em,decide_eq_true (by omega),cond_true,bD (by omega),Int.toNat_natCast,zqz,bn,bT (by omega)]
    by_cases c:w.get m < x
    ·obtain⟨r,hr⟩:=ih (j - (m+1)) (by omega) (m+1) j n (by omega) hj (by omega) (λ p hp=>by
      by_cases e:p=m
      ·rw[e];exact c
      ·have:=hw p m (by omega) (by omega);omega) h2
     exact⟨r,λ A k=>by rw[st,decide_eq_true c];exact hr A k⟩
    ·obtain⟨r,hr⟩:=ih (m - i) (by omega) i m n (by omega) (by omega) (by omega) h1 (λ p hp hp2=>by
      by_cases e:p=m
      ·rw[e];omega
      ·have:=hw m p (by omega) hp2;omega)
     exact⟨r,λ A k=>by rw[st,decide_eq_false c];exact hr A k⟩
 obtain⟨r,hr⟩:=key w.len 0 w.len E.N (by omega) (iZ _) (by have:=N;omega) (λ p hp=>absurd hp (SE p)) (λ p h1 h2=>by omega);exact⟨r,ae.ext λ k=>by rw[zJg,bn];exact hr _ k⟩
def Ib (p:af):Int:=cond (p.Kind == 2) (aO (p.aZ.tdiv 2)) 0
def zLC (p:af) (c:Nat):bZ:=⟨aO (aO (p.First+aO ((c:Int) * p.aZ)) - Ib p),aO (aO (aO (aO (p.First+aO ((c:Int) * p.aZ)) - Ib p)+p.aZ) - 1)⟩
def VF (p : af) : Nat → Nat → List (Int × bZ)
  | 0,_=>[]
  | m+1,c=>cond (hasB p.Dead (c:Int)) (VF p m (c+1)) (((c:Int),zLC p c) :: VF p m (c+1))
abbrev zrR (I:Pt placed->ae (List (Int×bZ))):Prop:=∀ q:Pt placed,Xo q.v.af->zkJ q.v.af.Dead->q.v.af.Dead.len<=1000->I q=.ok (VF q.v.af q.v.af.bM.toNat 0)
theorem zLD {E:QP}(N:Big E.N) (zqy:zrQ E.zlw):zrR (zqx E):=λ q hp hi hl=>by
 refine yY ?_ (λ _=>rfl) (λ _=>rfl);obtain⟨_,_,_,_,_,hst,_⟩:=hp;have key:∀ (m c n:Nat),c+m=q.v.af.bM.toNat->m < n->Bh E n q (Ib q.v.af) (c:Int)=some ((VF q.v.af m c).map dw.enc):=by
  intro m
  induction m with
  | zero =>
   intro c n hc hn;obtain⟨n,rfl⟩:∃ n',n=n'+1:=⟨n - 1,by omega⟩;rw[zeC,decide_eq_false (by omega)];rfl
  | succ m ih =>
   intro c n hc hn;obtain⟨n,rfl⟩:∃ n',n=n'+1:=⟨n - 1,by omega⟩;obtain⟨r,hr⟩:=zqy q.v.af.Dead (c:Int) hi hl;rw[zeC,decide_eq_true (by omega),cond_true,hr,bn,bT (by omega),ih (c+1) n (by omega) (by omega)];show cond (hasB q.v.af.Dead (c:Int)) _ _=_;simp only[VF];cases hasB q.v.af.Dead (c:Int) <;> rfl
 have h0:=key q.v.af.bM.toNat 0 E.N (by omega) (by have:=N;omega);rw[e204];unfold Ib at h0;revert h0;cases q.v.af.Kind == 2 <;> exact id
def nxt : List (Int × bZ) → Int → Int
  | [],n=>n
  | y :: r,n=>nxt r (cond (decide (y.2.Low<=n) && decide (n<=y.2.High)) (aO (y.2.High+1)) n)
def zfJ (x:bZ):Bool:=decide (-1000000<=x.Low/\x.Low<=x.High/\x.High<=1000000)
def RQ (p:af) (x:bZ):Bool:=decide (nxt (VF p p.bM.toNat 0) (aO (x.Low - p.bu.High)) > aO (x.High - p.bu.Low))
theorem zkK {p:af}(h:Zm p=true):zkJ p.Dead/\p.Dead.len<=100:=by
 simp only[Zm,fM,decide_eq_true_eq,dC] at h;obtain⟨⟨_,h1⟩,h2⟩:=h;refine⟨λ i j=>?_,h1⟩;have step:∀ j,j+1 < p.Dead.len->p.Dead.get j < p.Dead.get (j+1):=λ j hj=>by
  have:=h2 (j+1) hj;simp only[dB,fM,Bool.or_eq_true,decide_eq_true_eq,Nat.add_sub_cancel] at this;exact this.2.resolve_left (by omega)
 intro hij hj
 induction j with
 | zero=>omega
 | succ j ih =>
  have:=step j hj;by_cases e:i=j
  ·rw[e];exact this
  ·have:=ih (by omega) (by omega);omega
abbrev zrS (C:au×Int×bZ->ae (Bool×Bool×Int)):Prop:=∀ s (i:Nat) x,pV s->dU s=true->i < s.aj.len->∃ b,C (s,(i:Int),x)=.ok (cond (zfJ x) (RQ (s.aj.get i) x,b,0) (false,false,2))
theorem zLF {E:QD}(xG:QSe E.c160) (jD:yX E.fJ) (Qx:ziv E.c164) (zbu:zrR E.zbu):zrS (ziM E):=λ s i x hs hb hi=>by
 have hl:=qL hb;obtain⟨d1,d2⟩:=zkK (GI hb hi);have key:∀ (l:List (Int×bZ)) (lo hg nx:Int) (cn:Bool),∃ b,∀ (A:Type) (k:Bool×Bool×Int->Option A),pX E l s (i:Int) lo hg cn nx k=k (decide (nxt l nx > hg),b,0):=by
  intro l
  induction l with
  | nil=>intro lo hg nx cn;exact⟨cn,λ A k=>ziN ..⟩
  | cons y l ih =>
   intro lo hg nx cn;have st:∃ cn',∀ (A:Type) (k:Bool×Bool×Int->Option A),pX E (y :: l) s (i:Int) lo hg cn nx k=pX E l s (i:Int) lo hg cn' (cond (decide (y.2.Low<=nx) && decide (nx<=y.2.High)) (aO (y.2.High+1)) nx) k:=by
    have e2:∀ cn' (A:Type) (k:Bool×Bool×Int->Option A),GN E l s (i:Int) lo hg cn' nx y.2 k=pX E l s (i:Int) lo hg cn' (cond (decide (y.2.Low<=nx) && decide (nx<=y.2.High)) (aO (y.2.High+1)) nx) k:=λ cn' A k=>by
     rw[zpW];cases decide (y.2.Low<=nx) <;> cases decide (nx<=y.2.High) <;> rfl
    cases cn with
    | true=>exact⟨true,λ A k=>by rw[UO];exact e2 _ A k⟩
    | false =>
     cases hd:decide (aO (y.2.Low - (s.aj.get (i:Int).toNat).dD)<=hg) with
     | true=>exact⟨_,λ A k=>by rw[UO,hd];exact e2 _ A k⟩
     | false=>exact⟨false,λ A k=>by rw[UO,hd];exact e2 _ A k⟩
   obtain⟨cn',h⟩:=st;obtain⟨b,h2⟩:=ih lo hg (cond (decide (y.2.Low<=nx) && decide (nx<=y.2.High)) (aO (y.2.High+1)) nx) cn';exact⟨b,λ A k=>by rw[h,h2];rfl⟩
 obtain⟨b,hk⟩:=key (VF (s.aj.get i) (s.aj.get i).bM.toNat 0) (aO (x.Low - (s.aj.get i).bu.High)) (aO (x.High - (s.aj.get i).bu.Low)) (aO (x.Low - (s.aj.get i).bu.High)) false;refine⟨b,ae.ext λ k=>?_⟩;rw[e115,xG s hs,bn,hb,jD,bn,bn,Bf (by omega),show inB (i:Int) 0 ((s.aj.len:Int) - 1)=true from decide_eq_true (by omega),Qx _ _ (by omega),bn,bD (by omega),Int.toNat_natCast,zbu ⟨⟨s.aj.get i,(i:Int)⟩⟩ (vW hb hi) d1 (by show (s.aj.get i).Dead.len<=1000;omega),bn];show cond (!decide (-1000000<=x.Low/\x.Low<=x.High/\x.High<=1000000)) _ _=_;rw[show decide (-1000000<=x.Low/\x.Low<=x.High/\x.High<=1000000)=zfJ x from rfl];cases zfJ x with
 | false=>rfl
 | true=>exact hk _ k
/-! Fractions, rounded. -/
def FlK (f:aS):Prop:=(-100000000000000000<=f.Num/\f.Num<=100000000000000000)/\0 < f.cO/\f.cO<=100000000000000000
abbrev zkL (C:aS->ae Int):Prop:=∀ f,FlK f->C f=.ok (f.Num / f.cO)
theorem zmL {a b:Int}(h1 : -100000000000000000<=a/\a<=100000000000000000) (h2:0 < b) : -100000000000000000<=a / b/\a / b<=100000000000000000:=by
 refine⟨Int.le_ediv_of_mul_le h2 ?_,?_⟩
 ·have := Int.mul_le_mul_of_nonneg_left (show (1 : Int) ≤ b by omega) (show (0 : Int) ≤ 100000000000000000 by omega);omega
 ·rcases Int.lt_or_le a 0 with h | h
  ·have:=Int.ediv_neg_of_neg_of_pos h h2;omega
  ·have:=Int.ediv_le_self b h;omega
theorem zLG {E:Z7} : zkL (zjE E):=λ f h=>ae.ext λ k=>by
 obtain⟨h1,h2,h3⟩:=h;have q:=zmL h1 h2;rw[zIJ,bn];by_cases hn:f.Num < 0
 ·have e1:(-f.Num+f.cO - 1) / f.cO = -(f.Num / f.cO):=by
   have a:=Int.emod_add_mul_ediv f.Num f.cO;have b:=Int.emod_nonneg f.Num (show f.cO ≠ 0 by omega);have c:=Int.emod_lt_of_pos f.Num h2;refine ((Int.ediv_emod_unique (r:=f.cO - 1 - f.Num % f.cO) h2).2 ⟨?_,by omega,by omega⟩).1;rw[Int.mul_neg];omega
  rw[decide_eq_true hn,cond_true,bD (by omega),bg (x:=0 - f.Num) (by omega) (by omega),bg (x:=0 - f.Num+f.cO) (by omega) (by omega),bg (x:=0 - f.Num+f.cO - 1) (by omega) (by omega),Int.tdiv_eq_ediv_of_nonneg (by omega),show 0 - f.Num+f.cO - 1 = -f.Num+f.cO - 1 by omega,e1,bg (x:=-(f.Num / f.cO)) (by omega) (by omega),show 0 - -(f.Num / f.cO)=f.Num / f.cO by omega,bg (by omega) (by omega)]
 ·rw[decide_eq_false hn,cond_false,bD (by omega),Int.tdiv_eq_ediv_of_nonneg (by omega),bg (by omega) (by omega)]
abbrev zrU (C:aS->ae Int):Prop:=∀ f,FlK f->C f=.ok (-(-f.Num / f.cO))
theorem zLH {E:Z8}(U1:zkL E.Jy):zrU (zjF E):=λ f h=>ae.ext λ k=>by
 obtain⟨h1,h2,h3⟩:=h;have q:=zmL (a:=-f.Num) (by omega) h2;rw[zIN,bg (x:=0 - f.Num) (by omega) (by omega),show 0 - f.Num = -f.Num by omega,U1 ⟨-f.Num,f.cO⟩ ⟨by show _<=-f.Num/\-f.Num<=_;omega,h2,h3⟩,bn,bn];show k (aO (0 - -f.Num / f.cO))=_;rw[bg (by omega) (by omega),show 0 - -f.Num / f.cO = -(-f.Num / f.cO) by omega]
def ls {α:Type}(w:Sl α):List α:=(List.range w.len).map w.get
theorem qg {α:Type}(w:Sl α):(ls w).length=w.len:=by simp[ls]
theorem zfK {α:Type}{w:Sl α}{i:Nat}(h:i < w.len):(ls w)[i]? = some (w.get i):=by simp[ls,List.getElem?_range h]
theorem iY {α:Type}{w:Sl α}{x:α} : x∈ls w↔∃ i,i < w.len/\w.get i=x:=by simp[ls]
theorem zfL {α:Type} [bG α] [qi α] (w:Sl α) (x:α):ls (mO w x)=ls w ++ [x]:=by
 unfold ls;show (List.range (w.len+1)).map _=_;rw[List.range_succ,List.map_append];congr 1
 ·exact List.map_congr_left λ i hi=>by
   show jb w.len w.get (λ _=>x) i=_;rw[gX,if_neg (by have:=List.mem_range.1 hi;omega)]
 ·show [jb w.len w.get (fun _ => x) w.len] = _;rw[gX,if_pos (iZ _)]
theorem zrV {α:Type} [bG α] [qi α] (a b:Sl α):ls (⟨a.len+b.len,jb a.len a.get b.get⟩:Sl α)=ls a ++ ls b:=by
 unfold ls;show (List.range (a.len+b.len)).map (jb a.len a.get b.get)=_;rw[List.range_add,List.map_append,List.map_map];congr 1
 ·exact List.map_congr_left λ i hi=>by rw[gX,if_neg (by have:=List.mem_range.1 hi;omega)]
 ·exact List.map_congr_left λ i _=>by
   show jb a.len a.get b.get (a.len+i)=_;rw[gX,if_pos (by omega),Nat.add_sub_cancel_left]
theorem VG (w:Sl ai):zW w=(ls w).map gY:=by unfold zW ls;rw[List.map_map];rfl
theorem zkM {x:Int}{w:Sl ai} : wG x w↔∀ t∈ls w,OC x t:=by
 constructor
 ·intro h t ht;obtain⟨i,hi,rfl⟩:=iY.1 ht;exact h i hi
 ·intro h i hi;exact h _ (iY.2 ⟨i,hi,rfl⟩)
def Og {α : Type} [bG α] (z : Nat → α) (p : α → Bool) (w : Sl α) : Nat → Sl α
  | 0=>⟨0,z⟩
  | i+1=>cond (p (w.get i)) (mO (Og z p w i) (w.get i)) (Og z p w i)
theorem wo {α : Type} [bG α] (z : Nat → α) (p : α → Bool) (w : Sl α) : ∀ n, (Og z p w n).len ≤ n
  | 0=>iZ _
  | n+1=>by
    have:=wo z p w n;simp only[Og];cases p (w.get n) with
    | true=>show (Og z p w n).len+1<=n+1;omega
    | false=>show (Og z p w n).len<=n+1;omega
theorem Oh {α : Type} [bG α] [qi α] (z : Nat → α) (p : α → Bool) (w : Sl α) : ∀ n, ls (Og z p w n) = ((List.range n).map w.get).filter p
  | 0=>rfl
  | n+1=>by
    rw[List.range_succ,List.map_append,List.filter_append,<- Oh z p w n];simp only[Og,nD,List.map_nil];cases h:p (w.get n) with
    | true=>rw[cond_true,zfL];simp[h]
    | false=>rw[cond_false];simp[h]
def usP (l:Sl bz) (c:iH) (i:Nat):Bool:=c.any λ q=>(l.get q.1.toNat).af == (i:Int)
def atB (g : Sl aC) (p : af) : Bool := cond ((opn' g p).2 != 0) false (cond (decide ((D6 g p.Z).1.Num / (D6 g p.Z).1.cO < -1000000)) false (cond (decide (-(-(D6 g p.Z).2.Num / (D6 g p.Z).2.cO) > 1000000)) false
  (zfJ ⟨(D6 g p.Z).1.Num / (D6 g p.Z).1.cO,-(-(D6 g p.Z).2.Num / (D6 g p.Z).2.cO)⟩ && RQ p ⟨(D6 g p.Z).1.Num / (D6 g p.Z).1.cO,-(-(D6 g p.Z).2.Num / (D6 g p.Z).2.cO)⟩)))
where opn' (g:Sl aC) (p:af):set×Int:=DW g ((g.get 0).Z == p.Z)
def RU (s:au) (l:Sl bz) (x:Int) (c:iH) (i:Nat):Bool:=cond ((s.aj.get i).View != x) false (cond (usP l c i) false (atB (xX s l c) (s.aj.get i)))
def zrW (s:au) (l:Sl bz) (x:Int) (c:iH):List Int:=((List.range' 0 s.aj.len).filter (RU s l x c)).map Int.ofNat
theorem D8 {a b:Int}(h1 : -100000000000000000<=a) (h2:a<=100000000000000000) (hb:0 < b) (hb2:b<=100000000000000000):FlK (red a b):=by
 have r1:=zG (num:=a) hb;have r2:=Ho (num:=a) hb;have r3:=kw (num:=a) hb;exact⟨by omega,by omega,by omega⟩
theorem zrX {g:Sl aC}(G:dm g){z:Int}(hz:Ju z) (hc:fV g=false->0 < (kE g).length):FlK (D6 g z).1/\FlK (D6 g z).2:=by
 have hg:=G.2;unfold D6;cases hf:fV g with
 | true =>
  obtain⟨a,b⟩:=D7 G.1 (by omega) g.len (iZ _);exact⟨D8 (by omega) (by omega) (by omega) (by omega),D8 (by omega) (by omega) (by omega) (by omega)⟩
 | false =>
  obtain⟨⟨s,s1,s2⟩,_⟩:=zrg G z (hc hf);obtain⟨⟨t,t1,t2⟩,_⟩:=zrh G z (hc hf);have a:=VE (ug G s1) hz;have b:=VE (ug G t1) hz;rw[<- s2] at a;rw[<- t2] at b;exact⟨D8 (by omega) (by omega) (by omega) (by omega),D8 (by omega) (by omega) (by omega) (by omega)⟩
theorem zmM {p:af}(h:Xo p):Ju p.Z:=by
 obtain⟨_,_,hz,_⟩:=h;exact⟨by omega,by omega⟩
theorem zyP {g:Sl aC}(G:dm g){b:Bool}(h:(DW g b).2=0):iF g=true/\(fV g=false->0 < (kE g).length):=by
 unfold DW at h;rw[nz.2 G] at h;cases hs:iF g with
 | false=>rw[hs] at h;cases h
 | true =>
  refine⟨rfl,λ hf=>?_⟩;unfold iF at hs;rw[hf,cond_false,decide_eq_true_eq] at hs;omega
abbrev zrY (C:Pt aW×ai->ae (Sl Int)):Prop:=∀ s l r x t c j,Ev s l x->OC x t->gY t=c->Val s l x c j->c ≠ []->∃ w:Sl Int,C (iM s r l,t)=.ok w/\ls w=zrW s l x c
theorem zLJ {E:UX}(N:Big E.N) (UZ:ziB E.c105) (U0:zkG E.I7) (zp9:zry E.zgk) (U1:zkL E.Jy) (zqa:zrU E.zlt) (zqb:zrS E.zgl):zrY (zi3 E):=λ s l r x t c j he ht hc hv hn=>by
 have hl:=o5 hc hv;have uf:=he.l24;have G:=N7 he.toEvt he.l24 hv hn;have hp:=qL he.se;have key:∀ (m i n:Nat) (w:Sl Int),i+m=s.aj.len->m < n->w.len<=i->∃ w':Sl Int,(∀ (A:Type) (k:Sl Int->Option A),jZ E n (iM s r l) t (xX s l c) (i:Int) w k=k w')/\ls w'=ls w ++ ((List.range' i m).filter (RU s l x c)).map Int.ofNat:=by
  intro m
  induction m with
  | zero =>
   intro i n w hi hn hw;obtain⟨n,rfl⟩:∃ n',n=n'+1:=⟨n - 1,by omega⟩;exact⟨w,λ A k=>by rw[zd8,decide_eq_false (by show ¬ (i:Int) < (s.aj.len:Int);omega)];rfl,by simp⟩
  | succ m ih =>
   intro i n w hi hn hw;obtain⟨n,rfl⟩:∃ n',n=n'+1:=⟨n - 1,by omega⟩;have hpl:=vW he.se (i:=i) (by omega);have hz:=zmM hpl;rw[List.range'_succ];have st:∀ (A:Type) (k:Sl Int->Option A),jZ E (n+1) (iM s r l) t (xX s l c) (i:Int) w k=cond (RU s l x c i) (jZ E n (iM s r l) t (xX s l c) ((i+1:Nat):Int) (mO w (i:Int)) k) (jZ E n (iM s r l) t (xX s l c) ((i+1:Nat):Int) w k):=λ A k=>by
    have u:E.I7 (t.Hits,.inr ⟨(),⟨iM s r l⟩,⟨(i:Int)⟩⟩)=.ok (usP l c i):=by
     rw[U0 s l r t.Hits (.inr ⟨(),⟨iM s r l⟩,⟨(i:Int)⟩⟩) (BB hc hv) (by omega) rfl];exact congrArg ae.ok (zfH (l:=l) hc λ h=>(l.get h.toNat).af == (i:Int))
    rw[zd8,decide_eq_true (show (i:Int) < ((iM s r l).v.au.aj.len:Int) by show (i:Int) < (s.aj.len:Int);omega),cond_true,bD (show 0<=(i:Int)/\(i:Int) < ((iM s r l).v.au.aj.len:Int) by show _/\(i:Int) < (s.aj.len:Int);omega),Int.toNat_natCast,u,bn,bT (by omega),ht.1];show cond ((s.aj.get i).View != x) _ _=_;unfold RU;cases (s.aj.get i).View != x with
    | true=>rfl
    | false =>
     simp only[cond_false];cases usP l c i with
     | true=>rfl
     | false =>
      simp only[cond_false];show (E.zgk (xX s l c,(s.aj.get i).Z)).T _=_;rw[zp9 _ _ G hz,bn];unfold atB atB.opn';cases ho:(DW (xX s l c) (((xX s l c).get 0).Z == (s.aj.get i).Z)).2 != 0 with
      | true =>
       simp only[cond_true];show cond ((DW (xX s l c) (((xX s l c).get 0).Z == (s.aj.get i).Z)).2 != 0) _ _=_;rw[ho];rfl
      | false =>
       obtain⟨_,hco⟩:=zyP G (by simpa using ho);obtain⟨b1,b2⟩:=zrX G hz hco;simp only[cond_false];show (E.Jy (D6 (xX s l c) (s.aj.get i).Z).1).T _=_;rw[U1 _ b1,bn,zqa _ b2,bn];generalize (D6 (xX s l c) (s.aj.get i).Z).1.Num / (D6 (xX s l c) (s.aj.get i).Z).1.cO=fa;generalize -(-(D6 (xX s l c) (s.aj.get i).Z).2.Num / (D6 (xX s l c) (s.aj.get i).Z).2.cO)=fb;cases decide (fa < -1000000) with
       | true=>rfl
       | false =>
        cases decide (fb > 1000000) with
        | true=>rfl
        | false =>
         simp only[cond_false];obtain⟨b,hb⟩:=zqb s i ⟨fa,fb⟩ he.sh he.se (by omega);show (E.zgl (s,(i:Int),⟨fa,fb⟩)).T _=_;rw[hb,bn];cases zfJ ⟨fa,fb⟩ with
         | false=>rfl
         | true =>
          show cond (RQ (s.aj.get i) ⟨fa,fb⟩) (bf (room (w.len+1) 8) _) _=cond (true && RQ (s.aj.get i) ⟨fa,fb⟩) _ _;rw[jl (by omega) (by omega)];cases RQ (s.aj.get i) ⟨fa,fb⟩ <;> rfl
   cases hb:RU s l x c i with
   | true =>
    rw[hb] at st;obtain⟨w',a,b⟩:=ih (i+1) n (mO w (i:Int)) (by omega) (by omega) (by show w.len+1<=i+1;omega);exact⟨w',λ A k=>by rw[st];exact a A k,by rw[b,zfL];simp[hb]⟩
   | false =>
    rw[hb] at st;obtain⟨w',a,b⟩:=ih (i+1) n w (by omega) (by omega) (by omega);exact⟨w',λ A k=>by rw[st];exact a A k,by rw[b];simp[hb]⟩
 obtain⟨w',a,b⟩:=key s.aj.len 0 E.N ⟨0,λ _=>0⟩ (by omega) (by have:=N;omega) (iZ _);refine⟨w',ae.ext λ k=>?_,b⟩;rw[zG9,UZ s l r t he.toEvt (by omega) (DZ he.vw ht hc hv hn),bn,NZ hc,bn];exact a _ k
def oH (s:au) (l:Sl bz) (x:Int) (r:bP) (c:iH):Bool:=decide ((c.length:Int) >= r.vC) && decide (((zrW s l x c).length:Int)<=r.xU)
abbrev zrZ (C:Pt aW×ai->ae Bool):Prop:=∀ s l r x t c j,Ev s l x->OC x t->gY t=c->Val s l x c j->c ≠ []->C (iM s r l,t)=.ok (oH s l x r c)
theorem zLK {E:Zy}(zp5:zrY E.c141):zrZ (ziW E):=λ s l r x t c j he ht hc hv hn=>ae.ext λ k=>by
 obtain⟨w,h1,h2⟩:=zp5 s l r x t c j he ht hc hv hn;rw[e129,h1,bn,bn];unfold oH;rw[<- h2,qg,<- hc,mQ];show cond (decide ((t.Hits.len:Int) >= r.vC)) (k (decide ((w.len:Int)<=r.xU))) (k false)=_;cases decide ((t.Hits.len:Int) >= r.vC) <;> rfl
/-! Choices that contain others. -/
abbrev zr0 (C:Sl Int×Int->ae Int):Prop:=∀ (w:Sl Int) x,w.len<=1000->C (w,x)=.ok (fst (λ j=>x == w.get j) w.len 0)
theorem zLL {E:U8}(N:Big E.N):zr0 (zjc E):=λ w x hw=>ae.ext λ k=>by
 rw[e152,bn];refine CQ (L:=λ n i=>Nw E n w x i k) (p:=λ j=>x == w.get j) (m:=w.len) (k:=k) (by omega) (λ n i hi=>?_) (λ n=>?_) _ (by have:=N;omega)
 ·rw[zed,decide_eq_true (by omega),cond_true,bD (by omega),Int.toNat_natCast]
 ·rw[zed,decide_eq_false (by omega)];rfl
theorem zfM (p : Nat → Bool) : ∀ m i, 0 ≤ fst p m i → ∃ j : Nat, fst p m i = (j : Int) ∧ i ≤ j ∧ j < i + m ∧ p j = true
  | 0,i,h=>by simp[fst] at h
  | m+1,i,h=>by
    simp only[fst] at h ⊢;cases hp:p i with
    | true=>exact⟨i,rfl,iZ _,by omega,hp⟩
    | false =>
      rw[hp,cond_false] at h;obtain⟨j,a,b,c,d⟩:=zfM p m (i+1) h;exact⟨j,a,by omega,by omega,d⟩
structure One (t : ai) : Prop where
  le:t.Hits.len<=100
  sd:t.bC.len=t.Hits.len
  un:∀ i j,i < t.Hits.len->j < t.Hits.len->t.Hits.get i=t.Hits.get j->i=j
theorem mV {t:ai}{p:Int×Int} : p∈gY t↔∃ i,i < t.Hits.len/\t.Hits.get i=p.1/\t.bC.get i=p.2:=by
 unfold gY;simp only[vF,List.mem_range];constructor
 ·rintro⟨i,hi,rfl⟩;exact⟨i,hi,rfl,rfl⟩
 ·rintro⟨i,hi,h1,h2⟩;exact⟨i,hi,by rw[h1,h2]⟩
abbrev Q92 (C:ai×ai->ae Bool):Prop:=∀ a b,One a->One b->C (a,b)=.ok (qZ a b)
theorem s92 {E:E92}(N:Big E.N) (zpL:zr0 E.c152):Q92 (F92 E):=λ a b ha hb=>ae.ext λ k=>by
 have la:=ha.le;have lb:=hb.le;rw[e92,bn,loopA (L:=λ n i=>Xz E n a b i k) (p:=λ i=>(gY a).contains (b.Hits.get i,b.bC.get i)) (m:=b.Hits.len) (fin:=k (a.View == b.View)) (stop:=k false) (by omega) (λ n i hi=>?_) (λ n=>?_) _ (by have:=N;omega)]
 ·have e:qZ a b=(dR (λ i=>(gY a).contains (b.Hits.get i,b.bC.get i)) b.Hits.len && (a.View == b.View)):=by
   unfold qZ;congr 1
   ·rw [Bool.eq_iff_iff, dC, List.all_eq_true];constructor
    ·intro h i hi;exact h _ (mV.2 ⟨i,hi,rfl,rfl⟩)
    ·intro h p hp;obtain⟨i,hi,h1,h2⟩:=mV.1 hp;have:=h i hi;rw[h1,h2] at this;exact this
   ·rw[Bool.eq_iff_iff,beq_iff_eq,beq_iff_eq];exact eq_comm
  rw[e];cases dR (λ i=>(gY a).contains (b.Hits.get i,b.bC.get i)) b.Hits.len <;> rfl
 ·rw [zmA, decide_eq_true (by omega), cond_true, bD (by omega), Int.toNat_natCast, zpL _ _ (by omega), bn];by_cases h0:fst (λ j=>b.Hits.get i == a.Hits.get j) a.Hits.len 0 < 0
  ·have:(gY a).contains (b.Hits.get i,b.bC.get i)=false:=by
    cases hc:(gY a).contains (b.Hits.get i,b.bC.get i) with
    | false=>rfl
    | true =>
     obtain⟨j,hj,h1,_⟩:=mV.1 (List.contains_iff_mem.1 hc);have:=(XG (λ j=>b.Hits.get i == a.Hits.get j) a.Hits.len 0).2 ⟨j,Nat.zero_le _,by omega,by simp[h1]⟩;omega
   rw[decide_eq_true h0,this];rfl
  ·obtain ⟨j, e, _, hj, hp⟩ := zfM (fun j => b.Hits.get i == a.Hits.get j) a.Hits.len 0 (by omega);have sa:=ha.sd;have sb:=hb.sd;have hp:b.Hits.get i=a.Hits.get j:=eq_of_beq hp;rw[decide_eq_false h0,cond_false,e,bD (by omega),bD (by omega),Int.toNat_natCast];have:(gY a).contains (b.Hits.get i,b.bC.get i)=(a.bC.get j == b.bC.get i):=by
    rw[Bool.eq_iff_iff,List.contains_iff_mem,mV,beq_iff_eq];constructor
    ·rintro ⟨q, hq, h1, h2⟩;have:=ha.un q j hq (by omega) (h1.trans hp);rw[this] at h2;exact h2
    ·intro h;exact⟨j,by omega,hp.symm,h⟩
   rw[this,bne];cases a.bC.get j == b.bC.get i <;> rfl
 ·rw[zmA,decide_eq_false (by omega)];rfl
theorem zkN {s:au}{l:Sl bz}{x:Int}{t:ai}{c:iH}{j:Nat}(uf:l.len<=24) (ht:OC x t) (hc:gY t=c) (h:Val s l x c j):One t:=by
 have hl:=o5 hc h;have lc:c.length=t.Hits.len:=by rw[<- hc,mQ]
 refine⟨by omega,ht.2,λ a b ha hb e=>?_⟩;have pw:=List.pairwise_iff_getElem.1 h.pw;have ge:∀ i (hi:i < t.Hits.len),c[i]'(by omega)=(t.Hits.get i,t.bC.get i):=λ i hi=>by
  have:=vZ hc hi;rw[xY (by omega)] at this;exact Option.some.inj this
 rcases Nat.lt_trichotomy a b with q | q | q
 ·have := (pw a b (by omega) (by omega) q).1;rw[ge a ha,ge b hb] at this;simp only at this;omega
 ·exact q
 ·have := (pw b a (by omega) (by omega) q).1;rw[ge a ha,ge b hb] at this;simp only at this;omega
def SN (a b:ai):Bool:=decide ((a.Hits.len:Int) > (b.Hits.len:Int)) && qZ a b
abbrev zr1 (C:ai×Pt ai->ae Bool):Prop:=∀ a (b:Pt ai),One a->One b.v->C (a,b)=.ok (SN a b.v)
theorem zLN {E:ZB}(h92:Q92 E.c92):zr1 (ziZ E):=λ a b ha hb=>ae.ext λ k=>by
 rw[zGY,h92 _ _ ha hb,bn,bn];unfold SN;cases decide ((a.Hits.len:Int) > (b.v.Hits.len:Int)) <;> rfl
abbrev Q97 (C:Sl ai×dN 132 Unit (Pt ai)->ae Int):Prop:=∀ (w:Sl ai) (c:dN 132 Unit (Pt ai)),(∀ t∈ls w,One t)->w.len<=10000->One c.v.v->C (w,c)=.ok (fst (λ j=>SN (w.get j) c.v.v) w.len 0)
theorem s97 {E:E97}(N:Big E.N) (zpR:zr1 E.zli):Q97 (F97 E):=λ w c hw hl hc=>ae.ext λ k=>by
 rw[e97,bn];refine CQ (L:=λ n i=>XD E n w c i k) (p:=λ j=>SN (w.get j) c.v.v) (m:=w.len) (k:=k) (by omega) (λ n i hi=>?_) (λ n=>?_) _ (by have:=N;omega)
 ·rw[zmE,decide_eq_true (by omega),cond_true,bD (by omega),Int.toNat_natCast,zpR _ _ (hw _ (iY.2 ⟨i,hi,rfl⟩)) hc,bn]
 ·rw[zmE,decide_eq_false (by omega)];rfl
theorem zfN {α:Type}{w:Sl α}{p:α->Bool} : (!dR (λ j=>!p (w.get j)) w.len)=(ls w).any p:=by
 rw[Bool.eq_iff_iff,Bool.not_eq_true',<- Bool.not_eq_true,dC,List.any_eq_true];constructor
 ·intro h;apply Classical.byContradiction;intro hn;refine h λ j hj=>?_;cases e:p (w.get j) with
  | false=>rfl
  | true=>exact (hn ⟨_,iY.2 ⟨j,hj,rfl⟩,e⟩).elim
 ·rintro ⟨q, hq, e⟩ h;obtain⟨j,hj,rfl⟩:=iY.1 hq;have:=h j hj;rw[e] at this;cases this
abbrev zr2 (C:Sl ai×dN 132 Unit (Pt ai)->ae Bool):Prop:=∀ (w:Sl ai) (c:dN 132 Unit (Pt ai)),(∀ t∈ls w,One t)->w.len<=10000->One c.v.v->C (w,c)=.ok ((ls w).any λ x=>SN x c.v.v)
theorem zLP {E:ZA}(h97:Q97 E.c97):zr2 (ziY E):=λ w c hw hl hc=>ae.ext λ k=>by
 rw[zGU,h97 w c hw hl hc,bn,bn,sV (λ j=>SN (w.get j) c.v.v),zfN (p:=λ x=>SN x c.v.v)]
abbrev zr3 (C:ai×Pt (Pt found)->ae Bool):Prop:=∀ t (f:Pt (Pt found)),(∀ t∈ls f.v.v.fits,One t)->f.v.v.fits.len<=10000->One t->C (t,f)=.ok (!(ls f.v.v.fits).any λ x=>SN x t)
theorem zLQ {E:Zz}(zp6:zr2 E.c131):zr3 (ziX E):=λ t f hf hl ht=>ae.ext λ k=>by
 rw[zGQ,zp6 f.v.v.fits _ hf hl ht,bn,bn]
/-! Those that are as wanted. -/
abbrev RV:Nat->ai:=λ _=>⟨0,⟨0,λ _=>0⟩,⟨0,λ _=>0⟩⟩
abbrev zkO:=dN 129 (Pt aW) Unit ⊕ dN 130 Unit (Pt (Pt found))
def wH : zkO → ai → Bool
  | .inl c,t=>oH c.a.v.au c.a.v.hits t.View c.a.v.rules (gY t)
  | .inr c,t=>!(ls c.v.v.v.fits).any λ x=>SN x t
structure lq (s : au) (l : Sl bz) (t : ai) : Prop where
  ev:Ev s l t.View
  tv:OC t.View t
  vl:∃ j,Val s l t.View (gY t) j
  ne:gY t ≠ []
theorem lq.one {s:au}{l:Sl bz}{t:ai}(h:lq s l t):One t:=by
 obtain⟨j,hj⟩:=h.vl;exact zkN h.ev.l24 h.tv rfl hj
def okF : zkO → Sl ai → Prop
  | .inl c,w=>∃ s l r,c.a=iM s r l/\∀ t∈ls w,lq s l t
  | .inr c,w=>(∀ t∈ls w,One t)/\(∀ t∈ls c.v.v.v.fits,One t)/\c.v.v.v.fits.len<=10000
abbrev QFi {γ:Type}(i:γ->zkO) (C:Sl ai×γ->ae (Sl ai×Unit)):Prop:=∀ (w:Sl ai) (c:γ),okF (i c) w->w.len<=10000->C (w,c)=.ok (Og RV (wH (i c)) w w.len,())
abbrev zr5 (C:Sl ai×zkO->ae (Sl ai×Unit)):Prop:=QFi id C
theorem zfO {E:nS}(N:Big E.N) (zp3:zrZ E.zlh):QFi .inl (zi E):=λ w c ho hl=>ae.ext λ k=>by
 obtain⟨s,l,r,e,hc⟩:=ho;rw[zd4,bn];refine jW (X:=λ n i=>nT E n w c (i:Int) (Og RV (wH (.inl c)) w i) k) (m:=w.len) (λ n i hi=>?_) (λ n=>?_) _ (by have:=N;omega)
 ·have h := hc _ (iY.2 ⟨i, hi, rfl⟩);obtain⟨j,hj⟩:=h.vl;have:=wo RV (wH (.inl c)) w i;have e2:wH (.inl c) (w.get i)=oH s l (w.get i).View r (gY (w.get i)):=by show oH c.a.v.au c.a.v.hits (w.get i).View c.a.v.rules (gY (w.get i))=_;rw[e];rfl
  rw[GR,decide_eq_true (by omega),cond_true,bD (by omega),Int.toNat_natCast,e,zp3 s l r _ _ _ j h.ev h.tv rfl hj h.ne,bn,jl (by omega) (by omega),bT (by omega)];simp only[Og,e2];cases oH s l (w.get i).View r (gY (w.get i)) <;> rfl
 ·rw[GR,decide_eq_false (by omega)];rfl
theorem zfP {E:nU}(N:Big E.N) (zp4:zr3 E.c130):QFi .inr (zk E):=λ w c ho hl=>ae.ext λ k=>by
 obtain⟨h1,h2,h3⟩:=ho;rw[zd6,bn];refine jW (X:=λ n i=>nV E n w c (i:Int) (Og RV (wH (.inr c)) w i) k) (m:=w.len) (λ n i hi=>?_) (λ n=>?_) _ (by have:=N;omega)
 ·have := wo RV (wH (.inr c)) w i;have e2:wH (.inr c) (w.get i) = !(ls c.v.v.v.fits).any λ x=>SN x (w.get i):=rfl;rw[GU,decide_eq_true (by omega),cond_true,bD (by omega),Int.toNat_natCast,zp4 _ c.v h2 h3 (h1 _ (iY.2 ⟨i,hi,rfl⟩)),bn,jl (by omega) (by omega),bT (by omega)];simp only[Og,e2];cases !(ls c.v.v.v.fits).any λ x=>SN x (w.get i) <;> rfl
 ·rw[GU,decide_eq_false (by omega)];rfl
theorem zLR {f:Sl ai×dN 129 (Pt aW) Unit->ae (Sl ai×Unit)}{g:Sl ai×dN 130 Unit (Pt (Pt found))->ae (Sl ai×Unit)}(a:QFi .inl f) (b:QFi .inr g):zr5 (ae.two f g):=λ w c ho hl=>by
 rcases c with c | c
 ·exact a w c ho hl
 ·exact b w c ho hl
/-! The order. -/
abbrev zr6 (C:Int->ae Bool):Prop:=∀ x,C x=.ok false
theorem zLS {E:zai} : zr6 (zjU E):=λ x=>ae.ext λ k=>by rw[e222,bn,show (x != x)=false by simp]
theorem zLT {E:Z4}(zjB:zr6 E.c222):VA (zjA E):=λ a b=>ae.ext λ k=>by
 rw[zIB,zjB,bn,zjB,bn,bn];unfold mP;cases decide (a < b) <;> cases decide (a > b) <;> rfl
abbrev zaG (C:Sl Int×Sl Int->ae Int):Prop:=∀ a b:Sl Int,a.len<=1000->b.len<=1000->C (a,b)=.ok (cmpL (tq a) (tq b))
theorem zLU {E:Vj}(N:Big E.N) (Ve:VA E.c208):zaG (zjC E):=λ a b ha hb=>ae.ext λ k=>by
 have key:∀ (m i n:Nat),i+m=a.len->m < n->Nz E n a b (i:Int) k=k (cmpL ((List.range' i m).map a.get) ((List.range' i (b.len - i)).map b.get)):=by
  intro m
  induction m with
  | zero =>
   intro i n hi hn;obtain⟨n,rfl⟩:∃ n',n=n'+1:=⟨n - 1,by omega⟩;rw[zet,decide_eq_false (by omega),cond_false,kc k];congr 1;cases h:b.len - i with
   | zero=>rw[decide_eq_false (by omega)];rfl
   | succ q=>rw[decide_eq_true (by omega)];rfl
  | succ m ih =>
   intro i n hi hn;obtain⟨n,rfl⟩:∃ n',n=n'+1:=⟨n - 1,by omega⟩;rw[zet,decide_eq_true (by omega),cond_true,bD (by omega),List.range'_succ,nD];cases h:b.len - i with
   | zero=>rw[decide_eq_true (by omega)];rfl
   | succ q =>
    rw[decide_eq_false (by omega),cond_false,bD (by omega),Int.toNat_natCast,Ve,bn,bT (by omega),ih (i+1) n (by omega) (by omega),List.range'_succ,nD,kc k,show b.len - (i+1)=q by omega];rfl
 rw[e187,bn];have:=key a.len 0 E.N (by omega) (by have:=N;omega);unfold tq;rw[List.range_eq_range',List.range_eq_range'];exact this
theorem zLV (a b c:Int):Qr [a,b,c] 0=a/\Qr [a,b,c] 1=b/\Qr [a,b,c] 2=c:=by
 refine⟨?_,?_,?_⟩
 ·show (bG.dec (CV (shp 8) (bG.enc a) (bG.enc a))).1 = a;rw[jM (pz 8) (bG.sm _ _),qi.de]
 ·show (bG.dec (CV (shp 8) (bG.enc a) (bG.enc b))).1 = b;rw[jM (pz 8) (bG.sm _ _),qi.de]
 ·show (bG.dec (CV (shp 8) (bG.enc a) (bG.enc c))).1 = c;rw[jM (pz 8) (bG.sm _ _),qi.de]
abbrev zr7 (C:Sl Int->ae Int):Prop:=∀ a b c:Int,C ⟨3,Qr [a,b,c]⟩=.ok (cond (a != 0) a (cond (b != 0) b c))
theorem zLW {E:Vh}(N:Big E.N):zr7 (zjz E):=λ a b c=>ae.ext λ k=>by
 obtain⟨n,hn⟩:∃ n,E.N=n+1+1+1+1:=⟨E.N - 4,by have:=N;omega⟩;obtain⟨g0,g1,g2⟩:=zLV a b c;have st:∀ n (i:Nat),i < 3->Bg E (n+1) ⟨3,Qr [a,b,c]⟩ (i:Int) k=cond (Qr [a,b,c] i != 0) (k (Qr [a,b,c] i)) (Bg E n ⟨3,Qr [a,b,c]⟩ ((i+1:Nat):Int) k):=λ n i hi=>by
  rw[zes,decide_eq_true (show (i:Int) < ((3:Nat):Int) by omega),cond_true,bD (show 0<=(i:Int)/\(i:Int) < ((3:Nat):Int) by omega),bT (by omega)];rfl
 have en:∀ n,Bg E (n+1) ⟨3,Qr [a,b,c]⟩ ((3:Nat):Int) k=k 0:=λ n=>by
  rw[zes,decide_eq_false (show ¬ ((3:Nat):Int) < ((3:Nat):Int) by omega)];rfl
 rw[e185,bn,hn];refine (st _ 0 (by omega)).trans ?_;rw[st _ 1 (by omega),st _ 2 (by omega),en,g0,g1,g2];by_cases h:c=0
 ·subst h;cases a != 0 <;> cases b != 0 <;> rfl
 ·rw [show (c != 0) = true by simpa using h];cases a != 0 <;> cases b != 0 <;> rfl
abbrev zr8 (C:ai×ai->ae Int):Prop:=∀ a b:ai,One a->One b->C (a,b)=.ok (zky a b)
theorem zLX {E:ZC}(zp7:VA E.zlr) (zi1:zaG E.zgp) (zp8:zr7 E.zlq):zr8 (zi0 E):=λ a b ha hb=>ae.ext λ k=>by
 have a1:=ha.le;have a2:=ha.sd;have b1:=hb.le;have b2:=hb.sd;rw[zG3,zp7,bn,zi1 _ _ (by omega) (by omega),bn,zi1 _ _ (by omega) (by omega),bn,zp8,bn,bn];rfl
abbrev zr9 (C:Sl Bool×Bool->ae Int):Prop:=∀ (w:Sl Bool) x,w.len<=1000->C (w,x)=.ok (fst (λ j=>x == w.get j) w.len 0)
theorem zLY {E:Vf}(N:Big E.N):zr9 (zjt E):=λ w x hw=>ae.ext λ k=>by
 rw[zIj,bn];refine CQ (L:=λ n i=>Ny E n w x i k) (p:=λ j=>x == w.get j) (m:=w.len) (k:=k) (by omega) (λ n i hi=>?_) (λ n=>?_) _ (by have:=N;omega)
 ·rw[zei,decide_eq_true (by omega),cond_true,bD (by omega),Int.toNat_natCast]
 ·rw[zei,decide_eq_false (by omega)];rfl
abbrev zsa (C:Sl Bool×Bool->ae Bool):Prop:=∀ (w:Sl Bool) x,w.len<=1000->C (w,x)=.ok ((ls w).any λ b=>x == b)
theorem zLZ {E:Zw}(zp1:zr9 E.zlp):zsa (ziU E):=λ w x hw=>ae.ext λ k=>by
 rw[e126,zp1 w x hw,bn,bn,sV (λ j=>x == w.get j),zfN (p:=λ b=>x == b)]
structure RX (s : au) (r : bP) (l : Sl bz) (f : found) : Prop where
  ev:f.aW=iM s r l
  fx:∃ X Y:List ai,ls f.fits=X ++ Y/\(∀ t∈X,OC 1 t)/\(∀ t∈Y,OC 2 t)/\X.map gY=(jE s l 1).filter (oH s l 1 r)/\Y.map gY=(jE s l 2).filter (oH s l 2 r)
  tr:(ls f.l7).Perm ((ls f.fits).filter λ t=>!(ls f.fits).any λ x=>SN x t)
  st:(ls f.l7).Pairwise ltT
theorem Ic {s:au}{l:Sl bz}{x:Int}{c:iH}(h:c∈jE s l x):(∃ j,Ch (wF s l) (vg l) (DY s l x) c j)/\c ≠ []:=by
 refine⟨zmI .nil h,?_⟩;obtain⟨p,e,_,h⟩:=NU h;rw[h];simp
theorem BD (s:au) (l:Sl bz) (x:Int) (i:Nat):(DY s l x i).Nodup:=KQ s l x _ _
theorem xQ {P : Int → iH → Bool} {x : Int} : ∀ {L : List ai}, (∀ t ∈ L, t.View = x) → (L.filter fun t => P t.View (gY t)).map gY = (L.map gY).filter (P x)
  | [],_=>rfl
  | t :: L,h=>by
    have ih:=xQ (P:=P) (L:=L) λ u hu=>h u (jc _ hu);have e:=h t kz;rw[nD,List.filter_cons,List.filter_cons,e];by_cases hp:P x (gY t)=true
    · rw[if_pos hp,if_pos hp,nD,ih]
    · rw[if_neg hp,if_neg hp,ih]
def Df (a b:ai):Prop:=¬ (a.View=b.View/\gY a=gY b)
theorem zsb {a b:ai}(h:Df a b):Df b a:=λ k=>h ⟨k.1.symm,k.2.symm⟩
theorem zmN {X:List ai}(h:(X.map gY).Nodup):X.Pairwise Df:=by
 unfold List.Nodup at h;rw[List.pairwise_map] at h;exact h.imp λ hn k=>hn k.2
abbrev Q72 (C:au×bP×Sl bz×Sl Bool->ae (Int ⊕ (Pt found×Int))):Prop:=∀ s r l (w:Sl Bool),pV s->l.len<=40->qN s r l=0->(jE s l 1).length<=2000->(jE s l 2).length<=2000->w.len<=10->(∀ b∈ls w,b=true)->∃ f:Pt found,C (s,r,l,w)=.ok (.inr (f,0))/\RX s r l f.v
theorem s72 {E:E72}(h78:Q78 E.c78) (zpC:zsa E.zbp) (h127:zrK E.c127) (h128:zr5 E.Dn) (zL1:zr8 E.Sv):Q72 (F72 E):=λ s r l w hs hl h0 n1 n2 hw hb=>by
  obtain⟨he,_,uf⟩:=Nk hs h0;have ev1:Ev s l 1:={ toEvt:=he,l24:=uf,vw:=rfl };have ev2:Ev s l 2:={ toEvt:=he,l24:=uf,vw:=rfl };obtain⟨w1,a1,b1,c1⟩:=h127 s l r 1 ev1 n1;obtain⟨w2,a2,b2,c2⟩:=h127 s l r 2 ev2 n2;have ln1:w1.len<=2000:=by rw[<- jq,b1];exact n1
  have ln2:w2.len<=2000:=by rw[<- jq,b2];exact n2
  have cs:∀ {x:Int} {w:Sl ai},Ev s l x->zW w=jE s l x->wG x w->∀ t∈ls w,t.View=x/\lq s l t:=fun {x w} ev hb hc t ht=>by
    have hv:=zkM.1 hc t ht;have hm:gY t∈jE s l x:=by rw[<- hb,VG];exact List.mem_map_of_mem ht
    obtain⟨⟨j,hj⟩,hne⟩:=Ic hm;have e:=hv.1;subst e;exact⟨rfl,ev,hv,⟨j,Bv hj⟩,hne⟩
  have k1:=cs ev1 b1 c1;have k2:=cs ev2 b2 c2;have f1:=h128 w1 (.inl ⟨iM s r l,()⟩) ⟨s,l,r,rfl,λ t ht=>(k1 t ht).2⟩ (by omega);have f2:=h128 w2 (.inl ⟨iM s r l,()⟩) ⟨s,l,r,rfl,λ t ht=>(k2 t ht).2⟩ (by omega);have g1:ls (Og RV (wH (id (.inl ⟨iM s r l,()⟩))) w1 w1.len)=(ls w1).filter λ t=>oH s l t.View r (gY t):=Oh _ _ _ _;have g2:ls (Og RV (wH (id (.inl ⟨iM s r l,()⟩))) w2 w2.len)=(ls w2).filter λ t=>oH s l t.View r (gY t):=Oh _ _ _ _;have m1:=wo RV (wH (id (.inl ⟨iM s r l,()⟩))) w1 w1.len;have m2:=wo RV (wH (id (.inl ⟨iM s r l,()⟩))) w2 w2.len;generalize hu1:Og RV (wH (id (.inl ⟨iM s r l,()⟩))) w1 w1.len=u1 at f1 g1 m1;generalize hu2:Og RV (wH (id (.inl ⟨iM s r l,()⟩))) w2 w2.len=u2 at f2 g2 m2;have hX:(ls u1).map gY=(jE s l 1).filter (oH s l 1 r):=by
    rw[g1,xQ (P:=λ x c=>oH s l x r c) (x:=1) λ t ht=>(k1 t ht).1,<- b1,VG]
  have hY:(ls u2).map gY=(jE s l 2).filter (oH s l 2 r):=by
    rw[g2,xQ (P:=λ x c=>oH s l x r c) (x:=2) λ t ht=>(k2 t ht).1,<- b2,VG]
  have q1:∀ t∈ls u1,t.View=1/\lq s l t:=λ t ht=>by rw[g1] at ht;exact k1 t (List.mem_filter.1 ht).1
  have q2:∀ t∈ls u2,t.View=2/\lq s l t:=λ t ht=>by rw[g2] at ht;exact k2 t (List.mem_filter.1 ht).1
  let ft:Sl ai:=⟨u1.len+u2.len,jb u1.len u1.get u2.get⟩;have hf:ls ft=ls u1 ++ ls u2:=zrV u1 u2;have qf:∀ t∈ls ft,lq s l t:=λ t ht=>by
    rw[hf] at ht;rcases dL.1 ht with h | h
    · exact (q1 t h).2
    · exact (q2 t h).2
  have dff:(ls ft).Pairwise Df:=by
    rw[hf,List.pairwise_append];refine⟨zmN ?_,zmN ?_,λ a ha b hb=>λ k=>?_⟩
    · rw[hX];exact (zJ (BD s l 1) _ _ _).filter _
    · rw[hY];exact (zJ (BD s l 2) _ _ _).filter _
    · have:=(q1 a ha).1;have:=(q2 b hb).1;have:=k.1;omega
  let cl:dN 130 Unit (Pt (Pt found)):=⟨(),⟨⟨⟨iM s r l,ft,⟨0,RV⟩⟩⟩⟩⟩;have lf:ft.len<=4000:=by show u1.len+u2.len<=4000;omega
  have f3:=h128 ft (.inr cl) ⟨λ t ht=>(qf t ht).one,λ t ht=>(qf t ht).one,by show ft.len<=10000;omega⟩ (by omega);have g3:ls (Og RV (wH (id (.inr cl))) ft ft.len)=(ls ft).filter λ t=>!(ls ft).any λ x=>SN x t:=Oh _ _ _ _;have m3:=wo RV (wH (id (.inr cl))) ft ft.len;generalize hu3:Og RV (wH (id (.inr cl))) ft ft.len=u3 at f3 g3 m3;have q3:∀ t∈ls u3,lq s l t:=λ t ht=>by rw[g3] at ht;exact qf t (List.mem_filter.1 ht).1
  have df3:(ls u3).Pairwise Df:=by rw[g3];exact dff.sublist List.filter_sublist
  have in3:∀ i,i < u3.len->lq s l (u3.get i):=λ i hi=>q3 _ (iY.2 ⟨i,hi,rfl⟩);have ne3:∀ i j,i < u3.len->j < u3.len->i ≠ j->Df (u3.get i) (u3.get j):=λ i j hi hj hij=>by
    have P:=List.pairwise_iff_getElem.1 df3;have ge:∀ i (hi:i < u3.len),(ls u3)[i]'(by rw[qg];exact hi)=u3.get i:=λ i hi=>by
      have:=zfK hi;rw[xY (by rw[qg];exact hi)] at this;exact Option.some.inj this
    rcases Nat.lt_or_ge i j with h | h
    · have := P i j (by rw [qg]; exact hi) (by rw [qg]; exact hj) h;rwa[ge i hi,ge j hj] at this
    · have := P j i (by rw [qg]; exact hj) (by rw [qg]; exact hi) (by omega);rw[ge i hi,ge j hj] at this;exact zsb this
  obtain ⟨hp, p, p1, p2, p3⟩ := zmH (C := ae.un E.Sv) (caps := []) (ag := true) (w := u3) (cmp := zky) (R := ltT) (by omega)
    (λ i j hi hj=>by
      show (E.Sv (u3.get i,u3.get j)).T _=_;rw[zL1 _ _ (in3 i hi).one (in3 j hj).one];rfl)
    (λ i j hi hj=>zkz) (λ i hi=>XY _) (λ i j hi hj hij=>zkA λ h=>ne3 i j hi hj hij ⟨h.1,zri h.2.1 h.2.2 (in3 i hi).tv.2 (in3 j hj).tv.2⟩) (λ i j _ _ h=>zfy h)
    (λ i j k _ _ _ a b=>zfx a b)
  have pl:p.length=u3.len:=by rw[p1.length_eq,List.length_range]
  let tr:Sl ai:=⟨u3.len,soG (ae.un E.Sv) [] true u3⟩;have ht:ls tr=p.map u3.get:=by
    refine List.ext_getElem (by rw[qg,List.length_map,pl]) λ i h1 h2=>?_;have hi:i < u3.len:=by rw[qg] at h1;exact h1
    have:=zfK (w:=tr) (i:=i) hi;rw[xY h1] at this;rw[Option.some.inj this,List.getElem_map];exact p3 i (by omega)
  refine⟨⟨⟨iM s r l,ft,tr⟩⟩,ae.ext λ k=>?_,rfl,⟨ls u1,ls u2,hf,λ t h=>?_,λ t h=>?_,hX,hY⟩,?_,?_⟩
  · have no:((ls w).any λ b=>false == b)=false:=by
      rw[List.any_eq_false];intro b hb2;rw[hb b hb2];simp
    rw[e72,h78 s r l hs hl,bn];have eo:opn s r l=.inr (iM s r l,0):=by unfold opn;rw[h0];rfl
    rw[eo];show (E.zbp (w,false)).T _=_;rw[zpC w false (by omega),bn,no];show (E.c127 (iM s r l,1)).T _=_;rw[a1,bn];show (E.Dn (w1,.inl ⟨iM s r l,()⟩)).T _=_;rw[f1,bn];show bf (room u1.len 56) ((E.c127 (iM s r l,2)).T _)=_;rw[jl (by omega) (by omega),a2,bn];show (E.Dn (w2,.inl ⟨iM s r l,()⟩)).T _=_;rw[f2,bn];show bf (room (u1.len+u2.len) 56) ((E.Dn (ft,.inr cl)).T _)=_;rw[jl (by omega) (by omega),f3,bn];show Xv E (iM s r l) ft u3 k=_;rw[zxQ,hp];rfl
  · have:=q1 t h;exact⟨this.1,this.2.tv.2⟩
  · have:=q2 t h;exact⟨this.1,this.2.tv.2⟩
  · show (ls tr).Perm _;rw[ht];show (p.map u3.get).Perm ((ls ft).filter λ t=>!(ls ft).any λ x=>SN x t);rw[<- g3];exact p1.map _
  · show (ls tr).Pairwise ltT;rw[ht,List.pairwise_map];exact p2
abbrev Q20 (C:au×bP×Sl bz->ae (Sl ai×Int)):Prop:=∀ s r l,pV s->l.len<=40->qN s r l=0->(jE s l 1).length<=2000->(jE s l 2).length<=2000->∃ f:found,C (s,r,l)=.ok (f.l7,0)/\RX s r l f
theorem s20 {E:E20}(h72:Q72 E.c72):Q20 (F20 E):=λ s r l hs hl h0 n1 n2=>by
 obtain⟨f,h1,h2⟩:=h72 s r l ⟨0,λ _=>default⟩ hs hl h0 n1 n2 (Nat.zero_le _) (λ b hb=>by cases hb);exact⟨f.v,ae.ext λ k=>by rw[e20,h1,bn,bn];rfl,h2⟩
theorem zsc {s:straight}(S:wV s):(eQ s).Start.Num * s.den=s.start * (eQ s).Start.cO/\(eQ s).dM.Num * s.den=s.bK * (eQ s).dM.cO:=by
 have p:0 < s.den:=by have:=S.2.2;omega
 have key:∀ a,(red a s.den).Num * s.den=a * (red a s.den).cO:=λ a=>by
  have h1:=mM (num:=a) p;have h2:=lC (num:=a) p;generalize (Int.gcd a s.den:Int)=G at h1 h2;generalize (red a s.den).Num=x at *;generalize (red a s.den).cO=y at *;rw[<- h1,<- h2];ac_rfl
 exact⟨key _,key _⟩
abbrev Q76 (C:Line×Int->ae aS):Prop:=∀ s z,wV s->Ju z->C (eQ s,z)=.ok (red (iT s z) s.den)
theorem s76 {E:E76}(UK:Vw E.Om) (UJ:Hq E.OD):Q76 (F76 E):=λ s z S hz=>ae.ext λ k=>by
  obtain⟨h1,h2,h3,h4⟩:=XP S;obtain⟨x1,x2⟩:=zsc S;have pd:0 < s.den:=by have:=S.2.2;omega
  rw[e76,UK _ _ (by omega) (by omega) (by omega),bn,bn];have hr:=jo (num:=(eQ s).Start.cO) (den:=(eQ s).dM.cO) h3.1;obtain⟨a,ha⟩:=zyC (eQ s).Start.cO (eQ s).dM.cO;obtain⟨b,hb⟩:=zyD (eQ s).Start.cO (eQ s).dM.cO;generalize (Int.gcd (eQ s).Start.cO (eQ s).dM.cO:Int)=r at hr ha hb ⊢;generalize (eQ s).Start.cO=A at *;generalize (eQ s).dM.cO=B at *;generalize (eQ s).Start.Num=u at *;generalize (eQ s).dM.Num=v at *;have pa:0 < a:=by
    rcases Int.lt_or_le 0 a with h | h
    · exact h
    · have:=Int.mul_le_mul_of_nonneg_left h (Int.le_of_lt hr);rw[Int.mul_zero] at this;omega
  have pb:0 < b:=by
    rcases Int.lt_or_le 0 b with h | h
    · exact h
    · have:=Int.mul_le_mul_of_nonneg_left h (Int.le_of_lt hr);rw[Int.mul_zero] at this;omega
  have aA:a<=A:=by
    have:=Int.mul_le_mul_of_nonneg_right (show (1:Int)<=r by omega) (Int.le_of_lt pa);omega
  have bB:b<=B:=by
    have:=Int.mul_le_mul_of_nonneg_right (show (1:Int)<=r by omega) (Int.le_of_lt pb);omega
  have e1:A.tdiv r=a:=by rw[ha,Int.mul_tdiv_cancel_left _ (by omega)]
  have e2:(a * B).tdiv A=b:=by
    have:a * B=A * b:=by rw[ha,hb];ac_rfl
    rw[this,Int.mul_tdiv_cancel_left _ (by omega)]
  have e3:(a * B).tdiv B=a:=by rw[Int.mul_comm,Int.mul_tdiv_cancel_left _ (by omega)]
  have m0:=mJ (x:=a) (X:=100000) (by omega) (by omega) (Int.le_of_lt h3.1) h3.2;have m1:=mJ h2.1 h2.2 (y:=b) (Y:=100000) (by omega) (by omega);have m2:=mJ h1.1 h1.2 (y:=a) (Y:=100000) (by omega) (by omega);have m3 : -40000000000000000<=v * a * z/\v * a * z<=40000000000000000:=by
    have hz1:=hz.1;have hz2:=hz.2;rcases Int.lt_or_le z 0 with h | h
    · have := mJ (y := -z) (Y := 200000) m2.1 m2.2 (by omega) (by omega);rw[Int.mul_neg] at this;omega
    · have := mJ (y := z) (Y := 200000) m2.1 m2.2 h (by omega);omega
  have pos:0 < a * B:=Int.mul_pos pa h3.1
  rw[bg (x:=A.tdiv r) (by rw[e1];omega) (by rw[e1];omega),e1,bg (x:=a * B) (by omega) (by omega),bg (x:=(a * B).tdiv A) (by rw[e2];omega) (by rw[e2];omega),bg (x:=(a * B).tdiv B) (by rw[e3];omega) (by rw[e3];omega),e2,e3,
    bg (x:=u * b) (by omega) (by omega),bg (x:=v * a) (by omega) (by omega),bg (x:=v * a * z) (by omega) (by omega),bg (x:=u * b+v * a * z) (by omega) (by omega),bD (by omega),bD (by omega),bD (by omega),UJ _ _ (by omega) (by omega) pos (by omega),bn]
  congr 1;refine (Vu pos pd).2 ?_;unfold iT;have f1:u * b * s.den=s.start * (a * B):=by
    calc u * b * s.den = u * s.den * b := by ac_rfl
      _=s.start * A * b:=by rw[x1]
      _=s.start * (a * B):=by rw[ha,hb];ac_rfl
  have f2:v * a * z * s.den=s.bK * z * (a * B):=by
    calc v * a * z * s.den = v * s.den * (a * z) := by ac_rfl
      _=s.bK * B * (a * z):=by rw[x2]
      _=s.bK * z * (a * B):=by ac_rfl
  rw[Int.add_mul,Int.add_mul,f1,f2]
def PlQ (g:Sl aC) (z:Int) (f:aS):Prop:=∃ t∈cst g,f=red (iT t z) t.den
theorem PlQ.pos {g:Sl aC}(G:dm g){z:Int}{f:aS}(h:PlQ g z f):0 < f.cO:=by
 obtain⟨t,ht,rfl⟩:=h;exact kw (by have:=(pY G ht).2.2;omega)
abbrev zse (C:Sl aC×Int->ae (aS×aS)):Prop:=∀ g z,dm g->Ju z->iF g=true->∃ a b,C (g,z)=.ok (a,b)/\0 < a.cO/\0 < b.cO
theorem zL4 {E:QI}(N:Big E.N) (Dh:zfs E.zS) (U2:zks E.c193) (UJ:Hq E.OD) (U3:zkC E.c194) (h76:Q76 E.c76) (h56:Q56 E.c56):zse (zi9 E):=λ g z G hz hs=>by
 have hg:=G.2;cases hf:fV g with
 | true =>
  obtain⟨a,b⟩:=D7 G.1 (by omega) g.len (iZ _);refine⟨red (fF g g.len).Low 1,red (fF g g.len).High 1,ae.ext λ k=>?_,kw (by omega),kw (by omega)⟩;rw[zyb,Dh g (by omega) (by omega),bn,hf,cond_true,U2 g (by omega) (by omega),bn,bn];show (E.OD ((fF g g.len).Low,1)).T (λ r3=>(E.OD ((fF g g.len).High,1)).T λ r4=>k (r3,r4))=_;rw[UJ _ _ (by omega) (by omega) (by omega) (by omega),bn,UJ _ _ (by omega) (by omega) (by omega) (by omega),bn]
 | false =>
  obtain⟨L,l1,l2,l3,l4⟩:=U3 g G;have l0:0 < L.len:=l2.2 ((KT G hf).1 hs);have pc:∀ i,i < L.len->∃ f,PlQ g z f/\E.c76 (L.get i,z)=.ok f:=λ i hi=>by
   obtain⟨t,ht,e⟩:=l4 i hi;exact⟨_,⟨t,ht,rfl⟩,by rw[e];exact h76 t z (pY G ht) hz⟩
  have key:∀ (m i n:Nat) (x y:aS),i+m=L.len->m < n->PlQ g z x->PlQ g z y->∃ a b,(∀ (A:Type) (k:aS×aS->Option A),xK E n z L (i:Int) x y k=k (a,b))/\PlQ g z a/\PlQ g z b:=by
   intro m
   induction m with
   | zero =>
    intro i n x y hi hn hx hy;obtain⟨n,rfl⟩:∃ n',n=n'+1:=⟨n - 1,by omega⟩;exact⟨x,y,λ A k=>by rw[zec,decide_eq_false (by omega)];rfl,hx,hy⟩
   | succ m ih =>
    intro i n x y hi hn hx hy;obtain⟨n,rfl⟩:∃ n',n=n'+1:=⟨n - 1,by omega⟩;obtain⟨f,hf,ef⟩:=pc i (by omega);have st:∀ (A:Type) (k:aS×aS->Option A),xK E (n+1) z L (i:Int) x y k=xK E n z L ((i+1:Nat):Int) (cond (leB f x) f x) (cond (leB y f) f y) k:=λ A k=>by
     rw[zec,decide_eq_true (by omega),cond_true,bD (by omega),Int.toNat_natCast,ef,bn,h56,bn];cases leB f x <;> simp only[cond_true,cond_false] <;> rw[zqe,h56,bn,bT (by omega)] <;> cases leB y f <;> rfl
    obtain⟨a,b,h1,h2,h3⟩:=ih (i+1) n (cond (leB f x) f x) (cond (leB y f) f y) (by omega) (by omega) (by cases leB f x <;> assumption) (by cases leB y f <;> assumption);exact⟨a,b,λ A k=>by rw[st];exact h1 A k,h2,h3⟩
  obtain⟨f,hf0,ef⟩:=pc 0 l0;obtain⟨a,b,h1,h2,h3⟩:=key (L.len - 1) 1 E.N f f (by omega) (by have:=N;omega) hf0 hf0;refine⟨a,b,ae.ext λ k=>?_,h2.pos G,h3.pos G⟩;rw[zyb,Dh g (by omega) (by omega),bn,hf,cond_false,l1,bn,bD (by omega),ef,bn,bD (by omega),bn,bn];exact h1 _ k
abbrev zsf (C:aS->ae Int):Prop:=∀ f:aS,0 < f.cO->∃ n,C f=.ok n
theorem zL5 {E:ZH} : zsf (zjb E):=λ f h=>by
 exact⟨_,ae.ext λ k=>by rw[zHt,bD (by omega),kc k,bn]⟩
/-! What a plane sees. -/
def ru (p:af) (c:Int):bZ:=⟨aO (aO (p.First+aO (c * p.aZ)) - Ib p),aO (aO (aO (aO (p.First+aO (c * p.aZ)) - Ib p)+p.aZ) - 1)⟩
abbrev zsg (C:af×Int->ae (Int×Int)):Prop:=∀ p c,C (p,c)=.ok ((ru p c).Low,(ru p c).High)
theorem zL6 {E:ZE} : zsg (zi2 E):=λ p c=>ae.ext λ k=>by
 rw[zG7,bn];unfold ru Ib;cases p.Kind == 2 <;> rfl
def KW (p:af) (lo hi:Int) (c:Nat):Bool:=hasB p.Dead (c:Int) && (decide ((ru p (c:Int)).Low<=hi) && decide ((ru p (c:Int)).High >= lo))
def zfQ (p:af) (x:bZ):Bool:=(decide (aO (x.Low - p.bu.High) >= (ru p 0).Low) && decide (aO (x.High - p.bu.Low)<=(ru p (aO (p.bM - 1))).High)) && dR (λ c=>!KW p (aO (x.Low - p.bu.High)) (aO (x.High - p.bu.Low)) c) p.bM.toNat
abbrev Q77 (C:af×bZ->ae (Bool×Bool)):Prop:=∀ p x,Xo p->Few p->∃ b,C (p,x)=.ok (zfQ p x,b)
theorem s77 {E:E77}(N:Big E.N) (zdS:zsg E.zbq) (Uz:ziw E.Jw):Q77 (F77 E):=λ p x hp hf=>by
  obtain⟨_,_,_,_,_,hst,_⟩:=hp;have key:∀ (m c n:Nat) (lo hi:Int) (mu ca:Bool),c+m=p.bM.toNat->m < n->∃ b,∀ (A:Type) (k:Bool×Bool->Option A),jY E n p lo hi mu ca (c:Int) k=k (mu && (List.range' c m).all (λ c=>!KW p lo hi c),b):=by
    intro m
    induction m with
    | zero =>
      intro c n lo hi mu ca hc hn;obtain⟨n,rfl⟩:∃ n',n=n'+1:=⟨n - 1,by omega⟩;exact⟨ca,λ A k=>by rw[zmw,decide_eq_false (by omega)];simp⟩
    | succ m ih =>
      intro c n lo hi mu ca hc hn;obtain⟨n,rfl⟩:∃ n',n=n'+1:=⟨n - 1,by omega⟩;rw[List.range'_succ];have st:∃ ca',∀ (A:Type) (k:Bool×Bool->Option A),jY E (n+1) p lo hi mu ca (c:Int) k=jY E n p lo hi (mu && !KW p lo hi c) ca' ((c+1:Nat):Int) k:=by
        have hd:E.Jw (p,(c:Int))=.ok (hasB p.Dead (c:Int)):=Uz p _ hf
        have e0 : ∀ (A : Type) (k : Bool × Bool → Option A), jY E (n + 1) p lo hi mu ca (c : Int) k = cond (hasB p.Dead (c : Int)) (cond (decide ((ru p (c : Int)).Low ≤ hi)) (cond (decide ((ru p (c : Int)).High ≥ lo)) (jY E n p lo hi false ca ((c + 1 : Nat) : Int) k) (jY E n p lo hi mu ca ((c + 1 : Nat) : Int) k)) (jY E n p lo hi mu ca ((c + 1 : Nat) : Int) k))
            (jY E n p lo hi mu (cond (decide (aO ((ru p (c:Int)).Low - p.dD)<=hi)) (cond (decide (aO ((ru p (c:Int)).High+p.dD) >= lo)) true ca) ca) ((c+1:Nat):Int) k):=λ A k=>by
          rw[zmw,decide_eq_true (by omega),cond_true,zdS,bn,hd,bn,bT (by omega)];cases hasB p.Dead (c:Int) with
          | true=>rfl
          | false =>
            simp only[cond_false];cases decide (aO ((ru p (c:Int)).Low - p.dD)<=hi) with
            | false=>rfl
            | true =>
              simp only[cond_true];cases decide (aO ((ru p (c:Int)).High+p.dD) >= lo) <;> rfl
        cases h1:hasB p.Dead (c:Int) with
        | false =>
          rw[h1] at e0;exact⟨_,λ A k=>by rw[e0];simp only[KW,h1,Bool.false_and,Bool.not_false,Bool.and_true];rfl⟩
        | true =>
          rw[h1] at e0;refine⟨ca,λ A k=>?_⟩;rw[e0];simp only[KW,h1,Bool.true_and,cond_true];cases decide ((ru p (c:Int)).Low<=hi) <;> cases decide ((ru p (c:Int)).High >= lo) <;> simp
      obtain⟨ca',h⟩:=st;obtain⟨b,h2⟩:=ih (c+1) n lo hi (mu && !KW p lo hi c) ca' (by omega) (by omega);exact⟨b,λ A k=>by rw[h,h2,List.all_cons,Bool.and_assoc]⟩
  have al:∀ (q:Nat->Bool) n,(List.range' 0 n).all q=dR q n:=λ q n=>by
    rw[Bool.eq_iff_iff,dC,List.all_eq_true];exact⟨λ h i hi=>h i (by simp;omega),λ h i hi=>h i (by simp at hi;omega)⟩
  obtain⟨b,hb⟩:=key p.bM.toNat 0 E.N (aO (x.Low - p.bu.High)) (aO (x.High - p.bu.Low)) (decide (aO (x.Low - p.bu.High) >= (ru p 0).Low) && decide (aO (x.High - p.bu.Low)<=(ru p (aO (p.bM - 1))).High)) false (by omega) (by have:=N;omega);refine⟨b,ae.ext λ k=>?_⟩;rw[e77,zdS,bn,zdS,bn,bn];have hb:=hb _ k;rw[al] at hb;refine Eq.trans ?_ hb;show cond (decide (aO (x.Low - p.bu.High) >= (ru p 0).Low)) (jY E E.N p _ _ (decide (aO (x.High - p.bu.Low)<=(ru p (aO (p.bM - 1))).High)) false 0 k) (jY E E.N p _ _ false false 0 k)=_;cases decide (aO (x.Low - p.bu.High) >= (ru p 0).Low) <;> rfl
structure lZ (s : au) (l : Sl bz) (t : ai) : Prop extends lq s l t where
  ag:wF s l (gY t)=true
abbrev Q91 (C:au×Sl bz×ai->ae (Sl Int)):Prop:=∀ s l t,lZ s l t->∃ w:Sl Int,C (s,l,t)=.ok w
theorem s91 {E:E91}(N:Big E.N) (h65:Q65 E.c65) (h87:Q87 E.c87) (Dh:zfs E.zS) (zpJ:zse E.zlm) (ziG:zsf E.VM) (h86:yX E.c86) (h77:Q77 E.c77):Q91 (F91 E):=λ s l t ha=>by
 obtain⟨j,hv⟩:=ha.vl;have he:=ha.ev;have hl:=o5 rfl hv;have uf:=he.l24;have G:=N7 he.toEvt he.l24 hv ha.ne;have hG:=G.2;have hp:=qL he.se;have so:iF (xX s l (gY t))=true:=by
  have:=ha.ag;unfold wF at this;rw[fM] at this;exact this.2
 have key:∀ (m i n:Nat) (w:Sl Int),i+m=s.aj.len->m < n->w.len<=i->∃ w':Sl Int,∀ (A:Type) (k:Sl Int->Option A),tX E n s l t (xX s l (gY t)) (i:Int) w k=k w':=by
  intro m
  induction m with
  | zero =>
   intro i n w hi hn hw;obtain⟨n,rfl⟩:∃ n',n=n'+1:=⟨n - 1,by omega⟩;exact⟨w,λ A k=>by rw[zmz,decide_eq_false (by omega)];rfl⟩
  | succ m ih =>
   intro i n w hi hn hw;obtain⟨n,rfl⟩:∃ n',n=n'+1:=⟨n - 1,by omega⟩;have hpl:=vW he.se (i:=i) (by omega);have hz:=zmM hpl;obtain⟨wa,ya⟩:=ih (i+1) n (mO w (i:Int)) (by omega) (by omega) (by show w.len+1<=i+1;omega);obtain⟨wb,yb⟩:=ih (i+1) n w (by omega) (by omega) (by omega);obtain⟨a,b,e1,e2,e3⟩:=zpJ _ _ G hz so;obtain⟨x,ex⟩:=ziG a e2;obtain⟨y,ey⟩:=ziG ⟨aO (0 - b.Num),b.cO⟩ e3;obtain⟨c,ec⟩:=h77 (s.aj.get i) ⟨x,aO (0 - y)⟩ hpl (he.sh.2 i (by omega));have st:∀ (A:Type) (k:Sl Int->Option A),tX E (n+1) s l t (xX s l (gY t)) (i:Int) w k=cond ((s.aj.get i).View != t.View) (k wb) (cond (!usB l t.Hits t.Hits.len (i:Int)) (k wb) (cond (fV (xX s l (gY t))) (k wb) (cond (!inB x (-1000000) 1000000) (k wb) (cond (!inB (aO (0 - y)) (-1000000) 1000000) (k wb) (cond (zfQ (s.aj.get i) ⟨x,aO (0 - y)⟩) (k wa) (k wb)))))):=λ A k=>by
    rw[zmz,decide_eq_true (by omega),cond_true,bD (by omega),Int.toNat_natCast,bT (by omega),yb,h87 l t.Hits _ (by omega) (BB rfl hv),bn,Dh _ (by omega) (by omega),bn,bD (by omega),e1,bn];show cond _ _ (cond _ _ (cond _ _ ((E.VM a).T λ r4=>(E.VM ⟨aO (0 - b.Num),b.cO⟩).T _)))=_;rw[ex,bn,ey,bn,h86,bn,h86,bn,bD (by omega),ec,bn,jl (by omega) (by omega)];show cond _ _ (cond _ _ (cond _ _ (cond _ _ (cond _ _ (cond (zfQ (s.aj.get i) ⟨x,aO (0 - y)⟩) (tX E n s l t (xX s l (gY t)) ((i+1:Nat):Int) (mO w (i:Int)) k) _)))))=_;rw[ya]
   exact⟨_,λ A k=>by rw[st,kc k,kc k,kc k,kc k,kc k,kc k]⟩
 obtain⟨w',h⟩:=key s.aj.len 0 E.N ⟨0,λ _=>0⟩ (by omega) (by have:=N;omega) (iZ _);refine⟨w',ae.ext λ k=>?_⟩;rw[e91,h65 s l t he.toEvt (by omega) (DZ he.vw ha.tv rfl hv ha.ne),bn,NZ rfl,bn];exact h _ k
abbrev zsh (C:au×bP×Sl bz×ai->ae Bool):Prop:=∀ s r l t,lZ s l t->∃ b,C (s,r,l,t)=.ok b
theorem zL9 {E:ZJ}(U9:zkD E.c196) (h91:Q91 E.c91):zsh (zje E):=λ s r l t ha=>by
 obtain⟨j,hv⟩:=ha.vl;obtain⟨w,hw⟩:=h91 s l t ha;exact⟨_,ae.ext λ k=>by rw[e154,U9 s l _ t _ j ha.ev ha.tv rfl hv ha.ne,bn,ha.ag,cond_true,hw,bn,kc k,bn]⟩
/-! Choices that contain others: hits in their order. -/
structure zaH (t : ai) : Prop where
  le:t.Hits.len<=100
  sd:t.bC.len=t.Hits.len
  inc:zkJ t.Hits
theorem zkP {s:au}{l:Sl bz}{x:Int}{t:ai}{c:iH}{j:Nat}(uf:l.len<=24) (ht:OC x t) (hc:gY t=c) (h:Val s l x c j):zaH t:=by
 have hl:=o5 hc h;have lc:c.length=t.Hits.len:=by rw[<- hc,mQ]
 refine⟨by omega,ht.2,λ a b hab hb=>?_⟩;have pw:=List.pairwise_iff_getElem.1 h.pw;have ge:∀ i (hi:i < t.Hits.len),c[i]'(by omega)=(t.Hits.get i,t.bC.get i):=λ i hi=>by
  have:=vZ hc hi;rw[xY (by omega)] at this;exact Option.some.inj this
 have:=(pw a b (by omega) (by omega) hab).1;rw[ge a (by omega),ge b hb] at this;exact this
theorem lq.inc {s:au}{l:Sl bz}{t:ai}(h:lq s l t):zaH t:=by
 obtain⟨j,hj⟩:=h.vl;exact zkP h.ev.l24 h.tv rfl hj
abbrev Q53 (C:ai×ai->ae Bool):Prop:=∀ a b,zaH a->zaH b->C (a,b)=.ok (qZ a b)
theorem s53 {E:E53}(N:Big E.N):Q53 (F53 E):=λ a b ha hb=>ae.ext λ k=>by
 have la:=ha.le;have lb:=hb.le;have sa:=ha.sd;have sb:=hb.sd;have ia:=ha.inc;have ib:=hb.inc;have hN:=N;have key:∀ (m i n q:Nat),i+m=b.Hits.len->m < n->q<=a.Hits.len->(∀ p,p < q->i < b.Hits.len->a.Hits.get p < b.Hits.get i)->Xu E n a b (q:Int) (i:Int) k=k ((List.range' i m).all (λ i=>(gY a).contains (b.Hits.get i,b.bC.get i)) && (a.View == b.View)):=by
  intro m
  induction m with
  | zero =>
   intro i n q hi hn hq hlt;obtain⟨n,rfl⟩:∃ n',n=n'+1:=⟨n - 1,by omega⟩;rw[zms,decide_eq_false (by omega)];rfl
  | succ m ih =>
   intro i n q hi hn hq hlt;obtain⟨n,rfl⟩:∃ n',n=n'+1:=⟨n - 1,by omega⟩;have hib:i < b.Hits.len:=by omega
   rw[zms,decide_eq_true (by omega),cond_true,List.range'_succ,List.all_cons]
   -- the place where the hit can stand
   have adv:∀ (d q n1:Nat),q+d=a.Hits.len->d < n1->(∀ p,p < q->a.Hits.get p < b.Hits.get i)->∃ q',q'<=a.Hits.len/\(∀ p,p < q'->a.Hits.get p < b.Hits.get i)/\(q' < a.Hits.len->b.Hits.get i<=a.Hits.get q')/\KL E n n1 a b (q:Int) (i:Int) k=QB E n a b (q':Int) (i:Int) k:=by
    intro d
    induction d with
    | zero =>
     intro q n1 hq hn1 hlt;obtain⟨n1,rfl⟩:∃ n',n1=n'+1:=⟨n1 - 1,by omega⟩;exact⟨q,by omega,hlt,λ h=>by omega,by rw[zmt,decide_eq_false (by omega)];rfl⟩
    | succ d ih2 =>
     intro q n1 hq hn1 hlt;obtain⟨n1,rfl⟩:∃ n',n1=n'+1:=⟨n1 - 1,by omega⟩;have st:KL E n (n1+1) a b (q:Int) (i:Int) k=cond (decide (a.Hits.get q < b.Hits.get i)) (KL E n n1 a b ((q+1:Nat):Int) (i:Int) k) (QB E n a b (q:Int) (i:Int) k):=by
      rw[zmt,decide_eq_true (by omega),cond_true,bD (by omega),bD (by omega),Int.toNat_natCast,Int.toNat_natCast,bT (by omega)]
     by_cases h:a.Hits.get q < b.Hits.get i
     ·obtain⟨q',h1,h2,h3,h4⟩:=ih2 (q+1) n1 (by omega) (by omega) (λ p hp=>by
       by_cases e:p=q
       ·rw[e];exact h
       ·exact hlt p (by omega))
      exact⟨q',h1,h2,h3,by rw[st,decide_eq_true h];exact h4⟩
     ·exact⟨q,by omega,hlt,λ _=>by omega,by rw[st,decide_eq_false h];rfl⟩
   obtain⟨q',h1,h2,h3,h4⟩:=adv (a.Hits.len - q) q E.N (by omega) (by omega) (λ p hp=>hlt p hp hib);rw[h4];have only:∀ p,p < a.Hits.len->a.Hits.get p=b.Hits.get i->p=q':=λ p hp e=>by
    rcases Nat.lt_trichotomy p q' with h | h | h
    ·have:=h2 p h;omega
    ·exact h
    ·have := ia q' p h hp;have:=h3 (by omega);omega
   rw[zxO];by_cases c1:q'=a.Hits.len
   ·have:(gY a).contains (b.Hits.get i,b.bC.get i)=false:=by
     cases hc:(gY a).contains (b.Hits.get i,b.bC.get i) with
     | false=>rfl
     | true =>
      obtain⟨p,hp,e,_⟩:=mV.1 (List.contains_iff_mem.1 hc);have:=only p hp e;omega
    rw[show ((q':Int) == (a.Hits.len:Int))=true by rw[beq_iff_eq];omega,this];rfl
   ·rw [show ((q' : Int) == (a.Hits.len : Int)) = false by rw [dqU]; omega, cond_false, bD (by omega), bD (by omega), Int.toNat_natCast, Int.toNat_natCast];by_cases c2:a.Hits.get q'=b.Hits.get i
    ·have:(gY a).contains (b.Hits.get i,b.bC.get i)=(a.bC.get q' == b.bC.get i):=by
      rw[Bool.eq_iff_iff,List.contains_iff_mem,mV,beq_iff_eq];constructor
      ·rintro ⟨p, hp, e, e2⟩;rw[only p hp e] at e2;exact e2
      ·intro h;exact⟨q',by omega,c2,h⟩
     rw[show (a.Hits.get q' != b.Hits.get i)=false by simp[c2],cond_false,bD (by omega),bD (by omega),this,bT (by omega),bne];cases a.bC.get q' == b.bC.get i with
     | false=>rfl
     | true =>
      rw[Bool.true_and];refine ih (i+1) n q' (by omega) (by omega) h1 (λ p hp hi2=>?_);have:=h2 p hp;have:=ib i (i+1) (by omega) hi2;omega
    ·have:(gY a).contains (b.Hits.get i,b.bC.get i)=false:=by
      cases hc:(gY a).contains (b.Hits.get i,b.bC.get i) with
      | false=>rfl
      | true =>
       obtain⟨p,hp,e,_⟩:=mV.1 (List.contains_iff_mem.1 hc);rw[only p hp e] at e;exact absurd e c2
     rw[show (a.Hits.get q' != b.Hits.get i)=true by simpa using c2,this];rfl
 rw[e53,bn];refine (key b.Hits.len 0 E.N 0 (by omega) (by omega) (Nat.zero_le _) (λ p hp=>absurd hp (SE p))).trans ?_;congr 1;unfold qZ;congr 1
 ·rw [Bool.eq_iff_iff, List.all_eq_true, List.all_eq_true];constructor
  ·intro h p hp;obtain⟨i,hi,e1,e2⟩:=mV.1 hp;have:=h i (by simp;omega);rw[e1,e2] at this;exact this
  ·intro h i hi;exact h _ (mV.2 ⟨i,by simp at hi;omega,rfl,rfl⟩)
 ·rw[Bool.eq_iff_iff,beq_iff_eq,beq_iff_eq];exact eq_comm
theorem s38 {E:E38}(N:Big E.N):zaG (F38 E):=λ a b ha hb=>ae.ext λ k=>by
 have key:∀ (m i n:Nat),i+m=a.len->i<=b.len->m < n->Xr E n a b (i:Int) k=k (cmpL ((List.range' i m).map a.get) ((List.range' i (b.len - i)).map b.get)):=by
  intro m
  induction m with
  | zero =>
   intro i n hi hb hn;obtain⟨n,rfl⟩:∃ n',n=n'+1:=⟨n - 1,by omega⟩;rw[zmo,decide_eq_false (by omega),cond_false,zmp,zmq,decide_eq_false (show ¬ (a.len:Int) > (b.len:Int) by omega),cond_false,kc k];congr 1;cases h:b.len - i with
   | zero=>rw[decide_eq_false (by omega)];rfl
   | succ q=>rw[decide_eq_true (by omega)];rfl
  | succ m ih =>
   intro i n hi hb hn;obtain⟨n,rfl⟩:∃ n',n=n'+1:=⟨n - 1,by omega⟩;rw[zmo,decide_eq_true (by omega),cond_true,List.range'_succ,nD];cases h:b.len - i with
   | zero=>rw[decide_eq_false (by omega),cond_false,zmp,zmq,decide_eq_false (by omega),decide_eq_true (show (a.len:Int) > (b.len:Int) by omega)];rfl
   | succ q =>
    rw[decide_eq_true (by omega),cond_true,bD (by omega),bD (by omega),bD (by omega),bD (by omega),Int.toNat_natCast,bT (by omega),ih (i+1) n (by omega) (by omega) (by omega),List.range'_succ,nD,show b.len - (i+1)=q by omega];show _=k (cond (mP (a.get i) (b.get i) != 0) (mP (a.get i) (b.get i)) _);unfold mP;cases decide (a.get i < b.get i) <;> cases decide (a.get i > b.get i) <;> rfl
 rw[e38,bn];have:=key a.len 0 E.N (by omega) (Nat.zero_le _) (by have:=N;omega);unfold tq;rw[List.range_eq_range',List.range_eq_range'];exact this
abbrev zsi (C:ai×ai->ae Bool):Prop:=∀ a b,One a->One b->∃ r,C (a,b)=.ok r
theorem zMa {E:ZF}(h38:zaG E.c38):zsi (zi4 E):=λ a b ha hb=>by
 have a1:=ha.le;have a2:=ha.sd;have b1:=hb.le;have b2:=hb.sd;exact⟨_,ae.ext λ k=>by rw[zHd,h38 _ _ (by omega) (by omega),bn,h38 _ _ (by omega) (by omega),bn,kc k,kc k,bn]⟩
structure E17 where
  N:Nat
  c23:au×(Sl bz)×Int->ae (Bool)
  c26:au×bP×(Sl bz)->ae (Int)
  c28:au×bP×(Sl bz)->ae ((Sl ai)×Bool)
abbrev G17 (E:E17):aX:=dh (((Tabs.nil.addF 23 (ae.un E.c23)).addF 26 (ae.un E.c26)).addF 28 (ae.un E.c28)) []
def A17:bW:=aU ax 17 [] {}
def F17 (E:E17):au×bP×(Sl bz)×Int->ae ((Sl ai)×Bool):=ae.ty (aF ax E.N (G17 E) A17 17)
section
variable (E:E17){A:Type}(k:((Sl ai)×Bool)->Option A)
theorem e17 (a0:au) (a1:bP) (a2:(Sl bz)) (a3:Int):(F17 E (a0,a1,a2,a3)).T k =
  (E.c23 (a0,a2,a3)).T λ r1 =>
  cond (!r1)
  (k ((⟨0,λ _=>default⟩:(Sl ai)),false))
  (cond (decide ((a2.len:Int) > a3))
 (k ((⟨0,λ _=>default⟩:(Sl ai)),false))
 ((E.c26 (a0,a1,a2)).T λ r2 =>
 cond (r2 != 0)
 (k ((⟨0,λ _=>default⟩:(Sl ai)),false))
 ((E.c28 (a0,a1,a2)).T λ r3 =>
 k (r3.1,r3.2)))):=bH.trans (by kernel_rfl)
end
theorem o17 [aJ] (E:E17) (h23:Ok ax 23 (ae.un E.c23)) (h26:Ok ax 26 (ae.un E.c26)) (h28:Ok ax 28 (ae.un E.c28)):Ok ax 17 (ae.un (F17 E)):=aY (aP (((ay.nil.addF h23).addF h26).addF h28) (ak (by kernel_rfl)))
structure E46 where
  N:Nat
  c53:ai×ai->ae (Bool)
abbrev G46 (E:E46):aX:=dh (Tabs.nil.addF 53 (ae.un E.c53)) []
def A46:bW:=aU ax 46 [] {}
def F46 (E:E46):(Sl ai)×(Sl ai)->ae (Bool):=ae.ty (aF ax E.N (G46 E) A46 46)
section
variable (E:E46){A:Type}(k:Bool->Option A)
def RY (E:E46) (n:Nat) (a0:(Sl ai)) (a1:(Sl ai)) (v5:Int){A:Type}(k:Bool->Option A):Option A :=
  iG ax (G46 E) E.N A46 46 [1,0,1,0] [.n n] (iI k)
    ⟨[(0,eP a0),(1,eP a1),(5,.int v5)],[],[]⟩
def RZ (E:E46) (n0:Nat) (n:Nat) (a0:(Sl ai)) (a1:(Sl ai)) (v5:Int) (v6:Bool) (v7:Int){A:Type}(k:Bool->Option A):Option A :=
  iG ax (G46 E) E.N A46 46 [1,0,1,0,0,1,0,0,1,0,1,0] [.n n0,.n n] (iI k)
    ⟨[(0,eP a0),(1,eP a1),(5,.int v5),(6,.bool v6),(7,.int v7)],[],[]⟩
theorem e46 (a0:(Sl ai)) (a1:(Sl ai)):(F46 E (a0,a1)).T k =
  RY E E.N a0 a1 0 k:=bH.trans (by kernel_rfl)
theorem zmP (n0:Nat) (a0:(Sl ai)) (a1:(Sl ai)) (v5:Int):RY E (n0+1) a0 a1 v5 k =
  cond (decide (v5 < (a0.len:Int)))
  (RZ E n0 E.N a0 a1 v5 false 0 k)
  (k true):=by kernel_rfl
theorem zmQ (n0:Nat) (n1:Nat) (a0:(Sl ai)) (a1:(Sl ai)) (v5:Int) (v6:Bool) (v7:Int):RZ E n0 (n1+1) a0 a1 v5 v6 v7 k =
  cond (decide (v7 < (a1.len:Int)))
  (cond v6
 (RZ E n0 n1 a0 a1 v5 true (aO (v7+1)) k)
 (bf (decide (0<=v7/\v7 < (a1.len:Int))) (bf (decide (0<=v5/\v5 < (a0.len:Int))) ((E.c53 ((a1.get v7.toNat),(a0.get v5.toNat))).T λ r1 =>
 RZ E n0 n1 a0 a1 v5 r1 (aO (v7+1)) k))))
  (cond (!v6)
 (k false)
 (RY E n0 a0 a1 (aO (v5+1)) k)):=by kernel_rfl
end
theorem o46 [aJ] (E:E46) (h53:Ok ax 53 (ae.un E.c53)):Ok ax 46 (ae.un (F46 E)):=aY (aP (ay.nil.addF h53) (ak (by kernel_rfl)))
theorem zyQ {ag:iH->Bool}{us:iH->Int->Bool}{sd:Nat->iH}{c:iH}{j:Nat}(h:Ch ag us sd c j):c=[]\/ag c=true:=by
 cases h with
 | nil=>exact .inl rfl
 | snoc _ _ _ h=>exact .inr h
theorem zfR {ag : iH → Bool} {us : iH → Int → Bool} {sd : Nat → iH} : ∀ {f out c i}, (∀ x ∈ out, x ≠ []) → ∀ x ∈ NT ag us sd f out c i, x ≠ []
  | 0,out,c,i,h=>h
  | f+1,out,c,i,h=>by
    simp only[NT];generalize sd i=l
    induction l generalizing out with
    | nil=>exact h
    | cons p l ih =>
      rw[List.foldl_cons];refine ih _ ?_;cases us c p.1 || (decide (2000 < out.length) || !ag (c ++ [p])) with
      | true=>exact h
      | false =>
        refine zfR λ x hx=>?_;rcases dL.1 hx with hx | hx
        · exact h x hx
        · rw[jL.1 hx];simp
theorem Si {s:au}{l:Sl bz}{x:Int}(he:Ev s l x){t:ai}(ht:OC x t) (hc:gY t∈RN s l x):lZ s l t:=by
 have ne:=zfR (f:=30) (out:=[]) (λ x h=>by cases h) _ hc;rcases XR .nil hc with h | ⟨j,hj⟩
 ·cases h
 ·have e := ht.1;subst e;exact { ev:=he,tv:=ht,vl:=⟨j,Bv hj⟩,ne:=ne,ag:=(zyQ hj).resolve_left ne }
theorem zsj {P:ai->Prop}{w:Sl ai}{t:ai}(h:∀ t∈ls w,P t) (ht:P t):∀ u∈ls (mO w t),P u:=λ u hu=>by
 rw[zfL] at hu;rcases dL.1 hu with hu | hu
 ·exact h u hu
 ·rw[jL.1 hu];exact ht
def zQ (s:au) (l:Sl bz) (x:Int):Bool:=decide ((RN s l x).length<=2000)
abbrev Q94 (C:au×bP×Sl bz×Int->ae (Sl ai×Bool)):Prop:=∀ s r l x,Ev s l x->∃ w:Sl ai,C (s,r,l,x)=.ok (w,zQ s l x)/\w.len<=2001/\∀ t∈ls w,lZ s l t
theorem s94 {E:E94}(N:Big E.N) (zpO:zrM E.zln) (zpP:zsh E.c154):Q94 (F94 E):=λ s r l x he=>by
 obtain⟨v,h1,h2,h3,h4⟩:=zpO s l x he;have ha:∀ i,i < v.len->lZ s l (v.get i):=λ i hi=>Si he (h3 i hi) (by rw[<- h2];exact Ea (zkH hi));cases hb:zQ s l x with
 | false=>exact⟨⟨0,λ _=>default⟩,ae.ext λ k=>by rw[e94,h1,bn];show cond (!zQ s l x) _ _=_;rw[hb];rfl,Nat.zero_le _,λ t h=>by cases h⟩
 | true =>
  have key:∀ (m i n:Nat) (w:Sl ai),i+m=v.len->m < n->w.len<=i->(∀ t∈ls w,lZ s l t)->∃ w':Sl ai,(∀ (A:Type) (k:Sl ai×Bool->Option A),CJ E n s r l v (i:Int) w k=k (w',true))/\w'.len<=v.len/\∀ t∈ls w',lZ s l t:=by
   intro m
   induction m with
   | zero =>
    intro i n w hi hn hw hq;obtain⟨n,rfl⟩:∃ n',n=n'+1:=⟨n - 1,by omega⟩;exact⟨w,λ A k=>by rw[zmD,decide_eq_false (by omega)];rfl,by omega,hq⟩
   | succ m ih =>
    intro i n w hi hn hw hq;obtain⟨n,rfl⟩:∃ n',n=n'+1:=⟨n - 1,by omega⟩;obtain⟨b,eb⟩:=zpP s r l _ (ha i (by omega));have st:∀ (A:Type) (k:Sl ai×Bool->Option A),CJ E (n+1) s r l v (i:Int) w k=cond b (CJ E n s r l v ((i+1:Nat):Int) (mO w (v.get i)) k) (CJ E n s r l v ((i+1:Nat):Int) w k):=λ A k=>by
     rw[zmD,decide_eq_true (by omega),cond_true,bD (by omega),Int.toNat_natCast,eb,bn,bT (by omega),bD (by omega),jl (by omega) (by omega)];rfl
    cases b with
    | true =>
     obtain⟨w',a,c,d⟩:=ih (i+1) n (mO w (v.get i)) (by omega) (by omega) (by show w.len+1<=i+1;omega) (zsj hq (ha i (by omega)));exact⟨w',λ A k=>by rw[st];exact a A k,c,d⟩
    | false =>
     obtain⟨w',a,c,d⟩:=ih (i+1) n w (by omega) (by omega) (by omega) hq;exact⟨w',λ A k=>by rw[st];exact a A k,c,d⟩
  obtain⟨w',a,c,d⟩:=key v.len 0 E.N ⟨0,RV⟩ (by omega) (by have:=N;omega) (iZ _) (λ t h=>by cases h);refine⟨w',ae.ext λ k=>?_,by omega,d⟩;rw[e94,h1,bn];show cond (!zQ s l x) _ _=_;rw[hb];exact a _ k
abbrev Q88 (C:au×bP×Sl bz×Int->ae (Sl ai×Bool)):Prop:=∀ s r l x,Ev s l x->∃ w:Sl ai,C (s,r,l,x)=.ok (w,zQ s l x)/\w.len<=2001
theorem s88 {E:E88}(N:Big E.N) (h94:Q94 E.c94) (h53:Q53 E.c53) (zpF:zsi E.zlk):Q88 (F88 E):=λ s r l x he=>by
 have hN:=N;obtain⟨v,h1,h2,h3⟩:=h94 s r l x he;have ha:∀ i,i < v.len->lZ s l (v.get i):=λ i hi=>h3 _ (iY.2 ⟨i,hi,rfl⟩);cases hb:zQ s l x with
 | false=>exact⟨_,ae.ext λ k=>by rw[e88,h1,bn];show cond (!zQ s l x) _ _=_;rw[hb];rfl,Nat.zero_le _⟩
 | true =>
  have mo:∀ n0 (i:Nat),i < v.len->∀ (m j n1:Nat) (w:Sl ai) (f:Bool),j+m=v.len->m < n1->∃ B:Bool,∀ (A:Type) (k:Sl ai×Bool->Option A),CG E n0 n1 v (i:Int) f (j:Int) w k=cond B (wU E n0 v ((i+1:Nat):Int) w k) (GM E n0 E.N v w (i:Int) 0 k):=by
   intro n0 i hi m
   induction m with
   | zero =>
    intro j n1 w f hj hn;obtain⟨n1,rfl⟩:∃ n',n1=n'+1:=⟨n1 - 1,by omega⟩;exact⟨!f,λ A k=>by rw[Xx,decide_eq_false (by omega),cond_false,bT (by omega)]⟩
   | succ m ih =>
    intro j n1 w f hj hn;obtain⟨n1,rfl⟩:∃ n',n1=n'+1:=⟨n1 - 1,by omega⟩;have st:∃ f':Bool,∀ (A:Type) (k:Sl ai×Bool->Option A),CG E n0 (n1+1) v (i:Int) f (j:Int) w k=CG E n0 n1 v (i:Int) f' ((j+1:Nat):Int) w k:=by
     cases f with
     | false=>exact⟨false,λ A k=>by rw[Xx,decide_eq_true (by omega),bT (by omega)];rfl⟩
     | true =>
      by_cases e:i=j
      ·exact⟨true,λ A k=>by rw[Xx,decide_eq_true (by omega),bT (by omega),show ((i:Int) == (j:Int))=true by rw[beq_iff_eq];omega];rfl⟩
      ·exact⟨_,λ A k=>by
        rw[Xx,decide_eq_true (by omega),bT (by omega),show ((i:Int) == (j:Int))=false by rw[dqU];omega,cond_true,cond_true,cond_false,bD (by omega),bD (by omega),Int.toNat_natCast,Int.toNat_natCast,h53 _ _ (ha j (by omega)).inc (ha i hi).inc,bn]⟩
    obtain⟨f',h⟩:=st;obtain⟨B,h2⟩:=ih (j+1) n1 w f' (by omega) (by omega);exact⟨B,λ A k=>by rw[h,h2]⟩
  have pos:∀ n0 (i:Nat),i < v.len->∀ (w:Sl ai),(∀ t∈ls w,lZ s l t)->∀ (m j n1:Nat),j+m=w.len->w.len<=2001->m < n1->∃ a,a<=w.len/\∀ (A:Type) (k:Sl ai×Bool->Option A),GM E n0 n1 v w (i:Int) (j:Int) k=KN E n0 v w (i:Int) (a:Int) k:=by
   intro n0 i hi w hw m
   induction m with
   | zero =>
    intro j n1 hj hl hn;obtain⟨n1,rfl⟩:∃ n',n1=n'+1:=⟨n1 - 1,by omega⟩;exact⟨j,by omega,λ A k=>by rw[zmy,decide_eq_false (by omega)];rfl⟩
   | succ m ih =>
    intro j n1 hj hl hn;obtain⟨n1,rfl⟩:∃ n',n1=n'+1:=⟨n1 - 1,by omega⟩;obtain⟨b,eb⟩:=zpF (w.get j) (v.get i) (hw _ (iY.2 ⟨j,by omega,rfl⟩)).one (ha i hi).one;have st:∀ (A:Type) (k:Sl ai×Bool->Option A),GM E n0 (n1+1) v w (i:Int) (j:Int) k=cond b (GM E n0 n1 v w (i:Int) ((j+1:Nat):Int) k) (KN E n0 v w (i:Int) (j:Int) k):=λ A k=>by
     rw[zmy,decide_eq_true (by omega),cond_true,bD (by omega),bD (by omega),Int.toNat_natCast,Int.toNat_natCast,eb,bn,bT (by omega)]
    cases b with
    | true =>
     obtain⟨a,a1,a2⟩:=ih (j+1) n1 (by omega) hl (by omega);exact⟨a,a1,λ A k=>by rw[st];exact a2 A k⟩
    | false=>exact⟨j,by omega,λ A k=>by rw[st];rfl⟩
  have key:∀ (m i n:Nat) (w:Sl ai),i+m=v.len->m < n->w.len<=i->(∀ t∈ls w,lZ s l t)->∃ w':Sl ai,(∀ (A:Type) (k:Sl ai×Bool->Option A),wU E n v (i:Int) w k=k (w',true))/\w'.len<=v.len:=by
   intro m
   induction m with
   | zero =>
    intro i n w hi hn hw hq;obtain⟨n,rfl⟩:∃ n',n=n'+1:=⟨n - 1,by omega⟩;exact⟨w,λ A k=>by rw[zmx,decide_eq_false (by omega)];rfl,by omega⟩
   | succ m ih =>
    intro i n w hi hn hw hq;obtain⟨n,rfl⟩:∃ n',n=n'+1:=⟨n - 1,by omega⟩;have hi':i < v.len:=by omega
    obtain⟨B,hB⟩:=mo n i hi' v.len 0 E.N w true (by omega) (by omega);obtain⟨a,a1,a2⟩:=pos n i hi' w hq w.len 0 E.N (by omega) (by omega) (by omega);have ins:∃ w':Sl ai,(∀ (A:Type) (k:Sl ai×Bool->Option A),KN E n v w (i:Int) (a:Int) k=wU E n v ((i+1:Nat):Int) w' k)/\w'.len=w.len+1/\∀ t∈ls w',lZ s l t:=by
     refine⟨_,λ A k=>by
      rw[zxT,bD (by omega),jl (by omega) (by omega),bD (by omega),jl (by omega) (by omega),bD (by omega),jl (by omega) (by omega),bT (by omega)],?_,?_⟩
     ·show ((((a:Int) - 0).toNat+1)+((w.len:Int) - (a:Int)).toNat)=_;omega
     ·intro t ht;obtain⟨q,hq',rfl⟩:=iY.1 ht;have hq':q < ((((a:Int) - 0).toNat+1)+((w.len:Int) - (a:Int)).toNat):=hq';show lZ s l (jb (((a:Int) - 0).toNat+1) (jb ((a:Int) - 0).toNat (Jn w.get 0) (λ _=>v.get (i:Int).toNat)) (Jn w.get (a:Int).toNat) q);rw[gX];split
      ·exact hq _ (iY.2 ⟨q - (((a:Int) - 0).toNat+1)+(a:Int).toNat,by omega,rfl⟩)
      ·rw [gX];split
       ·rw[Int.toNat_natCast];exact ha i hi'
       ·exact hq _ (iY.2 ⟨q+0,by omega,rfl⟩)
    obtain⟨w1,i1,i2,i3⟩:=ins;have st:∀ (A:Type) (k:Sl ai×Bool->Option A),wU E (n+1) v (i:Int) w k=cond B (wU E n v ((i+1:Nat):Int) w k) (wU E n v ((i+1:Nat):Int) w1 k):=λ A k=>by
     rw[zmx,decide_eq_true (by omega),cond_true];have h0:=hB A k;have h1:=a2 A k;rw[show ((0:Nat):Int)=0 from rfl] at h0 h1;rw[h0,h1,i1]
    cases B with
    | true =>
     obtain⟨w',x1,x2⟩:=ih (i+1) n w (by omega) (by omega) (by omega) hq;exact⟨w',λ A k=>by rw[st];exact x1 A k,x2⟩
    | false =>
     obtain⟨w',x1,x2⟩:=ih (i+1) n w1 (by omega) (by omega) (by omega) i3;exact⟨w',λ A k=>by rw[st];exact x1 A k,x2⟩
  obtain⟨w',a,c⟩:=key v.len 0 E.N ⟨0,RV⟩ (by omega) (by omega) (iZ _) (λ t h=>by cases h);refine⟨w',ae.ext λ k=>?_,by omega⟩;rw[e88,h1,bn];show cond (!zQ s l x) _ _=_;rw[hb];exact a _ k
abbrev Q28 (C:au×bP×Sl bz->ae (Sl ai×Bool)):Prop:=∀ s r l,Ev s l 1->Ev s l 2->∃ w:Sl ai,C (s,r,l)=.ok (w,zQ s l 1 && zQ s l 2)
theorem s28 {E:E28}(h88:Q88 E.v88):Q28 (F28 E):=λ s r l h1 h2=>by
 obtain⟨a,a1,a2⟩:=h88 s r l 1 h1;obtain⟨b,b1,b2⟩:=h88 s r l 2 h2;refine⟨⟨a.len+b.len,jb a.len a.get b.get⟩,ae.ext λ k=>?_⟩;rw[e28,a1,bn,b1,bn,jl (show a.len+b.len<=1000000 by omega) (by omega)];show cond (zQ s l 1) _ _=_;cases zQ s l 1 <;> rfl
structure Fair (s : au) (r : bP) (l : Sl bz) (m : Int) : Prop where
  sh:pV s
  le:l.len<=40
  lm:(l.len:Int)<=m
  rf:qN s r l=0
  n1:(jE s l 1).length<=2000
  n2:(jE s l 2).length<=2000
abbrev Q17 (C:au×bP×Sl bz×Int->ae (Sl ai×Bool)):Prop:=∀ s r l m,∃ w b,C (s,r,l,m)=.ok (w,b)/\(b=true->Fair s r l m)
theorem s17 {E:E17}(h23:Q23 E.c23) (h26:Q26 E.c26) (h28:Q28 E.c28):Q17 (F17 E):=λ s r l m=>by
 cases hsh:Zq s l m with
 | false=>exact⟨⟨0,λ _=>default⟩,false,ae.ext λ k=>by rw[e17,h23,bn,hsh];rfl,λ h=>by cases h⟩
 | true =>
  obtain⟨hs,hl,_⟩:=zpv hsh;by_cases hm:(l.len:Int) > m
  ·exact⟨⟨0,λ _=>default⟩,false,ae.ext λ k=>by rw[e17,h23,bn,hsh,decide_eq_true hm];rfl,λ h=>by cases h⟩
  ·by_cases h0 : qN s r l = 0
   ·obtain ⟨he, _, uf⟩ := Nk hs h0;obtain⟨w,hw⟩:=h28 s r l { toEvt:=he,l24:=uf,vw:=rfl } { toEvt:=he,l24:=uf,vw:=rfl };refine⟨w,zQ s l 1 && zQ s l 2,ae.ext λ k=>by rw[e17,h23,bn,hsh,decide_eq_false hm,h26 s r l hs hl,bn,h0];show (E.c28 (s,r,l)).T _=_;rw[hw,bn],λ h=>?_⟩;rw[fM] at h;have a:=of_decide_eq_true h.1;have b:=of_decide_eq_true h.2;refine⟨hs,hl,by omega,h0,?_,?_⟩
    ·rw[<- X7 a];exact a
    ·rw[<- X7 b];exact b
   ·exact⟨⟨0,λ _=>default⟩,false,ae.ext λ k=>by rw[e17,h23,bn,hsh,decide_eq_false hm,h26 s r l hs hl,bn,show (qN s r l != 0)=true by simpa using h0];rfl,λ h=>by cases h⟩
end Go.Proofs

namespace Go.Proofs
open Go Go.Pm
set_option maxRecDepth 100000
theorem allL {α:Type}{w:Sl α}{p:α->Bool} : dR (λ i=>p (w.get i)) w.len=(ls w).all p:=by
 rw[Bool.eq_iff_iff,dC,List.all_eq_true];constructor
 ·intro h t ht;obtain⟨i,hi,rfl⟩:=iY.1 ht;exact h i hi
 ·intro h i hi;exact h _ (iY.2 ⟨i,hi,rfl⟩)
abbrev Q46 (C:Sl ai×Sl ai->ae Bool):Prop:=∀ a b:Sl ai,a.len<=10000->b.len<=10000->(∀ t∈ls a,zaH t)->(∀ t∈ls b,zaH t)->C (a,b)=.ok ((ls a).all λ t=>(ls b).any λ x=>qZ x t)
theorem s46 {E:E46}(N:Big E.N) (h53:Q53 E.c53):Q46 (F46 E):=λ a b la lb ha hb=>ae.ext λ k=>by
 have hN:=N;have inn:∀ n0 (i:Nat),i < a.len->∀ (m j n1:Nat) (f:Bool),j+m=b.len->m < n1->RZ E n0 n1 a b (i:Int) f (j:Int) k=cond (f || (List.range' j m).any λ j=>qZ (b.get j) (a.get i)) (RY E n0 a b ((i+1:Nat):Int) k) (k false):=by
  intro n0 i hi m
  induction m with
  | zero =>
   intro j n1 f hj hn;obtain⟨n1,rfl⟩:∃ n',n1=n'+1:=⟨n1 - 1,by omega⟩;rw[zmQ,decide_eq_false (by omega),cond_false,bT (by omega)];cases f <;> rfl
  | succ m ih =>
   intro j n1 f hj hn;obtain⟨n1,rfl⟩:∃ n',n1=n'+1:=⟨n1 - 1,by omega⟩;rw[zmQ,decide_eq_true (by omega),cond_true,bT (by omega),List.range'_succ,List.any_cons];cases f with
   | true=>rw[cond_true,ih (j+1) n1 true (by omega) (by omega)];rfl
   | false =>
    rw[cond_false,bD (by omega),bD (by omega),Int.toNat_natCast,Int.toNat_natCast,h53 _ _ (hb _ (iY.2 ⟨j,by omega,rfl⟩)) (ha _ (iY.2 ⟨i,hi,rfl⟩)),bn,ih (j+1) n1 _ (by omega) (by omega)];rw[Bool.false_or]
 rw[e46,bn,loopA (L:=λ n i=>RY E n a b i k) (p:=λ i=>(ls b).any λ x=>qZ x (a.get i)) (m:=a.len) (fin:=k true) (stop:=k false) (by omega) (λ n i hi=>?_) (λ n=>?_) _ (by omega),allL (p:=λ t=>(ls b).any λ x=>qZ x t)]
 ·cases (ls a).all λ t=>(ls b).any λ x=>qZ x t <;> rfl
 ·rw [zmP, decide_eq_true (by omega), cond_true];have:=inn n i hi b.len 0 E.N false (by omega) (by omega);refine this.trans ?_;rw[Bool.false_or,bT (by omega)];congr 1;unfold ls;rw[List.any_map,List.range_eq_range'];rfl
 ·rw[zmP,decide_eq_false (by omega)];rfl
theorem zaI (t:ai):qZ t t=true:=H8.2 ⟨λ _ h=>h,rfl⟩
theorem zkQ {a b c:ai}(h1:qZ b a=true) (h2:qZ c b=true):qZ c a=true:=by
 rw[H8] at *;exact⟨λ p hp=>h2.1 p (h1.1 p hp),h1.2.trans h2.2⟩
theorem RX.fit {s:au}{r:bP}{l:Sl bz}{f:found}(h:RX s r l f){t:ai}(ht:t∈ls f.fits):(t.View=1\/t.View=2)/\OC t.View t/\gY t∈(jE s l t.View).filter (oH s l t.View r):=by
 obtain⟨X,Y,e,x1,y1,x2,y2⟩:=h.fx;rw[e] at ht;rcases dL.1 ht with h | h
 ·have a := (x1 t h).1;exact⟨.inl a,⟨rfl,(x1 t h).2⟩,by rw[a,<- x2];exact List.mem_map_of_mem h⟩
 ·have a := (y1 t h).1;exact⟨.inr a,⟨rfl,(y1 t h).2⟩,by rw[a,<- y2];exact List.mem_map_of_mem h⟩
theorem RX.has {s:au}{r:bP}{l:Sl bz}{f:found}(h:RX s r l f){x:Int}(hx:x=1\/x=2){c:iH}(hc:c∈(jE s l x).filter (oH s l x r)):∃ t∈ls f.fits,t.View=x/\gY t=c:=by
 obtain⟨X,Y,e,x1,y1,x2,y2⟩:=h.fx;rcases hx with rfl | rfl
 ·rw [← x2] at hc;obtain⟨t,ht,he⟩:=vF.1 hc;exact⟨t,by rw[e];exact List.mem_append_left _ ht,(x1 t ht).1,he⟩
 ·rw [← y2] at hc;obtain⟨t,ht,he⟩:=vF.1 hc;exact⟨t,by rw[e];exact List.mem_append_right _ ht,(y1 t ht).1,he⟩
theorem RX.chosen {s:au}{r:bP}{l:Sl bz}{f:found}(h:RX s r l f) (he:Evt s l) (uf:l.len<=24){t:ai}(ht:t∈ls f.fits):lq s l t:=by
 obtain⟨v,tv,m⟩:=h.fit ht;obtain⟨⟨j,hj⟩,ne⟩:=Ic (List.mem_filter.1 m).1;exact { ev:={ toEvt:=he,l24:=uf,vw:=decide_eq_true v },tv:=tv,vl:=⟨j,Bv hj⟩,ne:=ne }
theorem RX.sub {s:au}{r:bP}{l:Sl bz}{f:found}(h:RX s r l f){t:ai}(ht:t∈ls f.l7):t∈ls f.fits:=(List.mem_filter.1 (h.tr.mem_iff.1 ht)).1
theorem RX.max {s:au}{r:bP}{l:Sl bz}{f:found}(h:RX s r l f) (he:Evt s l) (uf:l.len<=24){t:ai}(ht:t∈ls f.fits):∃ m∈ls f.l7,qZ m t=true:=by
 obtain⟨m,hm,h1,h2⟩:=zrd (F:=ls f.fits) (λ t=>t.Hits.len) (λ a b=>qZ b a=true) zaI (λ a b c h1 h2=>zkQ h1 h2) 100 (λ a ha=>(h.chosen he uf ha).one.le) t ht;refine⟨m,h.tr.mem_iff.2 (List.mem_filter.2 ⟨hm,?_⟩),h1⟩;rw[Bool.not_eq_true',List.any_eq_false];intro x hx hg;unfold SN at hg;rw[fM,decide_eq_true_eq] at hg;exact h2 x hx ⟨by have:=hg.1;omega,hg.2⟩
theorem RX.cont {s s' : au} {r q : bP} {l l' : Sl bz} {f g : found} (h : RX s r l f) (k : RX s' q l' g) (he : Evt s' l') (uf : l'.len ≤ 24) (sub : ∀ x c, (x = 1 ∨ x = 2) → c ∈ (jE s l x).filter (oH s l x r) → c ∈ (jE s' l' x).filter (oH s' l' x q)) :
  ((ls f.l7).all λ t=>(ls g.l7).any λ x=>qZ x t)=true:=by
 rw[List.all_eq_true];intro t ht;obtain⟨v,tv,m⟩:=h.fit (h.sub ht);obtain⟨u,hu,e1,e2⟩:=k.has v (sub _ _ v m);obtain⟨w,hw,e3⟩:=k.max he uf hu;rw[List.any_eq_true];refine⟨w,hw,?_⟩;rw[H8] at e3 ⊢;rw[e2] at e3;exact⟨e3.1,e1.symm.trans e3.2⟩
theorem RX.len {s:au}{r:bP}{l:Sl bz}{f:found}(h:RX s r l f) (n1:(jE s l 1).length<=2000) (n2:(jE s l 2).length<=2000):f.l7.len<=4000:=by
 obtain⟨X,Y,e,x1,y1,x2,y2⟩:=h.fx;have a:=h.tr.length_eq;rw[qg] at a;have b:=List.length_filter_le (λ t=>!(ls f.fits).any λ x=>SN x t) (ls f.fits);rw[e,OE] at b;have c:=congrArg List.length x2;have d:=congrArg List.length y2;rw[List.length_map] at c d;have:=List.length_filter_le (oH s l 1 r) (jE s l 1);have:=List.length_filter_le (oH s l 2 r) (jE s l 2);rw[e] at a;omega
theorem Fair.evt {s:au}{r:bP}{l:Sl bz}{m:Int}(h:Fair s r l m):Evt s l/\l.len<=24/\lV r=true:=by
 obtain⟨a,b,c⟩:=Nk h.sh h.rf;exact⟨a,c,b⟩
theorem zyR {s:au}{r:bP}{l:Sl bz}(he:Evt s l) (uf:l.len<=24) (hr:lV r=true):qN s r l=0:=by
 unfold qN;rw[decide_eq_false (by omega),he.se,hr,he.hi];rfl
structure E10 where
  N:Nat
  c17:au×bP×(Sl bz)×Int->ae ((Sl ai)×Bool)
  c19:Unit->ae (Bool)
  c20:au×bP×(Sl bz)->ae ((Sl ai)×Int)
  c46:(Sl ai)×(Sl ai)->ae (Bool)
abbrev G10 (E:E10):aX:=dh ((((Tabs.nil.addF 17 (ae.un E.c17)).addF 19 (ae.un E.c19)).addF 20 (ae.un E.c20)).addF 46 (ae.un E.c46)) []
def A10:bW:=aU ax 10 [] {}
def F10 (E:E10):au×bP×(Sl bz)×bz->ae (Bool):=ae.ty (aF ax E.N (G10 E) A10 10)
section
variable (E:E10){A:Type}(k:Bool->Option A)
theorem e10 (a0:au) (a1:bP) (a2:(Sl bz)) (a3:bz):(F10 E (a0,a1,a2,a3)).T k =
  bf (room a2.len 48) (bf (room (a2.len+1) 48) ((E.c17 (a0,a1,(⟨(a2.len+1),(jb a2.len a2.get (λ _=>a3))⟩:(Sl bz)),8)).T λ r1 =>
 cond (!r1.2)
 ((E.c19 ()).T λ r2 =>
 k r2)
 ((E.c20 (a0,a1,a2)).T λ r3 =>
 (E.c20 (a0,a1,(⟨(a2.len+1),(jb a2.len a2.get (λ _=>a3))⟩:(Sl bz)))).T λ r4 =>
 cond (r3.2 == 0)
 (cond (r4.2 == 0)
 ((E.c46 (r3.1,r4.1)).T λ r5 =>
 cond r5
 ((E.c19 ()).T λ r6 =>
 k r6)
 (k false))
 (k false))
 (k false)))):=bH.trans (by kernel_rfl)
end
theorem o10 [aJ] (E:E10) (h17:Ok ax 17 (ae.un E.c17)) (h19:Ok ax 19 (ae.un E.c19)) (h20:Ok ax 20 (ae.un E.c20)) (h46:Ok ax 46 (ae.un E.c46)):Ok ax 10 (ae.un (F10 E)):=aY (aP ((((ay.nil.addF h17).addF h19).addF h20).addF h46) (ak (by kernel_rfl)))
theorem zmR {α : Type} [DecidableEq α] : ∀ {a b : List α}, a.Nodup → (∀ x ∈ a, x ∈ b) → a.length ≤ b.length
  | [],b,_,_=>Nat.zero_le _
  | x :: a,b,h,k=>by
    obtain⟨h1,h2⟩:=List.pairwise_cons.1 h;have hx:=k x kz;have:=zmR (a:=a) (b:=b.erase x) h2 λ y hy=>(List.mem_erase_of_ne (h1 y hy).symm).2 (k y (jc _ hy));rw[List.length_erase_of_mem hx] at this;have:=List.length_pos_of_mem hx;rw[Jz];omega
def Same (l l':Sl bz) (c:iH):Prop:=∀ p∈c,l'.get p.1.toNat=l.get p.1.toNat
theorem X8 {l l':Sl bz}{c:iH}(h:Same l l' c){i:Nat}(hi:i < c.length):l'.get ((c[i]?).getD (0,0)).1.toNat=l.get ((c[i]?).getD (0,0)).1.toNat:=by
 rw[xY hi];exact h _ (List.getElem_mem hi)
theorem X9 {s:au}{l l':Sl bz}{c:iH}(h:Same l l' c):xX s l' c=xX s l c:=zf λ i hi=>by rw[X8 h hi]
theorem zfS {s:au}{l l':Sl bz}{c:iH}(hn:c ≠ []) (h:Same l l' c):Ia s l' c=Ia s l c:=by
 unfold Ia;refine xP (List.length_pos_iff.2 hn) (λ i hi=>?_) _ (iZ _);show (⟨0,(Dl s (l'.get ((c[i]?).getD (0,0)).1.toNat)).Low,(Dl s (l'.get ((c[i]?).getD (0,0)).1.toNat)).High⟩:aC)=_;rw[X8 h hi]
theorem zkR {s:au}{l l':Sl bz}{c:iH}(hn:c ≠ []) (h:Same l l' c):wF s l' c=wF s l c:=by
 unfold wF RH;rw[X9 h,zfS hn h]
theorem BF {α : Type} {p q : α → Bool} : ∀ {a : List α}, (∀ x ∈ a, p x = q x) → a.any p = a.any q
  | [],_=>rfl
  | x :: a,h=>by rw[List.any_cons,List.any_cons,h x kz,BF λ y hy=>h y (jc _ hy)]
theorem zfT {s:au}{l l':Sl bz}{x:Int}{r:bP}{c:iH}(h:Same l l' c):oH s l' x r c=oH s l x r c:=by
 have:RU s l' x c=RU s l x c:=by
  funext i;unfold RU usP;rw[X9 h,BF λ q hq=>by rw[h q hq]]
 unfold oH zrW;rw[this]
theorem Ie {s:au}{l l':Sl bz}(hl:∀ i,i < l.len->l'.get i=l.get i){x:Int}{c:iH}{j:Nat}(h:Val s l x c j):Same l l' c:=λ p hp=>by
 have:=(h.mem p hp).1;have:=h.le;exact hl _ (by omega)
theorem zkS {s:au}{l l':Sl bz}(hl:∀ i,i < l.len->l'.get i=l.get i) (hn:l.len<=l'.len){x:Int}{c:iH}{j:Nat}(h:Ch (wF s l) (vg l) (DY s l x) c j):Ch (wF s l') (vg l') (DY s l' x) c j:=by
 refine zkv (λ i p hp=>?_) (λ c i p hc hp=>?_) (λ c i p hc hp ha=>?_) h
 ·obtain ⟨h0, h1, h2, h3⟩ := vk hp;have e:l'.get p.1.toNat=l.get p.1.toNat:=hl _ (by omega);refine (NY (by omega)).2 ⟨by omega,?_,?_⟩
  ·unfold OA at h2 ⊢;rw[e];exact h2
  ·unfold xH at h3 ⊢;rw[e];exact h3
 ·obtain ⟨h0, h1, _⟩ := vk hp;have sm:=Ie hl (Bv hc);unfold vg;rw[hl p.1.toNat (by omega)];exact BF λ q hq=>by rw[sm q hq]
 ·obtain ⟨h0, h1, _⟩ := vk hp;have sm:=Ie hl (Bv hc);rw[zkR (by simp) λ q hq=>?_]
  ·exact ha
  ·rcases dL.1 hq with hq | hq
   ·exact sm q hq
   ·rw[jL.1 hq];exact hl _ (by omega)
theorem KX {s:au}{l l':Sl bz}(hl:∀ i,i < l.len->l'.get i=l.get i) (hn:l.len<=l'.len) (uf:l.len<=24){x:Int}{c:iH}(h:c∈jE s l x):c∈jE s l' x/\Same l l' c:=by
 obtain⟨⟨j,hj⟩,ne⟩:=Ic h;have v:=Bv hj;have:=v.le;exact⟨((zyK (f:=30) (zkS hl hn hj) (by omega)).1.resolve_left ne),Ie hl v⟩
abbrev Q10 (C:au×bP×Sl bz×bz->ae Bool):Prop:=∀ s r (l:Sl bz) h,l.len<=2932031007400->C (s,r,l,h)=.ok true
theorem s10 {E:E10}(h17:Q17 E.c17) (h19:Q19 E.c19) (h20:Q20 E.c20) (h46:Q46 E.c46):Q10 (F10 E):=λ s r l h hz=>ae.ext λ k=>by
 obtain⟨w,is,h1,h2⟩:=h17 s r (mO l h) 8;have r1:room l.len 48=true:=decide_eq_true (by omega);have r2:room (l.len+1) 48=true:=decide_eq_true (by omega);rw[e10,r1,r2];show (E.c17 (s,r,mO l h,8)).T _=_;rw[h1,h19,bn,bn];cases is with
 | false=>rfl
 | true =>
  have hf:=h2 rfl;obtain⟨he',zyS,hr⟩:=hf.evt;have hlen:(mO l h).len=l.len+1:=rfl;have hl:∀ i,i < l.len->(mO l h).get i=l.get i:=λ i hi=>by
   show jb l.len l.get (λ _=>h) i=_;rw[gX,if_neg (by omega)]
  have he:Evt s l:=⟨he'.sh,he'.se,dC.2 λ i hi=>by rw[<- hl i hi];exact dC.1 he'.hi i (by omega),by omega⟩;have uf:l.len<=24:=by omega
  have le:∀ x,(jE s l x).length<=(jE s (mO l h) x).length:=λ x=>zmR (zJ (BD s l x) _ _ _) λ c hc=>(KX hl (by omega) uf hc).1;have n1:(jE s l 1).length<=2000:=xZ (le 1) hf.n1;have n2:(jE s l 2).length<=2000:=xZ (le 2) hf.n2;obtain⟨f,f1,f2⟩:=h20 s r l hf.sh (by omega) (zyR he uf hr) n1 n2;obtain⟨g,g1,g2⟩:=h20 s r (mO l h) hf.sh hf.le hf.rf hf.n1 hf.n2;have l1:=f2.len n1 n2;have l2:=g2.len hf.n1 hf.n2;have fin:=f2.cont g2 he' zyS λ x c _ hc=>by
   rw[List.mem_filter] at hc ⊢;obtain⟨a,b⟩:=KX hl (by omega) uf hc.1;exact⟨a,by rw[zfT b];exact hc.2⟩
  show (E.c20 (s,r,l)).T (λ r3=>(E.c20 (s,r,mO l h)).T _)=_;rw[f1,bn,g1,bn];show (E.c46 (f.l7,g.l7)).T _=_;rw[h46 _ _ (by omega) (by omega) (λ t ht=>(f2.chosen he uf (f2.sub ht)).inc) (λ t ht=>(g2.chosen he' zyS (g2.sub ht)).inc),bn,fin];rfl
end Go.Proofs
namespace Go.Pm
variable [aJ]
open Go.Shelf Go.RowKit Go.Lib Go.Sort Go.Proofs


theorem zaJ {w w':World}(h1:w'.heap=w.heap) (h2:w'.tape=w.tape) (h3:w'.drawn=w.drawn) (h4:w'.os=w.os) (h5:w'.output=w.output):w'=w:=by
 cases w;cases w';simp_all
theorem zfU {w w':World}{h:Fz}(b : @tJ ⟨1⟩ h w.heap.size w w'):∃ q os,w'=grow (w.drewN q) os:=by
 obtain⟨bos,zyT,zMi,zQv,zsk,zsl⟩:=b;refine⟨w'.drawn - w.drawn,w'.heap.extract w.heap.size w'.heap.size,zaJ ?_ zyT ?_ bos zMi⟩
 ·show w'.heap = w.heap ++ w'.heap.extract w.heap.size w'.heap.size;apply Array.ext_getElem?;intro i;rw[Array.getElem?_append];split
  ·rename_i hl;exact zsl i hl
  ·rename_i hl;rw[Array.getElem?_extract];by_cases hlt:i < w'.heap.size
   ·rw[if_pos (by omega)];congr 1;omega
   ·rw[if_neg (by omega),Array.getElem?_eq_none (by omega)]
 ·show w'.drawn = w.drawn + (w'.drawn - w.drawn);have:w.drawn * 1<=w'.drawn * 1:=zsk;omega

theorem Oi {w : World} {g q : Nat} {cur : Array Value} {e : TypeId} {fr : Nat × Nat} {off : Nat} (F : Array Value) (hb : w.heap[g]? = some (.cells cur e fr)) :
  ∃ cur',(putRow id (Sort.ahead w q) g off F).heap[g]? = some (.cells cur' e fr)/\cur'.size=cur.size:=by
 refine⟨putCells id off F cur,?_,by simp[putCells]⟩;simp[putRow,mapBlock,Sort.ahead,Array.getElem?_modify,hb,onCells]
theorem CU {w:World}{g q off:Nat}(F:Array Value){k:Nat}(hk:k ≠ g):(putRow id (Sort.ahead w q) g off F).heap[k]? = w.heap[k]?:=by
 simp[putRow,mapBlock,Sort.ahead,Array.getElem?_modify,Ne.symm hk]

theorem zfV {C : List PA → ae (List PA)} {caps : List PV} {ag : Bool} {get : Nat → List PV} {i j : Nat} (h : (Ej C caps ag get i j).isSome = true) :
  ∃ rs,(C (elP ag (get i) :: elP ag (get j) :: caps.map .one)).o=some rs/\rs=[.one (.int .i64 (kQ C caps ag get i j))]:=by
 unfold kQ;cases e:Ej C caps ag get i j with
 | none=>rw[e] at h;cases h
 | some c =>
  unfold Ej at e;obtain⟨rs,h1,h2⟩:=ae.T_some e;refine⟨rs,h1,?_⟩;split at h2
  ·cases h2;rfl
  ·cases h2
theorem KY {P:Program}{ρ:Ren}(L:SlLaysF0.n6 P ρ){e s b:Nat}(he:ρ.t 24=e) (hag:ik P e=some true) (hsz:l9 P e=some s) (hc:dA P (ρ.f 6)):dX P (ρ.f 6) (.sort e s b):=by
 intro w h base v n get gf caps cv ag C hC hcv hag' _ hpos ⟨xs,hown,hr⟩ hone hw hob hbase ⟨hn,hS,hO⟩;rw[hag] at hag';simp only[bJ] at hag';subst hag';refine⟨hc,?_⟩;have hdr:∀ (w':World) (k:Nat),w.drawn<=w.drawn+k:=λ _ k=>Nat.le_add_right _ _;have none:∀ (p:Option Addr) (cap:Nat),n=0->v=.slice p 0 cap->Calls P (ρ.f 6) #[v,.func (.func gf) #[] cv.toArray] w λ r w'=>r=.returned (.tuple #[])/\wC h w' base e s v n (Em n (kQ C caps true get) get)/\GrB w w' v.ownBlock:=by
  rintro p cap rfl rfl;refine (AnyF.slices_SortFunc_none L p cap _ w).mono ?_;rintro r w' ⟨rfl,rfl⟩;exact⟨rfl,⟨xs,hown,λ i hi=>absurd hi (SE i)⟩,⟨rfl,rfl,rfl,iZ _,λ _ _ _=>rfl⟩,iZ _⟩
 rcases hown.2 with ⟨h1,h2⟩ | ⟨blk,cap,cur,rfl,hb,hcell,hncap,hcap,hcs,htk⟩
 ·exact none _ _ h2 h1
 by_cases hn0:n=0
 ·subst hn0;exact none _ _ rfl rfl
 have:Inhabited (Fin n):=⟨⟨0,by omega⟩⟩;let enc:Fin n->List Value:=λ i=>(xs.drop (i.val * s)).take s;let c:=kQ C caps true get;let cf:Fin n->Fin n->Int:=λ x y=>c x.val y.val;let d:Array (Fin n):=Array.ofFn id;have hds:d.size=n:=Array.size_ofFn;have hdi:∀ i (hi:i < n),d[i]! = ⟨i,hi⟩:=λ i hi=>by
  rw[getElem!_pos d i (by rw[hds];exact hi)];simp[d]
 have hlt:blk < w.heap.size:=(SA.1 hcell).1;have hbn:h blk=Option.none:=hob blk rfl;have hmul:∀ i,i < n->i * s+s<=n * s:=λ i hi=>by have:=JA s (Nat.succ_le_of_lt hi);rw[Ox] at this;exact this
 have hk:∀ x,(enc x).length=s:=λ x=>by
  have:=hmul x.val x.isLt;simp only[enc,List.length_take,List.length_drop,hown.1];omega
 have zMj:∀ j,j < n * s->cur[j]? = xs[j]?:=λ j hj=>by
  have:(cur.toList.take (n * s))[j]? = xs[j]?:=by rw[htk]
  rw[Dp,if_pos hj] at this;simpa using this
 have hxl:∀ j,j < n * s->∃ u,xs[j]? = some u:=λ j hj=>⟨xs[j]'(by rw[hown.1];exact hj),xY _⟩;have h1:∀ x,∀ u∈enc x,u.oneCell'=true:=λ x u hu=>by
  obtain⟨j,hj⟩:=List.getElem?_of_mem hu;obtain⟨p,_,hp⟩:=(hr x.val x.isLt).get' j u hj;exact hp.one
 have zyU:∀ j (hj:j < n * s),(flatK enc s d)[j]! = xs[j]'(by rw[hown.1];exact hj):=λ j hj=>by
  have hq:j / s < n:=Nat.div_lt_of_lt_mul (by rw[Nat.mul_comm];exact hj);rw[get_flatK _ _ _ _ (by rw[hds];exact hj),hdi _ hq];have hm:=Nat.mod_lt j hpos;have hdm:=Nat.div_add_mod j s;rw[getElem!_pos _ _ (by rw[hk];exact hm)];simp only[enc,List.getElem_take,List.getElem_drop];congr 1;rw[Nat.mul_comm];exact hdm
 have hH:HoldsK enc s w blk 0 d:=λ j hj=>by
  have hj:j < n * s:=by rw[size_flatK,hds] at hj;exact hj
  refine⟨?_,frozen_of_row w blk _ cur e hcell⟩;rw[zyU j hj,cell_of hcell,Nat.zero_add,zMj j hj];exact xY _
 have eg:∀ args w,(callFunc gf args).run P w=.ok (.enter gf args) w:=by
  have hcg:dA P gf:=by
   obtain⟨rs,hwp,_⟩:=zfV (hS 0 0 (by omega) (by omega));exact (hC _ _ hwp w h (.agg (enc ⟨0,by omega⟩).toArray :: .agg (enc ⟨0,by omega⟩).toArray :: cv) ⟨⟨_,rfl,hr 0 (by omega)⟩,⟨_,rfl,hr 0 (by omega)⟩,RL.map_left.2 hcv⟩ hw).1
  exact λ args w=>dQ hcg
 have hcmp:CmpLays P gf cv.toArray enc s cf blk 0 d.size w:=by
  intro m os dk hdk x y;obtain⟨rs,hwp,hrs⟩:=zfV (hS x.val y.val x.isLt y.isLt);have hwh:Hw h (sortWorldK enc s w blk 0 m dk os):=hw.same λ k o hk=>by
   have hkb:k ≠ blk:=λ e=>by rw[e,hbn] at hk;cases hk
   have hkl:=hw.lt hk;show ((putRow id (Sort.ahead w m) blk 0 (flatK enc s dk)).heap ++ os)[k]? = _;rw[Array.getElem?_append_left (by simpa [putRow,mapBlock,Sort.ahead] using hkl)];exact CU _ hkb
  obtain⟨_,hrun⟩:=hC _ _ hwp (sortWorldK enc s w blk 0 m dk os) h (.agg (enc x).toArray :: .agg (enc y).toArray :: cv) ⟨⟨_,rfl,hr x.val x.isLt⟩,⟨_,rfl,hr y.val y.isLt⟩,RL.map_left.2 hcv⟩ hwh;rw[show (#[Value.agg (enc x).toArray,.agg (enc y).toArray] ++ cv.toArray)=(Value.agg (enc x).toArray :: .agg (enc y).toArray :: cv).toArray by simp];refine hrun.mono ?_;rintro e' w' ⟨h',v',rfl,hres,hbel,_,_,_⟩;subst hrs;have hv':v'=.int .i64 (cf x y):=by
   have:Rep h' (.int .i64 (cf x y)) v':=hres;cases this;rfl
  subst hv';exact⟨rfl,zfU hbel⟩
 have zMk:SWO (ltOf cf):=by
  refine⟨λ x=>?_,λ x y z hxy hyz=>?_,λ x y z hxy hyz=>?_⟩
  ·have : 0 ≤ c x.val x.val := hO.1 x.val x.isLt;simp only[ltOf,decide_eq_false_iff_not];show ¬ c x.val x.val < 0;omega
  ·simp only [ltOf, decide_eq_true_eq] at hxy hyz ⊢;exact hO.2.2 _ _ _ x.isLt y.isLt z.isLt hxy hyz
  ·simp only [ltOf, decide_eq_false_iff_not] at hxy hyz ⊢;intro hxz;have hxy : ¬ c x.val y.val < 0:=hxy;have hyz : ¬ c y.val z.val < 0:=hyz;have hxz:c x.val z.val < 0:=hxz;by_cases e1:y.val=z.val
   ·rw[e1] at hxy;exact hxy hxz
   ·by_cases e2 : x.val = y.val
    ·rw[e2] at hxz;exact hyz hxz
    ·have a1 : c z.val y.val < 0 := by rcases hO.2.1 y.val z.val y.isLt z.isLt e1 with h | h; exact absurd h.1 hyz; exact h.1
     exact hxy (hO.2.2 _ _ _ x.isLt z.isLt y.isLt hxz a1)
 have aE:∀ w,(isAgg (ρ.t 24)).run P w=.ok true w:=λ w=>by rw[he];exact kT hag
 have zE:∀ w,(Go.sizeOf (ρ.t 24)).run P w=.ok s w:=λ w=>by rw[he];exact run_sizeOf hsz
 have hrun:=AnyQ.slices_SortFunc L s aE zE enc hk h1 cf zMk gf cv.toArray blk 0 cap d w eg hcmp hH hlt (by rw[hds];omega);rw[hds] at hrun;refine hrun.mono ?_;rintro r w' ⟨rfl,d',m,os,hperm,hsort,rfl⟩;obtain⟨hps,_,hpp⟩:=hperm;have VH:d'.size=n:=by rw[hps,hds]
 have hall:∀ (z:Array (Fin n)),z.size=n->z.extract 0 n=z:=λ z hz=>Array.ext (by simp[hz]) (λ i h1 h2=>by simp);rw[hall d' VH,hall d hds] at hpp;have hl:d'.toList.map Fin.val=ul n c:=by
  refine VB hO ?_ ?_
  ·refine (hpp.map Fin.val).trans ?_;have:d.toList.map Fin.val=List.range n:=by
    apply List.ext_getElem?;intro i;simp only[d,VO];by_cases hi:i < n
    ·simp[hi]
    ·rw[dqM (by simp;omega),dqM (by simp;omega)];rfl
   rw[this]
  ·rw [List.pairwise_map, List.pairwise_iff_getElem];intro i j hi hj hij;have hi':i < n:=by simpa [VH] using hi
   have hj':j < n:=by simpa [VH] using hj
   have:=hsort i j (Nat.zero_le _) hij hj';rw[getElem!_pos d' j (by omega),getElem!_pos d' i (by omega)] at this;simp only[ltOf,decide_eq_false_iff_not] at this;exact this
 have hget:∀ i (hi:i < n),Em n c get i=get (d'[i]'(by omega)).val:=λ i hi=>by
  unfold Em;rw[<- hl];congr 1;rw[List.getD_eq_getElem?_getD,VO];simp[VH,hi]
 obtain⟨cur',hcell',hsz'⟩:=Oi (q:=m) (off:=0) (flatK enc s d') hcell;have hgrow:(sortWorldK enc s w blk 0 m d' os).heap[blk]? = some (.cells cur' e (0,0)):=by
  show ((putRow id (Sort.ahead w m) blk 0 (flatK enc s d')).heap ++ os)[blk]? = _;rw[Array.getElem?_append_left (by simpa [putRow,mapBlock,Sort.ahead] using hlt)];exact hcell'
 have hH':HoldsK enc s (sortWorldK enc s w blk 0 m d' os) blk 0 d':=holdsK_sortWorldK_c enc s w blk 0 d d' m os hH hlt (by rw[VH,hds]);have zyV:∀ j (hj:j < n * s),cur'[j]? = some ((flatK enc s d')[j]!):=λ j hj=>by
  have:=(hH' j (by rw[size_flatK,VH];exact hj)).1;rw[cell_of hgrow,Nat.zero_add] at this;exact this
 refine⟨rfl,⟨cur'.toList.take (n * s),⟨by rw[List.length_take,Array.length_toList,hsz',hcs];exact Nat.min_eq_left (JA s hncap),.inr ⟨blk,cap,cur',rfl,hb,hgrow,hncap,hcap,by rw[hsz',hcs],rfl⟩⟩,λ i hi=>?_⟩,?_⟩
 ·have e1:((cur'.toList.take (n * s)).drop (i * s)).take s=enc (d'[i]'(by omega)):=by
   apply List.ext_getElem?;intro j;have hm:=hmul i hi;rw[Dp];split
   ·rename_i hj;rw[dqI,Dp,if_pos (by omega),Array.getElem?_toList,zyV _ (by omega)];have hdiv:(i * s+j) / s=i:=by rw[Nat.mul_comm,Nat.mul_add_div hpos,Nat.div_eq_of_lt hj,Nat.add_zero]
    have hmod:(i * s+j) % s=j:=by rw[Nat.mul_comm,Nat.mul_add_mod,Nat.mod_eq_of_lt hj]
    rw[get_flatK _ _ _ _ (by rw[VH];omega),hdiv,hmod,getElem!_pos d' i (by omega),getElem!_pos _ _ (by rw[hk];exact hj)];exact (xY _).symm
   ·rename_i hj;rw[dqM (by rw[hk];omega)]
  rw[e1,hget i hi];exact hr _ (d'[i]'(by omega)).isLt
 ·refine ⟨⟨rfl, rfl, rfl, ?_, fun k hk hne => ?_⟩, ED (Nat.le_add_right _ _)⟩
  ·show w.heap.size ≤ ((putRow id (Sort.ahead w m) blk 0 (flatK enc s d')).heap ++ os).size;simp[putRow,mapBlock,Sort.ahead]
  ·show ((putRow id (Sort.ahead w m) blk 0 (flatK enc s d')).heap ++ os)[k]? = _;rw[Array.getElem?_append_left (by simpa [putRow,mapBlock,Sort.ahead] using hk)];exact CU _ λ e=>hne (by rw[e];rfl)
end Go.Pm
namespace Go.Pm
open Go.Shelf Go.RowKit Go.Lib Go.Proofs
theorem VJ {P : Program} {ρ : Ren} (L : SlLaysE0.n41 P ρ) (i0 : TypeInfo) (z : Value) (size bytes : Nat) (hi : P.info? (ρ.t 23) = some i0) (hz0 : i0.zero = some z) (hz1 : i0.size = size) (hz2 : i0.bytes = bytes) (hzs : z.cells.size = size) (hsz : 0 < size)
    (z23:∀ w,(Go.sizeOf (ρ.t 23)).run P w=.ok size w) (a:Addr) (c:Nat) (w:World) :
    Calls P (ρ.f 41) #[.slice (some a) 0 c] w λ e w'=>∃ v',e=.returned v'/\w'.ownsRow w.heap.size (ρ.t 23) size v' 0 []/\Below w.heap.size w w':=by
  have mixed:=L.mixed;have t4:=L.t4;have a4:=L.a4;have z4:=L.z4;have v4:=L.v4;have t22:=L.t22;have a22:=L.a22;have z22:=L.z22;have v22:=L.v22;have q22:∀ (w:World) (a:Option Addr) (n c n' c':Nat),(binOp .eql (ρ.t 22) (.slice a n c) (.slice none n' c')).run P w=.ok (.bool a.isNone) w:=λ w a n c n' c'=>Lib.run_eql_slice_nil w _ _ a n c n' c' L.t22;have u22:∀ w,Sem.run P (underlying (ρ.t 22)) w=.ok (TypeDesc.slice (ρ.t 23)) w:=λ w=>run_underlying t22;obtain⟨_,_,FG⟩:=L.f41
  go_enter FG,SlBodyN.n41_ntmps ρ
  go_wp2_with (at_builtin;refine wpList_append_own _ rfl _ _ (ρ.t 22) rfl w.heap.size (ρ.t 23) i0 z size bytes t22 hi hz0 hz1 hz2 hzs hsz _ _ _ rfl (World.ownsRow_made w #[] 0 (iZ _) (Nat.zero_le _) (by simp)) a 0 c [] rfl (by simp) (by intro j u hj;simp at hj) (by intro u hu;cases hu) (by unfold maxLen;omega) (by omega) (by simp) ?_)
  intro v' w1 hown hgrow hnil
  go_wp2
  go_ret
  exact⟨v',rfl,by simpa using hown,((Below.refl _ w).alloc (iZ _) _).grown hgrow (by simp) (by intro k hk;simp[Value.ownBlock] at hk;omega)⟩
theorem KZ {P : Program} {ρ : Ren} (L : SlLaysE0.n41 P ρ) {e s b : Nat} {i0 : TypeInfo} {z : Value} (he : ρ.t 23 = e) (hi : P.info? e = some i0) (hz0 : i0.zero = some z) (hz1 : i0.size = s) (hz2 : i0.bytes = b) (hzs : z.cells.size = s) (hsz : l9 P e = some s) (hs : 0 < s)
    (hc:dA P (ρ.f 41)):dX P (ρ.f 41) (.clone e s b):=by
  subst he;intro w h v n get hv hw h1 h2;refine⟨hc,?_⟩;have zE:∀ w,(Go.sizeOf (ρ.t 23)).run P w=.ok s w:=λ w=>run_sizeOf hsz
  have fin:∀ (v':Value) (w':World) (news:List Value),w'.ownsRow w.heap.size (ρ.t 23) s v' n news->Below w.heap.size w w'->(∀ i,i < n->RL (Rep h) (get i) ((news.drop (i * s)).take s)) ->
      ∃ (h':Fz) (u:Value),Ending.returned v'=.returned u/\u.oneCell'=true/\wC h' w' w.heap.size (ρ.t 23) s u n get/\(∀ k,u.ownBlock=some k->h' k=none) /\
        tJ h w.heap.size w w'/\iQ h h'/\Hw h' w'/\∀ b o,h' b=some o->h b=some o\/w.heap.size<=b:=by
    intro v' w' news hown hbel hr;have hb:tJ h w.heap.size w w':=⟨hbel.os,hbel.tape,hbel.output,hbel.size,iZ _,λ k hk=>hbel.block k hk⟩;refine⟨h,v',rfl,?_,⟨news,hown,hr⟩,λ k hk=>?_,hb,λ _ _ h=>h,hw.same λ k o hk=>hb.block k (hw.lt hk),λ _ _ h=>.inl h⟩
    · rcases hown.2 with ⟨rfl,_⟩ | ⟨g,cap,cur,rfl,_⟩ <;> rfl
    · rcases hown.2 with ⟨rfl, _⟩ | ⟨g, cap, cur, rfl, hg, _⟩
      · cases hk
      · have : g = k := by simpa [Value.ownBlock] using hk
        subst this;cases e:h g with
        | none=>rfl
        | some o=>have:=hw.lt e;omega
  cases hv with
  | sl0 _ _ hu =>
    refine (AnyE.slices_Clone_nil L 0 0 w).mono ?_;rintro r w' ⟨rfl,rfl⟩;exact fin _ _ [] (World.ownsRow_nil _ _ _ _) (Below.refl _ _) λ i hi=>absurd hi (SE i)
  | sle _ _ a cap hu =>
    refine (VJ L i0 z s b hi hz0 hz1 hz2 hzs hs zE a cap w).mono ?_;rintro r w' ⟨v',rfl,hown,hbel⟩;exact fin _ _ [] hown hbel λ i hi=>absurd hi (SE i)
  | sl _ _ _ hu bk off cap C ty fr vs hb hcap hlen hcl hr =>
    let news:List Value:=(List.range (n * s)).map λ q=>vs (q / s) (q % s);have hl:news.length=n * s:=by simp[news]
    have hq:∀ q,q < n * s->q / s < n/\q % s < s:=λ q hq=>⟨Nat.div_lt_of_lt_mul (by rw[Nat.mul_comm];exact hq),Nat.mod_lt q hs⟩;have hn:∀ q,q < n * s->news[q]? = some (vs (q / s) (q % s)):=λ q hq=>by simp[news,hq]
    have hx:∀ i j,i < n->j < s->∃ x,(get i)[j]? = some x:=λ i j hi hj=>⟨_,xY (by rw[hlen i hi];exact hj)⟩;have hcell:=hw.fz hb;refine (AnyE.slices_Clone L i0 z s b hi hz0 hz1 hz2 hzs hs zE bk off n cap news w hl h2 h1 (λ j u hj=>?_) λ u hu=>?_).mono ?_
    · have hjl : j < n * s := by have := (wX.1 hj).1; omega
      obtain⟨a1,a2⟩:=hq j hjl;rw[hn j hjl] at hj;cases hj;obtain⟨x,hx⟩:=hx _ _ a1 a2;have hc:=hcl _ _ x a1 hx;have hone:=(hr _ _ x a1 hx).one;rw[show off+j / s * s+j % s=off+j by rw[Nat.add_assoc,Nat.mul_comm];rw[Nat.div_add_mod]] at hc;rw[cell_of hcell];exact hc
    · obtain ⟨j, hj⟩ := List.getElem?_of_mem hu;have hjl:j < n * s:=by have:=(wX.1 hj).1;omega
      obtain⟨a1,a2⟩:=hq j hjl;rw[hn j hjl] at hj;cases hj;obtain⟨x,hx⟩:=hx _ _ a1 a2;exact (hr _ _ x a1 hx).one
    · rintro r w' ⟨v', rfl, hown, _, hbel⟩;refine fin _ _ news hown hbel λ i hi=>RL.of_get ?_ λ j x y hx hy=>?_
      · have hm : i * s + s ≤ n * s := by have := JA s (Nat.succ_le_of_lt hi); rw [Ox] at this; exact this
        rw[hlen i hi,List.length_take,List.length_drop,hl];omega
      · have hj : j < s := by have := (wX.1 hx).1; rw [hlen i hi] at this; exact this
        have hm:i * s+s<=n * s:=by have:=JA s (Nat.succ_le_of_lt hi);rw[Ox] at this;exact this
        rw[Dp,if_pos hj,dqI,hn _ (by omega)] at hy;rw[show (i * s+j) / s=i by rw[Nat.mul_comm,Nat.mul_add_div hs,Nat.div_eq_of_lt hj,Nat.add_zero],show (i * s+j) % s=j by rw[Nat.mul_comm,Nat.mul_add_mod,Nat.mod_eq_of_lt hj]] at hy;cases hy;exact hr i j x hi hx
end Go.Pm
namespace Go.Proofs
open Go.Shelf
def Tryz.laysS253_ren:Go.Shelf.Ren:=⟨fun | 6=>253 | 15=>184 | 14=>256 | 28=>220 | 29=>221 | 20=>258 | 21=>259 | 22=>260 | 23=>261 | 24=>262 | 25=>263 | 26=>264 | 27=>265 | 46=>266 | 47=>242 | 48=>243 | 49=>267 | 50=>268 | 57=>269 | n=>n,fun | 22=>195 | 24=>204 | 25=>322 | 3=>3 | 39=>260 | 0=>0 | 53=>292 | 55=>294 | 4=>4 | 46=>286 | 45=>285 | 50=>174 | 5=>5 | 9=>9 | 66=>305 | 70=>309 | 76=>317 | 77=>221 | n=>n,fun | n=>n⟩
theorem Tryz.laysS253 : Go.Proofs.SlLaysF0.n6 Tryz.prog Tryz.laysS253_ren := {
  mixed:=by kernel_rfl
  f6:=⟨Tryz.f253.name,by decide,Tryz.func253.trans (congrArg some (by kernel_rfl))⟩
  f14:=⟨Tryz.f256.name,by decide,Tryz.func256.trans (congrArg some (by kernel_rfl))⟩
  f15:=Tryz.func184.trans (congrArg some (by kernel_rfl))
  f20:=⟨Tryz.f258.name,by decide,Tryz.func258.trans (congrArg some (by kernel_rfl))⟩
  f21:=⟨Tryz.f259.name,by decide,Tryz.func259.trans (congrArg some (by kernel_rfl))⟩
  f22:=⟨Tryz.f260.name,by decide,Tryz.func260.trans (congrArg some (by kernel_rfl))⟩
  f23:=⟨Tryz.f261.name,by decide,Tryz.func261.trans (congrArg some (by kernel_rfl))⟩
  f24:=⟨Tryz.f262.name,by decide,Tryz.func262.trans (congrArg some (by kernel_rfl))⟩
  f25:=⟨Tryz.f263.name,by decide,Tryz.func263.trans (congrArg some (by kernel_rfl))⟩
  f26:=⟨Tryz.f264.name,by decide,Tryz.func264.trans (congrArg some (by kernel_rfl))⟩
  f27:=⟨Tryz.f265.name,by decide,Tryz.func265.trans (congrArg some (by kernel_rfl))⟩
  f28:=Tryz.func220.trans (congrArg some (by kernel_rfl))
  f29:=Tryz.func221.trans (congrArg some (by kernel_rfl))
  f46:=⟨Tryz.f266.name,by decide,Tryz.func266.trans (congrArg some (by kernel_rfl))⟩
  f47:=Tryz.func242.trans (congrArg some (by kernel_rfl))
  f48:=Tryz.func243.trans (congrArg some (by kernel_rfl))
  f49:=⟨Tryz.f267.name,by decide,Tryz.func267.trans (congrArg some (by kernel_rfl))⟩
  f50:=⟨Tryz.f268.name,by decide,Tryz.func268.trans (congrArg some (by kernel_rfl))⟩
  f57:=⟨Tryz.f269.name,by decide,Tryz.func269.trans (congrArg some (by kernel_rfl))⟩
  t0:=Tryz.underlying0
  a0:=Tryz.isAgg0
  z0:=Tryz.sizeOf0
  v0:=Tryz.zeroValue0
  t3:=Tryz.underlying3
  a3:=Tryz.isAgg3
  z3:=Tryz.sizeOf3
  v3:=Tryz.zeroValue3
  t4:=Tryz.underlying4
  a4:=Tryz.isAgg4
  z4:=Tryz.sizeOf4
  v4:=Tryz.zeroValue4
  t5:=Tryz.underlying5
  a5:=Tryz.isAgg5
  z5:=Tryz.sizeOf5
  v5:=Tryz.zeroValue5
  t9:=Tryz.underlying9
  a9:=Tryz.isAgg9
  z9:=Tryz.sizeOf9
  v9:=Tryz.zeroValue9
  t22:=Tryz.underlying195
  a22:=Tryz.isAgg195
  z22:=Tryz.sizeOf195
  v22:=Tryz.zeroValue195
  t25:=Tryz.underlying322
  a25:=Tryz.isAgg322
  z25:=Tryz.sizeOf322
  v25:=Tryz.zeroValue322
  t39:=Tryz.underlying260
  a39:=Tryz.isAgg260
  z39:=Tryz.sizeOf260
  v39:=Tryz.zeroValue260
  t45:=Tryz.underlying285
  a45:=Tryz.isAgg285
  z45:=Tryz.sizeOf285
  v45:=Tryz.zeroValue285
  t46:=Tryz.underlying286
  a46:=Tryz.isAgg286
  z46:=Tryz.sizeOf286
  v46:=Tryz.zeroValue286
  t50:=Tryz.underlying174
  a50:=Tryz.isAgg174
  z50:=Tryz.sizeOf174
  v50:=Tryz.zeroValue174
  t53:=Tryz.underlying292
  a53:=Tryz.isAgg292
  z53:=Tryz.sizeOf292
  v53:=Tryz.zeroValue292
  t55:=Tryz.underlying294
  a55:=Tryz.isAgg294
  z55:=Tryz.sizeOf294
  v55:=Tryz.zeroValue294
  t66:=Tryz.underlying305
  a66:=Tryz.isAgg305
  z66:=Tryz.sizeOf305
  v66:=Tryz.zeroValue305
  t70:=Tryz.underlying309
  a70:=Tryz.isAgg309
  z70:=Tryz.sizeOf309
  v70:=Tryz.zeroValue309
  t76:=Tryz.underlying317
  a76:=Tryz.isAgg317
  z76:=Tryz.sizeOf317
  v76:=Tryz.zeroValue317
  t77:=Tryz.underlying221
  a77:=Tryz.isAgg221
  z77:=Tryz.sizeOf221
  v77:=Tryz.zeroValue221 }
def Tryz.laysS133_ren:Go.Shelf.Ren:=⟨fun | 6=>133 | 15=>184 | 14=>183 | 28=>220 | 29=>221 | 20=>212 | 21=>213 | 22=>214 | 23=>215 | 24=>216 | 25=>217 | 26=>218 | 27=>219 | 46=>241 | 47=>242 | 48=>243 | 49=>244 | 50=>245 | 57=>250 | n=>n,fun | 22=>30 | 24=>43 | 25=>220 | 3=>3 | 39=>260 | 0=>0 | 53=>292 | 55=>294 | 4=>4 | 46=>286 | 45=>285 | 50=>174 | 5=>5 | 9=>9 | 66=>305 | 70=>309 | 76=>317 | 77=>221 | n=>n,fun | n=>n⟩
theorem Tryz.laysS133 : Go.Proofs.SlLaysF0.n6 Tryz.prog Tryz.laysS133_ren := {
  mixed:=by kernel_rfl
  f6:=⟨Tryz.f133.name,by decide,Tryz.func133.trans (congrArg some (by kernel_rfl))⟩
  f14:=⟨Tryz.f183.name,by decide,Tryz.func183.trans (congrArg some (by kernel_rfl))⟩
  f15:=Tryz.func184.trans (congrArg some (by kernel_rfl))
  f20:=⟨Tryz.f212.name,by decide,Tryz.func212.trans (congrArg some (by kernel_rfl))⟩
  f21:=⟨Tryz.f213.name,by decide,Tryz.func213.trans (congrArg some (by kernel_rfl))⟩
  f22:=⟨Tryz.f214.name,by decide,Tryz.func214.trans (congrArg some (by kernel_rfl))⟩
  f23:=⟨Tryz.f215.name,by decide,Tryz.func215.trans (congrArg some (by kernel_rfl))⟩
  f24:=⟨Tryz.f216.name,by decide,Tryz.func216.trans (congrArg some (by kernel_rfl))⟩
  f25:=⟨Tryz.f217.name,by decide,Tryz.func217.trans (congrArg some (by kernel_rfl))⟩
  f26:=⟨Tryz.f218.name,by decide,Tryz.func218.trans (congrArg some (by kernel_rfl))⟩
  f27:=⟨Tryz.f219.name,by decide,Tryz.func219.trans (congrArg some (by kernel_rfl))⟩
  f28:=Tryz.func220.trans (congrArg some (by kernel_rfl))
  f29:=Tryz.func221.trans (congrArg some (by kernel_rfl))
  f46:=⟨Tryz.f241.name,by decide,Tryz.func241.trans (congrArg some (by kernel_rfl))⟩
  f47:=Tryz.func242.trans (congrArg some (by kernel_rfl))
  f48:=Tryz.func243.trans (congrArg some (by kernel_rfl))
  f49:=⟨Tryz.f244.name,by decide,Tryz.func244.trans (congrArg some (by kernel_rfl))⟩
  f50:=⟨Tryz.f245.name,by decide,Tryz.func245.trans (congrArg some (by kernel_rfl))⟩
  f57:=⟨Tryz.f250.name,by decide,Tryz.func250.trans (congrArg some (by kernel_rfl))⟩
  t0:=Tryz.underlying0
  a0:=Tryz.isAgg0
  z0:=Tryz.sizeOf0
  v0:=Tryz.zeroValue0
  t3:=Tryz.underlying3
  a3:=Tryz.isAgg3
  z3:=Tryz.sizeOf3
  v3:=Tryz.zeroValue3
  t4:=Tryz.underlying4
  a4:=Tryz.isAgg4
  z4:=Tryz.sizeOf4
  v4:=Tryz.zeroValue4
  t5:=Tryz.underlying5
  a5:=Tryz.isAgg5
  z5:=Tryz.sizeOf5
  v5:=Tryz.zeroValue5
  t9:=Tryz.underlying9
  a9:=Tryz.isAgg9
  z9:=Tryz.sizeOf9
  v9:=Tryz.zeroValue9
  t22:=Tryz.underlying30
  a22:=Tryz.isAgg30
  z22:=Tryz.sizeOf30
  v22:=Tryz.zeroValue30
  t25:=Tryz.underlying220
  a25:=Tryz.isAgg220
  z25:=Tryz.sizeOf220
  v25:=Tryz.zeroValue220
  t39:=Tryz.underlying260
  a39:=Tryz.isAgg260
  z39:=Tryz.sizeOf260
  v39:=Tryz.zeroValue260
  t45:=Tryz.underlying285
  a45:=Tryz.isAgg285
  z45:=Tryz.sizeOf285
  v45:=Tryz.zeroValue285
  t46:=Tryz.underlying286
  a46:=Tryz.isAgg286
  z46:=Tryz.sizeOf286
  v46:=Tryz.zeroValue286
  t50:=Tryz.underlying174
  a50:=Tryz.isAgg174
  z50:=Tryz.sizeOf174
  v50:=Tryz.zeroValue174
  t53:=Tryz.underlying292
  a53:=Tryz.isAgg292
  z53:=Tryz.sizeOf292
  v53:=Tryz.zeroValue292
  t55:=Tryz.underlying294
  a55:=Tryz.isAgg294
  z55:=Tryz.sizeOf294
  v55:=Tryz.zeroValue294
  t66:=Tryz.underlying305
  a66:=Tryz.isAgg305
  z66:=Tryz.sizeOf305
  v66:=Tryz.zeroValue305
  t70:=Tryz.underlying309
  a70:=Tryz.isAgg309
  z70:=Tryz.sizeOf309
  v70:=Tryz.zeroValue309
  t76:=Tryz.underlying317
  a76:=Tryz.isAgg317
  z76:=Tryz.sizeOf317
  v76:=Tryz.zeroValue317
  t77:=Tryz.underlying221
  a77:=Tryz.isAgg221
  z77:=Tryz.sizeOf221
  v77:=Tryz.zeroValue221 }
end Go.Proofs
namespace Go.Proofs
open Go.Shelf
def Tryz.laysC181_ren:Go.Shelf.Ren:=⟨fun | 41=>181 | n=>n,fun | 22=>39 | 23=>3 | n=>n,fun | n=>n⟩
theorem Tryz.laysC181 : Go.Proofs.SlLaysE0.n41 Tryz.prog Tryz.laysC181_ren := {
  mixed:=by kernel_rfl
  f41:=⟨Tryz.f181.name,by decide,Tryz.func181.trans (congrArg some (by kernel_rfl))⟩
  t4:=Tryz.underlying4
  a4:=Tryz.isAgg4
  z4:=Tryz.sizeOf4
  v4:=Tryz.zeroValue4
  t22:=Tryz.underlying39
  a22:=Tryz.isAgg39
  z22:=Tryz.sizeOf39
  v22:=Tryz.zeroValue39 }
def Tryz.laysC252_ren:Go.Shelf.Ren:=⟨fun | 41=>252 | n=>n,fun | 22=>195 | 23=>204 | n=>n,fun | n=>n⟩
theorem Tryz.laysC252 : Go.Proofs.SlLaysE0.n41 Tryz.prog Tryz.laysC252_ren := {
  mixed:=by kernel_rfl
  f41:=⟨Tryz.f252.name,by decide,Tryz.func252.trans (congrArg some (by kernel_rfl))⟩
  t4:=Tryz.underlying4
  a4:=Tryz.isAgg4
  z4:=Tryz.sizeOf4
  v4:=Tryz.zeroValue4
  t22:=Tryz.underlying195
  a22:=Tryz.isAgg195
  z22:=Tryz.sizeOf195
  v22:=Tryz.zeroValue195 }
end Go.Proofs
