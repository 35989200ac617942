/- Part 5 of what the proof rests on: a machine that runs functions of the program on pure values, proved sound; the functions that the law reaches, what they compute, and plain laws of that. -/
import Derived.Test.YtjkijdhdbhooiaaGreatQ4
set_option linter.all false
noncomputable section
namespace Go.Proofs
open Go Go.Pm
set_option maxRecDepth 100000
theorem zLF {E:zar} : yA (zj2 E):=λ x a b=>ae.ext λ k=>by rw[zI0,kc k,bi];congr 1;simp only[inB];grind
def Du (g:aB):Bool:=inB g.Z 0 100000 && (decide (g.Low >= -1000000) && (decide (g.Low<=g.High) && decide (g.High<=1000000)))
def fK (g:aB):Prop:=(0<=g.Z/\g.Z<=100000)/\-1000000<=g.Low/\g.Low<=g.High/\g.High<=1000000
def df (l:Sl aB):Prop:=(∀ i,i < l.len->fK (l.get i))/\1<=l.len/\l.len<=24
theorem zfG {g:aB} : Du g=true↔fK g:=by
 simp only[Du,inB,fA,decide_eq_true_eq,fK,ge_iff_le]
def yg (a b:aB):List straight:=if a.Z=b.Z then [] else [zU a.Z a.Low b.Z b.Low,zU a.Z a.Low b.Z b.High,zU a.Z a.High b.Z b.Low,zU a.Z a.High b.Z b.High]
def zV (g : Sl aB) (i : Nat) : Nat → Nat → List straight
  | 0,_=>[]
  | m+1,k=>yg (g.get i) (g.get k) ++ zV g i m (k+1)
def JK (g : Sl aB) : Nat → Nat → List straight
  | 0,_=>[]
  | m+1,i=>zV g i (g.len - (i+1)) (i+1) ++ JK g m (i+1)
def cst (g:Sl aB):List straight:=JK g g.len 0
theorem mX {g:aB}(h:fK g) : -1000000<=g.Low/\g.Low<=1000000:=⟨h.2.1,by have:=h.2;omega⟩
theorem oQ {g:aB}(h:fK g) : -1000000<=g.High/\g.High<=1000000:=⟨by have:=h.2;omega,h.2.2.2⟩
abbrev zrK (C:Int×Int×Int×Int->ae straight):Prop:=∀ z p y q,(0<=z/\z<=100000)->(0<=y/\y<=100000)->(-1000000<=p/\p<=1000000)->(-1000000<=q/\q<=1000000)->C (z,p,y,q)=.ok (zU z p y q)
theorem zLG {E:zaV} : zrK (zkN E):=λ z p y q hz hy hp hq=>ae.ext λ k=>by
 have b1:=l9 hp.1 hp.2 hy.1 hy.2;have b2:=l9 hq.1 hq.2 hz.1 hz.2;rw[e229,bi,aY (x:=p * y) (by omega) (by omega),aY (x:=q * z) (by omega) (by omega)];unfold zU;by_cases h:z > y
 ·rw[decide_eq_true h,cond_true,if_pos h,aY (x:=p - q) (by omega) (by omega),aY (x:=z - y) (by omega) (by omega),aY (x:=q * z - p * y) (by omega) (by omega)]
 ·rw[decide_eq_false h,cond_false,if_neg h,aY (x:=q - p) (by omega) (by omega),aY (x:=y - z) (by omega) (by omega),aY (x:=p * y - q * z) (by omega) (by omega)]
abbrev zrL (I:Pt list->ae (List straight)):Prop:=∀ l:Pt list,df l.v.bK->I l=.ok (cst l.v.bK)
theorem zLH {E:N9}(N:Big E.N) (zaU:zrK E.c229):zrL (zrE E):=λ l G=>by
 have hl:=G.2.2;refine zx ?_ (λ _=>rfl) (λ _=>rfl);rw[e228]
 have XZ:∀ (n i:Nat) (R:List (List PA)) (sl:Sl aB),i < l.v.bK.len->sl.len=l.v.bK.len - (i+1)->(∀ x,sl.get x=l.v.bK.get (x+(i+1)))->Ic E n l (aO ((i:Int)+1))=some R ->
   ∀ (m j n1:Nat),j+m=sl.len->m < n1->Ie E n n1 l (i:Int) sl (sl.len:Int) (j:Int) (l.v.bK.get i)=some ((zV l.v.bK i m (j+(i+1))).map dC.enc ++ R):=by
  intro n i R sl hi hs hg hR m
  induction m with
  | zero =>
   intro j n1 hj hn;obtain⟨n1,rfl⟩:∃ n',n1=n'+1:=⟨n1 - 1,by omega⟩;rw[zfv,decide_eq_false (by omega),cond_false,hR];rfl
  | succ m ih =>
   intro j n1 hj hn;obtain⟨n1,rfl⟩:∃ n',n1=n'+1:=⟨n1 - 1,by omega⟩;have gi:=G.1 i hi;have gk:=G.1 (j+(i+1)) (by omega);have i1:=ih (j+1) n1 (by omega) (by omega);rw[zfv,decide_eq_true (by omega),cond_true,bC (by omega),bQ (by omega),i1,Int.toNat_natCast,hg];show _=some (List.map dC.enc (yg (l.v.bK.get i) (l.v.bK.get (j+(i+1))) ++ zV l.v.bK i m (j+(i+1)+1)) ++ R);unfold yg;by_cases hz:(l.v.bK.get i).Z=(l.v.bK.get (j+(i+1))).Z
   ·rw[if_pos hz,show ((l.v.bK.get i).Z == (l.v.bK.get (j+(i+1))).Z)=true by simpa using hz,cond_true,show j+1+(i+1)=j+(i+1)+1 by omega];rfl
   ·rw[if_neg hz,show ((l.v.bK.get i).Z == (l.v.bK.get (j+(i+1))).Z)=false by simpa using hz,cond_false,zaU _ _ _ _ gi.1 gk.1 (mX gi) (mX gk),zaU _ _ _ _ gi.1 gk.1 (mX gi) (oQ gk),zaU _ _ _ _ gi.1 gk.1 (oQ gi) (mX gk),zaU _ _ _ _ gi.1 gk.1 (oQ gi) (oQ gk),bi,bi,bi,bi,
     show j+1+(i+1)=j+(i+1)+1 by omega];rfl
 have key:∀ (m i n:Nat),i+m=l.v.bK.len->m < n->Ic E n l (i:Int)=some ((JK l.v.bK m i).map dC.enc):=by
  intro m
  induction m with
  | zero =>
   intro i n hi hn;obtain⟨n,rfl⟩:∃ n',n=n'+1:=⟨n - 1,by omega⟩;rw[zfu,decide_eq_false (by omega)];rfl
  | succ m ih =>
   intro i n hi hn;obtain⟨n,rfl⟩:∃ n',n=n'+1:=⟨n - 1,by omega⟩;have i1:=ih (i+1) n (by omega) (by omega);rw[zfu,decide_eq_true (by omega),cond_true,bC (by omega),bQ (by omega),bC (by omega),Int.toNat_natCast];have hs:((l.v.bK.len:Int) - ((i+1:Nat):Int)).toNat=l.v.bK.len - (i+1):=by omega
   have:=XZ n i _ ⟨((l.v.bK.len:Int) - ((i+1:Nat):Int)).toNat,JF l.v.bK.get (((i+1:Nat):Int)).toNat⟩ (by omega) hs (λ x=>by show l.v.bK.get (x+(((i+1:Nat):Int)).toNat)=_;rw[Int.toNat_natCast]) (by rw[bQ (by omega)];exact i1) (l.v.bK.len - (i+1)) 0 E.N (by show 0+(l.v.bK.len - (i+1))=((l.v.bK.len:Int) - ((i+1:Nat):Int)).toNat;omega) (by have:=N;omega);rw[Nat.zero_add] at this;refine this.trans ?_;show _=some (((zV l.v.bK i (l.v.bK.len - (i+1)) (i+1)) ++ JK l.v.bK m (i+1)).map dC.enc);rw[List.map_append]
 exact key l.v.bK.len 0 E.N (by omega) (by have:=N;omega)
abbrev zrM (C:aB->ae Bool):Prop:=∀ g,C g=.ok (Du g)
theorem zLI {E:zaq}(xZ:yA E.c157):zrM (zj1 E):=λ g=>ae.ext λ k=>by
 rw[zIW,xZ,bi,bi];unfold Du;cases inB g.Z 0 100000 <;> cases decide (g.Low >= -1000000) <;> cases decide (g.Low<=g.High) <;> rfl
def uf (l:Sl aB):Bool:=dS (λ i=>Du (l.get i)) l.len && inB (l.len:Int) 1 24
theorem lH {l:Sl aB} : uf l=true↔df l:=by
 simp only[uf,fA,dA,inB,decide_eq_true_eq,zfG,df];exact and_congr Iff.rfl (by omega)
abbrev zk0 (C:Sl aB->ae Bool):Prop:=∀ l:Sl aB,l.len<=1000->C l=.ok (uf l)
theorem zLJ {E:Vj}(N:Big E.N) (zqL:zrM E.c156) (xZ:yA E.c157):zk0 (zjt E):=λ l hl=>ae.ext λ k=>by
 rw[e109,bi,loopA (L:=λ n i=>NJ E n l i k) (p:=λ i=>Du (l.get i)) (m:=l.len) (fin:=k (inB (l.len:Int) 1 24)) (stop:=k false) (by omega) (λ n i hi=>?_) (λ n=>?_) _ (by have:=N;omega)]
 ·unfold uf;cases dS (λ i=>Du (l.get i)) l.len <;> rfl
 ·rw [zes, decide_eq_true (by omega), cond_true, bC (by omega), zqL, bi, Int.toNat_natCast];cases Du (l.get i) <;> rfl
 ·rw[zes,decide_eq_false (by omega),cond_false,xZ,bi]
/-! The first one of a list that is as wanted. -/
def fst (p : Nat → Bool) : Nat → Nat → Int
  | 0,_=>-1
  | m+1,i=>cond (p i) (i:Int) (fst p m (i+1))
theorem Yf (p:Nat->Bool):∀ m i,(0<=fst p m i↔∃ j,i<=j/\j < i+m/\p j=true):=by
 intro m
 induction m with
 | zero=>intro i;exact⟨λ h=>by simp[fst] at h,λ ⟨j,h1,h2,_⟩=>by omega⟩
 | succ m ih =>
  intro i;simp only[fst];cases h:p i with
  | true=>exact⟨λ _=>⟨i,iM _,by omega,h⟩,λ _=>by simp⟩
  | false =>
   rw[cond_false,ih];exact⟨λ ⟨j,h1,h2,h3⟩=>⟨j,by omega,by omega,h3⟩,λ ⟨j,h1,h2,h3⟩=>⟨j,by
    have:j ≠ i:=λ e=>by rw[e,h] at h3;cases h3
    omega,by omega,h3⟩⟩
theorem ug (p:Nat->Bool) (m:Nat):decide (fst p m 0 >= 0) = !dS (λ i=>!p i) m:=by
 rw[Bool.eq_iff_iff];simp only[decide_eq_true_eq,ge_iff_le,Yf,Bool.not_eq_true',<- Bool.not_eq_true,dA];constructor
 ·rintro ⟨j, _, h2, h3⟩ h;have:=h j (by omega);rw[h3] at this;exact absurd rfl this
 ·intro h;apply Classical.byContradiction;intro hc;exact h λ i hi hp=>hc ⟨i,Nat.zero_le _,by omega,hp⟩
theorem Dv {A : Type} {L : Nat → Int → Option A} {p : Nat → Bool} {m : Nat} {k : Int → Option A} (hm : m < 4611686018427387904)
    (hL:∀ n i,i < m->L (n+1) (i:Int)=cond (p i) (k (i:Int)) (L n (aO ((i:Int)+1)))) (hE:∀ n,L (n+1) (m:Int)=k (-1)):∀ n,m < n->L n 0=k (fst p m 0):=by
  have key:∀ (d i n:Nat),i+d=m->d < n->L n (i:Int)=k (fst p d i):=by
    intro d
    induction d with
    | zero =>
      intro i n hi hn;obtain⟨n,rfl⟩:∃ n',n=n'+1:=⟨n - 1,by omega⟩;have e:i=m:=by omega
      subst e;exact hE n
    | succ d ih =>
      intro i n hi hn;obtain⟨n,rfl⟩:∃ n',n=n'+1:=⟨n - 1,by omega⟩;rw[hL n i (by omega),bQ (by omega),ih (i+1) n (by omega) (by omega)];simp only[fst];cases p i <;> rfl
  intro n hn;exact key m 0 n (by omega) hn
def Lj (x:straight) (g:aB):Bool:=inB (aO (x.start+aO (x.bT * g.Z))) (aO (g.Low * x.den)) (aO (g.High * x.den))
abbrev zrN (C:straight×aB->ae Bool):Prop:=∀ x g,C (x,g)=.ok (Lj x g)
theorem zLK {E:zaX}(xZ:yA E.c157):zrN (zkP E):=λ x g=>ae.ext λ k=>by rw[e231,xZ,bi,bi];rfl
abbrev zrO (C:aB×Pt straight->ae Bool):Prop:=∀ g (x:Pt straight),C (g,x)=.ok (!Lj x.v g)
theorem zLL {E:zaW}(zrF:zrN E.zms):zrO (zkO E):=λ g x=>ae.ext λ k=>by rw[e230,zrF,bi,bi]
def RX (x:straight) (g:aB):Bool:=aO (x.start+aO (x.bT * g.Z)) == aO (g.Low * x.den)
abbrev zrP (C:aB×Pt straight->ae Bool):Prop:=∀ g (x:Pt straight),C (g,x)=.ok (RX x.v g)
theorem zLM {E:za5} : zrP (zkZ E):=λ g x=>ae.ext λ k=>by rw[e257,bi];rfl
abbrev zrQ (C:aB×Pt list->ae Bool):Prop:=∀ g (x:Pt list),0 < x.v.bK.len->C (g,x)=.ok (g.Z != (x.v.bK.get 0).Z)
theorem zLN {E:zaO} : zrQ (zkB E):=λ g x h=>ae.ext λ k=>by rw[e207,bi,bC (by omega)]
abbrev za6:=dN 207 Unit (Pt list) ⊕ dN 230 Unit (Pt straight) ⊕ dN 257 Unit (Pt straight)
def zfH : za6 → aB → Bool
  | .inl c,g=>g.Z != (c.v.v.bK.get 0).Z
  | .inr (.inl c),g=>!Lj c.v.v g
  | .inr (.inr c),g=>RX c.v.v g
def okG : za6 → Prop
  | .inl c=>0 < c.v.v.bK.len
  | _=>True
abbrev QIx {γ:Type}(i:γ->za6) (C:Sl aB×γ->ae Int):Prop:=∀ (l:Sl aB) (c:γ),l.len<=1000->okG (i c)->C (l,c)=.ok (fst (λ j=>zfH (i c) (l.get j)) l.len 0)
abbrev JL {γ:Type}(i:γ->za6) (C:Sl aB×γ->ae Bool):Prop:=∀ (l:Sl aB) (c:γ),l.len<=1000->okG (i c)->C (l,c)=.ok (!dS (λ j=>!zfH (i c) (l.get j)) l.len)
abbrev zfI (C:Sl aB×za6->ae Int):Prop:=QIx id C
abbrev RY (C:Sl aB×za6->ae Bool):Prop:=JL id C
theorem zfJ {E:oN}(N:Big E.N) (zrG:zrQ E.zmm):QIx .inl (zQ E):=λ l c hl ho=>ae.ext λ k=>by
 rw[zfw,bi];refine Dv (L:=λ n i=>tX E n l c i k) (p:=λ j=>zfH (.inl c) (l.get j)) (m:=l.len) (k:=k) (by omega) (λ n i hi=>?_) (λ n=>?_) _ (by have:=N;omega)
 ·rw[Ig,decide_eq_true (by omega),cond_true,bC (by omega),zrG _ _ ho,bi,Int.toNat_natCast];rfl
 ·rw[Ig,decide_eq_false (by omega)];rfl
theorem zfK {E:oO}(N:Big E.N) (zrH:zrO E.zmr):QIx (λ c=>.inr (.inl c)) (zS E):=λ l c hl ho=>ae.ext λ k=>by
 rw[zfy,bi];refine Dv (L:=λ n i=>tY E n l c i k) (p:=λ j=>zfH (.inr (.inl c)) (l.get j)) (m:=l.len) (k:=k) (by omega) (λ n i hi=>?_) (λ n=>?_) _ (by have:=N;omega)
 ·rw[Ih,decide_eq_true (by omega),cond_true,bC (by omega),zrH,bi,Int.toNat_natCast];rfl
 ·rw[Ih,decide_eq_false (by omega)];rfl
theorem zfL {E:oP}(N:Big E.N) (zrI:zrP E.zmu):QIx (λ c=>.inr (.inr c)) (zT E):=λ l c hl ho=>ae.ext λ k=>by
 rw[zfA,bi];refine Dv (L:=λ n i=>tZ E n l c i k) (p:=λ j=>zfH (.inr (.inr c)) (l.get j)) (m:=l.len) (k:=k) (by omega) (λ n i hi=>?_) (λ n=>?_) _ (by have:=N;omega)
 ·rw[Ii,decide_eq_true (by omega),cond_true,bC (by omega),zrI,bi,Int.toNat_natCast];rfl
 ·rw[Ii,decide_eq_false (by omega)];rfl
theorem zLO {f:Sl aB×dN 207 Unit (Pt list)->ae Int}{g:Sl aB×dN 230 Unit (Pt straight)->ae Int}{h:Sl aB×dN 257 Unit (Pt straight)->ae Int}(a:QIx .inl f) (b:QIx (λ c=>.inr (.inl c)) g) (d:QIx (λ c=>.inr (.inr c)) h):zfI (ae.two f (ae.two g h)):=λ l c hl ho=>by
 rcases c with c | c | c
 ·exact a l c hl ho
 ·exact b l c hl ho
 ·exact d l c hl ho
theorem zfM {E:rE}(H8:zfI E.Ap):JL .inl (zK E):=λ l c hl ho=>ae.ext λ k=>by rw[zfe,H8 l (.inl c) hl ho,bi,bi,ug];rfl
theorem zfN {E:rF}(H8:zfI E.Ap):JL (λ c=>.inr (.inl c)) (zL E):=λ l c hl ho=>ae.ext λ k=>by rw[zfi,H8 l (.inr (.inl c)) hl ho,bi,bi,ug];rfl
theorem zfO {E:rG}(H8:zfI E.Ap):JL (λ c=>.inr (.inr c)) (zM E):=λ l c hl ho=>ae.ext λ k=>by rw[zfm,H8 l (.inr (.inr c)) hl ho,bi,bi,ug];rfl
theorem zLP {f:Sl aB×dN 207 Unit (Pt list)->ae Bool}{g:Sl aB×dN 230 Unit (Pt straight)->ae Bool}{h:Sl aB×dN 257 Unit (Pt straight)->ae Bool}(a:JL .inl f) (b:JL (λ c=>.inr (.inl c)) g) (d:JL (λ c=>.inr (.inr c)) h):RY (ae.two f (ae.two g h)):=λ l c hl ho=>by
 rcases c with c | c | c
 ·exact a l c hl ho
 ·exact b l c hl ho
 ·exact d l c hl ho
def eX (l:Sl aB):Bool:=dS (λ j=>(l.get j).Z == (l.get 0).Z) l.len
theorem zk1 {a b:Int} : (!(a != b))=(a == b):=by cases h:a == b <;> simp[bne,h]
abbrev V6 (C:list->ae Bool):Prop:=∀ x:list,0 < x.bK.len->x.bK.len<=1000->C x=.ok (eX x.bK)
theorem zLQ {E:zax}(Hy:RY E.c206):V6 (zj9 E):=λ x h0 h1=>ae.ext λ k=>by
 rw[e167,Hy x.bK (.inl ⟨(),⟨x⟩⟩) h1 h0,bi,bi,Bool.not_not];congr 1;exact Hg λ i _=>zk1
def allB (l:Sl aB) (x:straight):Bool:=dS (λ j=>Lj x (l.get j)) l.len
abbrev zrR (C:set×straight->ae Bool):Prop:=∀ (s:set) x,s.list.bK.len<=1000->C (s,x)=.ok (allB s.list.bK x)
theorem zLR {E:zaL}(Hy:RY E.c206):zrR (zkw E):=λ s x h1=>ae.ext λ k=>by
 rw[e199,Hy s.list.bK (.inr (.inl ⟨(),⟨x⟩⟩)) h1 trivial,bi,bi,Bool.not_not];congr 1;exact Hg λ i _=>Bool.not_not _
abbrev zrS (C:set×straight->ae Bool):Prop:=∀ (s:set) x,s.list.bK.len<=1000->C (s,x)=.ok (!dS (λ j=>!RX x (s.list.bK.get j)) s.list.bK.len)
theorem zLS {E:za4}(Hy:RY E.c206):zrS (zkY E):=λ s x h1=>ae.ext λ k=>by
 rw[zLx,Hy s.list.bK (.inr (.inr ⟨(),⟨x⟩⟩)) h1 trivial,bi,bi];rfl
def dZ (l : Sl aB) : Nat → bV
  | 0=>⟨(l.get 0).Low,(l.get 0).High⟩
  | n+1=>⟨if (l.get n).Low > (dZ l n).Low then (l.get n).Low else (dZ l n).Low,if (l.get n).High < (dZ l n).High then (l.get n).High else (dZ l n).High⟩
abbrev zk2 (C:list->ae bV):Prop:=∀ x:list,0 < x.bK.len->x.bK.len<=1000->C x=.ok (dZ x.bK x.bK.len)
theorem zLT {E:VV}(N:Big E.N):zk2 (zkx E):=λ x h0 h1=>ae.ext λ k=>by
 rw[zKn,bC (by omega),bC (by omega),bi];refine kz (X:=λ n i=>NY E n x (i:Int) (dZ x.bK i) k) (m:=x.bK.len) (λ n i hi=>?_) (λ n=>?_) _ (by have:=N;omega)
 ·rw[zfa,decide_eq_true (by omega),cond_true,bC (by omega),bQ (by omega),Int.toNat_natCast];rfl
 ·rw[zfa,decide_eq_false (by omega)];rfl
def rV (s:straight):Prop:=(-2000000<=s.bT/\s.bT<=2000000)/\(-200000000000<=s.start/\s.start<=200000000000)/\1<=s.den/\s.den<=100000
theorem zfP {z p y q:Int}(hz:0<=z/\z<=100000) (hy:0<=y/\y<=100000) (hp : -1000000<=p/\p<=1000000) (hq : -1000000<=q/\q<=1000000) (hn:z ≠ y):rV (zU z p y q):=by
 have b1:=l9 hp.1 hp.2 hy.1 hy.2;have b2:=l9 hq.1 hq.2 hz.1 hz.2;unfold zU rV;by_cases h:z > y
 ·rw[if_pos h];exact⟨⟨by show _<=p - q;omega,by show p - q<=_;omega⟩,⟨by show _<=q * z - p * y;omega,by show q * z - p * y<=_;omega⟩,by show _<=z - y;omega,by show z - y<=_;omega⟩
 ·rw[if_neg h];exact⟨⟨by show _<=q - p;omega,by show q - p<=_;omega⟩,⟨by show _<=p * y - q * z;omega,by show p * y - q * z<=_;omega⟩,by show _<=y - z;omega,by show y - z<=_;omega⟩
theorem zfQ {a b:aB}{s:straight}(h:s∈yg a b):a.Z ≠ b.Z/\∃ p q,(p=a.Low\/p=a.High)/\(q=b.Low\/q=b.High)/\s=zU a.Z p b.Z q:=by
 unfold yg at h;by_cases hz:a.Z=b.Z
 ·rw[if_pos hz] at h;cases h
 ·rw [if_neg hz] at h;refine⟨hz,?_⟩;simp only[jm,List.not_mem_nil,or_false] at h;rcases h with h | h | h | h
  ·exact⟨_,_,.inl rfl,.inl rfl,h⟩
  ·exact⟨_,_,.inl rfl,.inr rfl,h⟩
  ·exact⟨_,_,.inr rfl,.inl rfl,h⟩
  ·exact⟨_,_,.inr rfl,.inr rfl,h⟩
theorem RZ {g : Sl aB} {i : Nat} {s : straight} : ∀ {m k : Nat}, s ∈ zV g i m k → ∃ j, k ≤ j ∧ j < k + m ∧ s ∈ yg (g.get i) (g.get j)
  | 0,_,h=>by cases h
  | m+1,k,h=>by
    rcases dL.1 h with h | h
    · exact⟨k,iM _,by omega,h⟩
    · obtain ⟨j, a, b, c⟩ := RZ h;exact⟨j,by omega,by omega,c⟩
theorem Si {g : Sl aB} {s : straight} : ∀ {m i : Nat}, s ∈ JK g m i → ∃ a b, i ≤ a ∧ a < i + m ∧ a < b ∧ b < g.len ∧ s ∈ yg (g.get a) (g.get b)
  | 0,_,h=>by cases h
  | m+1,i,h=>by
    rcases dL.1 h with h | h
    · obtain ⟨j, a, b, c⟩ := RZ h;exact⟨i,j,iM _,by omega,by omega,by omega,c⟩
    · obtain ⟨a, b, h1, h2, h3, h4, h5⟩ := Si h;exact⟨a,b,by omega,by omega,h3,h4,h5⟩
theorem Yg {g:Sl aB}{s:straight}(h:s∈cst g):∃ a b,a < b/\b < g.len/\(g.get a).Z ≠ (g.get b).Z/\∃ p q,(p=(g.get a).Low\/p=(g.get a).High)/\(q=(g.get b).Low\/q=(g.get b).High)/\s=zU (g.get a).Z p (g.get b).Z q:=by
 obtain⟨a,b,_,_,h3,h4,h5⟩:=Si h;obtain⟨hz,r⟩:=zfQ h5;exact⟨a,b,h3,h4,hz,r⟩
theorem oU {g:Sl aB}(G:df g){s:straight}(h:s∈cst g):rV s:=by
 obtain⟨a,b,h1,h2,hz,p,q,hp,hq,rfl⟩:=Yg h;have ga:=G.1 a (by omega);have gb:=G.1 b h2;refine zfP ga.1 gb.1 ?_ ?_ hz
 ·rcases hp with rfl | rfl;exact mX ga;exact oQ ga
 ·rcases hq with rfl | rfl;exact mX gb;exact oQ gb
def pJ (l:Line):List Int:=[l.dM.Num,l.dM.bI,l.Start.Num,l.Start.bI]
theorem za7 {a b:Line}(h:pJ a=pJ b):a=b:=by
 unfold pJ at h;simp only[Cf,and_true] at h;obtain⟨h1,h2,h3,h4⟩:=h;obtain⟨⟨a1,a2⟩,a3,a4⟩:=a;obtain⟨⟨b1,b2⟩,b3,b4⟩:=b;simp only at h1 h2 h3 h4;rw[h1,h2,h3,h4]
theorem Sj (a b:aB):(yg a b).length<=4:=by unfold yg;split <;> simp
theorem Su (g:Sl aB) (i m k:Nat):(zV g i m k).length<=4 * m:=by
 induction m generalizing k with
 | zero=>exact iM _
 | succ m ih=>show (yg _ _ ++ zV g i m (k+1)).length<=_;rw[O8];have:=ih (k+1);have:=Sj (g.get i) (g.get k);omega
theorem zfR (g:Sl aB):∀ m i,(JK g m i).length<=4 * g.len * m:=by
 intro m
 induction m with
 | zero=>intro i;exact iM _
 | succ m ih =>
  intro i;show (zV g i (g.len - (i+1)) (i+1) ++ JK g m (i+1)).length<=_;rw[O8,Nat.mul_succ];have:=ih (i+1);have:=Su g i (g.len - (i+1)) (i+1);omega
theorem Ob {g:Sl aB}(G:df g):(cst g).length<=2304:=by
 have h1:=zfR g g.len 0;have hl:=G.2.2;have:4 * g.len * g.len<=4 * 24 * 24:=Nat.mul_le_mul (by omega) hl;exact Ci h1 this

def nO {α:Type} [bG α] (v:Sl α) (x:α):Sl α:=⟨v.len+1,jf v.len v.get (λ _=>x)⟩
theorem qE {α:Type} [bG α] (l:List α):∀ v:Sl α,(l.foldl nO v).len=v.len+l.length:=by
 induction l with
 | nil=>intro v;rfl
 | cons x l ih=>intro v;rw[List.foldl_cons,ih];show v.len+1+l.length=v.len+(l.length+1);omega
theorem Oc {α:Type} [bG α] [qp α] (l:List α):∀ (v:Sl α) (i:Nat),i < v.len->(l.foldl nO v).get i=v.get i:=by
 induction l with
 | nil=>intro v i _;rfl
 | cons x l ih =>
  intro v i hi;rw[List.foldl_cons,ih _ _ (show i < v.len+1 by omega)];show jf v.len v.get (λ _=>x) i=_;rw[gJ,if_neg (by omega)]
theorem xw {α:Type} [bG α] [qp α] (l:List α):∀ (v:Sl α) (i:Nat) (x:α),l[i]? = some x->(l.foldl nO v).get (v.len+i)=x:=by
 induction l with
 | nil=>intro v i x h;simp at h
 | cons y l ih =>
  intro v i x h;rw[List.foldl_cons];cases i with
  | zero =>
   simp only[List.getElem?_cons_zero,bP] at h;subst h;rw[Oc l _ _ (show v.len+0 < v.len+1 by omega)];show jf v.len v.get (λ _=>y) (v.len+0)=_;rw[gJ,if_pos (by omega)]
  | succ i =>
   have:=ih (nO v y) i x (by simpa using h);rw[<- this];congr 1;show v.len+(i+1)=v.len+1+i;omega
abbrev zk3 (C:straight->ae Line):Prop:=∀ x,rV x->C x=.ok (dQ x)
theorem zLU {E:zaK}(tH:Ij E.lK):zk3 (zkv E):=λ x h=>ae.ext λ k=>by
 obtain⟨h1,h2,h3⟩:=h;rw[zKi,tH _ _ (by omega) (by omega) (by omega) (by omega),tH _ _ (by omega) (by omega) (by omega) (by omega),bi,bi,bi];rfl
def BQ (g : Sl aB) : List straight → List straight → (List Int → Option (List Int)) → List straight
  | [],acc,_=>acc
  | y :: r,acc,F=>cond (!(DF (F (pJ (dQ y))) 0 != 0)) (cond (allB g y) (BQ g r (acc ++ [y]) (EH (pJ (dQ y)) [1] F)) (BQ g r acc F)) (BQ g r acc F)
def kH (g:Sl aB):List straight:=cond (eX g) [] (BQ g (cst g) [] λ _=>none)
abbrev Dw {α:Type} [Inhabited α]:Sl α:=⟨0,λ _=>default⟩
abbrev zk4 (C:Sl aB->ae set):Prop:=∀ g,df g->C g=.ok ⟨⟨g⟩,(kH g).foldl nO Dw⟩
theorem zLV {E:VJ}(tC:V6 E.c167) (i228:zrL E.i228) (VK:zk3 E.c198) (zrb:zrR E.zmj):zk4 (zj3 E):=λ g G=>ae.ext λ k=>by
 have hl:=G.2;rw[zI2,tC ⟨g⟩ (by show 0 < g.len;omega) (by show g.len<=1000;omega),bi,bi];unfold kH;cases eX g with
 | true=>rfl
 | false =>
  rw[cond_false,cond_false,i228 ⟨⟨g⟩⟩ G,bi];have key:∀ (r acc:List straight) (n:Nat) (F:List Int->Option (List Int)),(∀ s∈r,rV s)->acc.length+r.length<=10000->mG E r g (acc.foldl nO Dw) n F k=k ⟨⟨g⟩,(BQ g r acc F).foldl nO Dw⟩:=by
   intro r
   induction r with
   | nil=>intro acc n F _ _;exact zj4 ..
   | cons y r ih =>
    intro acc n F hs hn;have hs':∀ s∈r,rV s:=λ s h=>hs s (jc _ h);rw[Ey] at hn;rw[zra,VK y (hs y jS),bi,zrb ⟨⟨g⟩,_⟩ y (by show g.len<=1000;omega),bi];have e1:∀ m F,mG E r g (acc.foldl nO Dw) m F k=_:=λ m F=>ih acc m F hs' (by omega);have e2:∀ m F,mG E r g ((acc ++ [y]).foldl nO Dw) m F k=_:=λ m F=>ih (acc ++ [y]) m F hs' (by rw[O8];simp only[Ey,TK];omega);have hlen:(acc.foldl nO Dw).len=acc.length:=by rw[qE];simp
    have hroom:room ((acc.foldl nO Dw).len+1) 24=true:=decide_eq_true (by rw[hlen];omega);have hf:(⟨(acc.foldl nO Dw).len+1,jf (acc.foldl nO Dw).len (acc.foldl nO Dw).get (λ _=>y)⟩:Sl straight)=(acc ++ [y]).foldl nO Dw:=by rw[List.foldl_append];rfl
    rw[hroom,hf];show cond (!(DF (F (pJ (dQ y))) 0 != 0)) (cond (allB g y) (mG E r g ((acc ++ [y]).foldl nO Dw) _ (EH (pJ (dQ y)) [1] F) k) (mG E r g (acc.foldl nO Dw) n F k)) (mG E r g (acc.foldl nO Dw) n F k)=_;rw[e1,e2];simp only[BQ];cases (DF (F (pJ (dQ y))) 0 != 0) <;> cases allB g y <;> rfl
  exact key (cst g) [] 0 _ (λ s h=>oU G h) (by have:=Ob G;simp only[TK];omega)
theorem zk5 (g:Sl aB):∀ (r acc:List straight) (F:List Int->Option (List Int)),(∀ c,(DF (F c) 0 != 0)=true↔∃ x∈acc,pJ (dQ x)=c)->acc.Pairwise (λ x y=>dQ x ≠ dQ y) ->
    (∀ s∈BQ g r acc F,s∈acc\/(s∈r/\allB g s=true))/\(∀ s∈acc,s∈BQ g r acc F)/\(∀ s∈r,allB g s=true->∃ x∈BQ g r acc F,dQ x=dQ s)/\(BQ g r acc F).Pairwise (λ x y=>dQ x ≠ dQ y):=by
  intro r
  induction r with
  | nil=>intro acc F _ hp;exact⟨λ s h=>.inl h,λ s h=>h,(λ s h=>by cases h),hp⟩
  | cons y r ih =>
    intro acc F hF hp;have skip:=ih acc F hF hp;simp only[BQ];cases h1:(DF (F (pJ (dQ y))) 0 != 0) with
    | true =>
      obtain⟨c3,c4,c5,c6⟩:=skip;simp only[Bool.not_true,cond_false];refine⟨λ s h=>(c3 s h).imp id λ k=>⟨jc _ k.1,k.2⟩,c4,λ s h ha=>?_,c6⟩;rcases jm.1 h with rfl | h
      · obtain ⟨x, hx, hc⟩ := (hF _).1 h1;exact⟨x,c4 x hx,za7 hc⟩
      · exact c5 s h ha
    | false =>
      cases h2:allB g y with
      | true =>
        simp only[Bool.not_false,cond_true]
        obtain ⟨c3, c4, c5, c6⟩ := ih (acc ++ [y]) (EH (pJ (dQ y)) [1] F)
          (λ c=>by
            unfold EH;by_cases hc:c=pJ (dQ y)
            · rw [decide_eq_true hc];exact⟨λ _=>⟨y,by simp,hc.symm⟩,λ _=>rfl⟩
            · rw [decide_eq_false hc];refine (hF c).trans ⟨λ ⟨x,hx,e⟩=>⟨x,dL.2 (.inl hx),e⟩,λ ⟨x,hx,e⟩=>?_⟩;rcases dL.1 hx with hx | hx
              · exact⟨x,hx,e⟩
              · rw[jQ.1 hx] at e;exact absurd e.symm hc)
          (by
            rw[List.pairwise_append];refine⟨hp,List.pairwise_singleton _ _,λ a ha b hb=>?_⟩;rw[jQ.1 hb];exact λ e=>by rw[(hF _).2 ⟨a,ha,by rw[e]⟩] at h1;cases h1)
        have hy:=c4 y (by simp);refine⟨λ s h=>?_,λ s h=>c4 s (dL.2 (.inl h)),λ s h ha=>?_,c6⟩
        · rcases c3 s h with h | h
          · rcases dL.1 h with h | h
            · exact .inl h
            · rw[jQ.1 h];exact .inr ⟨jS,h2⟩
          · exact .inr ⟨jc _ h.1,h.2⟩
        · rcases jm.1 h with rfl | h
          · exact⟨s,hy,rfl⟩
          · exact c5 s h ha
      | false =>
        obtain⟨c3,c4,c5,c6⟩:=skip;simp only[Bool.not_false,cond_true,cond_false];refine⟨λ s h=>(c3 s h).imp id λ k=>⟨jc _ k.1,k.2⟩,c4,λ s h ha=>?_,c6⟩;rcases jm.1 h with rfl | h
        · rw[h2] at ha;cases ha
        · exact c5 s h ha
theorem Oe {g:Sl aB}(hf:eX g=false):(∀ s∈kH g,s∈cst g/\allB g s=true)/\(∀ s∈cst g,allB g s=true->∃ x∈kH g,dQ x=dQ s)/\(kH g).Pairwise (λ x y=>dQ x ≠ dQ y):=by
 unfold kH;rw[hf,cond_false];obtain⟨c3,_,c5,c6⟩:=zk5 g (cst g) [] (λ _=>none) (λ c=>⟨λ h=>by simp[DF] at h,λ ⟨x,hx,_⟩=>by cases hx⟩) List.Pairwise.nil;refine⟨λ s h=>?_,c5,c6⟩;rcases c3 s h with h | h
 ·cases h
 ·exact h
def iC (g:Sl aB):Bool:=cond (eX g) (decide ((dZ g g.len).Low<=(dZ g g.len).High)) (decide (((kH g).length:Int) > 0))
def gK (g:Sl aB):set:=⟨⟨g⟩,(kH g).foldl nO Dw⟩
theorem Ik (g:Sl aB):(gK g).cO.len=(kH g).length:=by show ((kH g).foldl nO Dw).len=_;rw[qE];simp
abbrev zk6 (C:set->ae Bool):Prop:=∀ g,df g->C (gK g)=.ok (iC g)
theorem zLW {E:zat}(VL:zk2 E.OY) (tC:V6 E.c167):zk6 (zj5 E):=λ g G=>ae.ext λ k=>by
 have hl:=G.2;rw[zI7,VL _ (by show 0 < g.len;omega) (by show g.len<=1000;omega),bi,tC _ (by show 0 < g.len;omega) (by show g.len<=1000;omega),bi,bi,Ik,kc k];rfl
def BR (g:Sl aB) (b:Bool):set×Int:=cond (uf g) (cond (iC g) (cond (eX g && !b) (⟨⟨Dw⟩,Dw⟩,6) (gK g,0)) (⟨⟨Dw⟩,Dw⟩,5)) (⟨⟨Dw⟩,Dw⟩,2)
abbrev zrT (C:list->ae Bool):Prop:=∀ l,C l=.ok false
theorem zLX {E:zaa} : zrT (zjA E):=λ l=>ae.ext λ k=>by rw[e118,bi]
abbrev zrU (C:list×Pt Int->ae Bool):Prop:=∀ (l:list) (z:Pt Int),0 < l.bK.len->C (l,z)=.ok ((l.bK.get 0).Z == z.v)
theorem zLY {E:zau} : zrU (zj6 E):=λ l z h=>ae.ext λ k=>by rw[e162,bi,bC (by omega)]
abbrev zrV:=dN 118 Unit Unit ⊕ dN 162 Unit (Pt Int)
def zLZ (g : Sl aB) : zrV → Bool
  | .inl _=>false
  | .inr c=>(g.get 0).Z == c.v.v
abbrev QOp {γ:Type}(i:γ->zrV) (C:Sl aB×γ->ae (set×Int)):Prop:=∀ (g:Sl aB) (c:γ),g.len<=1000->C (g,c)=.ok (BR g (zLZ g (i c)))
abbrev zk7 (C:Sl aB×zrV->ae (set×Int)):Prop:=QOp id C
theorem zfS {E:rq}(Vp:zk0 E.c109) (Vq:zk4 E.OU) (Vr:zk6 E.c159) (tC:V6 E.c167) (zqQ:zrT E.zl4):QOp .inl (zB E):=λ g c hl=>ae.ext λ k=>by
 rw[zew,Vp g hl,bi,bi];unfold BR;cases hg:uf g with
 | false=>rfl
 | true =>
  have G:=lH.1 hg;have G2:=G.2;rw[Vq g G,bi,show (⟨⟨g⟩,(kH g).foldl nO Dw⟩:set)=gK g from rfl,Vr g G,bi,tC _ (by show 0 < g.len;omega) (by show g.len<=1000;omega),bi,zqQ,bi];show cond (!true) _ (cond (!iC g) _ (cond (eX g) _ _))=_;cases iC g <;> cases eX g <;> rfl
theorem zfT {E:ru}(Vp:zk0 E.c109) (Vq:zk4 E.OU) (Vr:zk6 E.c159) (tC:V6 E.c167) (zqR:zrU E.c162):QOp .inr (zC E):=λ g c hl=>ae.ext λ k=>by
 rw[zeA,Vp g hl,bi,bi];unfold BR;cases hg:uf g with
 | false=>rfl
 | true =>
  have G:=lH.1 hg;have G2:=G.2;rw[Vq g G,bi,show (⟨⟨g⟩,(kH g).foldl nO Dw⟩:set)=gK g from rfl,Vr g G,bi,tC _ (by show 0 < g.len;omega) (by show g.len<=1000;omega),bi,zqR _ _ (by show 0 < g.len;omega),bi];show cond (!true) _ (cond (!iC g) _ (cond (eX g) (cond (!((g.get 0).Z == c.v.v)) _ _) _))=k (cond true (cond (iC g) (cond (eX g && !((g.get 0).Z == c.v.v)) _ _) _) _);cases iC g <;> cases eX g <;> cases ((g.get 0).Z == c.v.v) <;> rfl
theorem zL0 {f:Sl aB×dN 118 Unit Unit->ae (set×Int)}{h:Sl aB×dN 162 Unit (Pt Int)->ae (set×Int)}(a:QOp .inl f) (b:QOp .inr h):zk7 (ae.two f h):=λ g c hl=>by
 rcases c with c | c
 ·exact a g c hl
 ·exact b g c hl
def fH (s:straight) (z:Int):Int:=s.start+s.bT * z
def jP (s:straight) (g:aB):Bool:=decide (g.Low * s.den<=fH s g.Z/\fH s g.Z<=g.High * s.den)
def zrX (s:straight) (g:aB):Bool:=decide (fH s g.Z=g.Low * s.den)
theorem Yh {s:straight}(S:rV s){z:Int}(hz : -200000<=z/\z<=200000):aO (s.start+aO (s.bT * z))=fH s z/\(-600000000000<=fH s z/\fH s z<=600000000000):=by
 have b : -400000000000<=s.bT * z/\s.bT * z<=400000000000:=by
  rcases Int.lt_or_le z 0 with h | h
  ·have := l9 (x := s.bT) (y := -z) (X := 2000000) (Y := 200000) (by have := S.1; omega) (by have := S.1; omega) (by omega) (by omega);rw[Int.mul_neg] at this;omega
  ·exact l9 (X:=2000000) (Y:=200000) (by have:=S.1;omega) (by have:=S.1;omega) h (by omega)
 have:=S.2.1;unfold fH;rw[aY (x:=s.bT * z) (by omega) (by omega),aY (by omega) (by omega)];omega
theorem zfU {s:straight}(S:rV s){p:Int}(hp : -1000000<=p/\p<=1000000):aO (p * s.den)=p * s.den:=by
 have:=l9 hp.1 hp.2 (show 0<=s.den by have:=S.2.2;omega) S.2.2.2;exact aY (by omega) (by omega)
theorem Sv {s:straight}(S:rV s){g:aB}(h:fK g):Lj s g=jP s g:=by
 unfold Lj jP inB;rw[(Yh S (z:=g.Z) (by have:=h.1;omega)).1,zfU S (mX h),zfU S (oQ h)]
theorem Yi {s:straight}(S:rV s){g:aB}(h:fK g):RX s g=zrX s g:=by
 unfold RX zrX;rw[(Yh S (z:=g.Z) (by have:=h.1;omega)).1,zfU S (mX h)];rw[Bool.eq_iff_iff];simp
def vV (g:Sl aB) (s:straight):Prop:=∀ i,i < g.len->jP s (g.get i)=true
def lI (g:Sl aB) (s:straight):Prop:=∃ i,i < g.len/\zrX s (g.get i)=true
theorem zW {g:Sl aB}(G:df g){s:straight}(S:rV s):allB g s=true↔vV g s:=by
 unfold allB;rw[dA];exact⟨λ h i hi=>by rw[<- Sv S (G.1 i hi)];exact h i hi,λ h i hi=>by rw[Sv S (G.1 i hi)];exact h i hi⟩
theorem Sz {g:Sl aB}(G:df g){s:straight}(S:rV s):(!dS (λ j=>!RX s (g.get j)) g.len)=true↔lI g s:=by
 rw[Bool.not_eq_true',<- Bool.not_eq_true,dA];constructor
 ·intro h;apply Classical.byContradiction;intro hc;refine h λ i hi=>?_;cases e:RX s (g.get i) with
  | false=>rfl
  | true=>rw[Yi S (G.1 i hi)] at e;exact (hc ⟨i,hi,e⟩).elim
 ·rintro ⟨i, hi, e⟩ h;have:=h i hi;rw[Yi S (G.1 i hi),e] at this;cases this
def Dx (g:Sl aB) (s:straight):Prop:=s∈cst g/\vV g s
theorem ny {g:Sl aB}(G:df g){s:straight}(h:Dx g s):rV s:=oU G h.1
def yh (a b:aQ):Prop:=a.Num * b.bI < b.Num * a.bI
def Il (s:straight):aQ:=⟨s.bT,s.den⟩
theorem V7 {z p y q:Int}(h:z ≠ y):fH (zU z p y q) z=p * (zU z p y q).den/\fH (zU z p y q) y=q * (zU z p y q).den:=by
 unfold zU fH;split
 ·constructor
  ·show q * z - p * y + (p - q) * z = p * (z - y);rw[Int.sub_mul,Int.mul_sub];omega
  ·show q * z - p * y + (p - q) * y = q * (z - y);rw[Int.sub_mul,Int.mul_sub];omega
 ·constructor
  ·show p * y - q * z + (q - p) * z = p * (y - z);rw[Int.sub_mul,Int.mul_sub];omega
  ·show p * y - q * z + (q - p) * y = q * (y - z);rw[Int.sub_mul,Int.mul_sub];omega
def Yj (g:Sl aB) (s:straight):Prop:=∃ i,i < g.len/\fH s (g.get i).Z=(g.get i).High * s.den
theorem za8 {g:Sl aB}{s:straight}(h:s∈cst g):lI g s\/Yj g s:=by
 obtain⟨a,b,h1,h2,hz,p,q,hp,hq,rfl⟩:=Yg h;have e:=(V7 (p:=p) (q:=q) hz).1;rcases hp with rfl | rfl
 ·exact .inl ⟨a,by omega,decide_eq_true e⟩
 ·exact .inr ⟨a,by omega,e⟩
theorem par {s t:straight}(h:s.bT * t.den=t.bT * s.den) (z:Int):fH s z * t.den - fH t z * s.den=s.start * t.den - t.start * s.den:=by
  unfold fH;rw[Int.add_mul,Int.add_mul];have e:s.bT * z * t.den=t.bT * z * s.den:=by
    calc s.bT * z * t.den = s.bT * t.den * z := by ac_rfl
      _=t.bT * z * s.den:=by rw[h];ac_rfl
  omega
theorem uh {g:Sl aB}{s:straight}(h:vV g s){i:Nat}(hi:i < g.len):(g.get i).Low * s.den<=fH s (g.get i).Z/\fH s (g.get i).Z<=(g.get i).High * s.den:=of_decide_eq_true (h i hi)
theorem zrY {g:Sl aB}(G:df g){s t:straight}(hs:Dx g s) (ht:Dx g t) (h:s.bT * t.den=t.bT * s.den) (hl:s.start * t.den < t.start * s.den) : ¬ lI g t/\¬ Yj g s:=by
 have ps:0 < s.den:=by have:=(ny G hs).2.2;omega
 have pt:0 < t.den:=by have:=(ny G ht).2.2;omega
 constructor
 ·intro ⟨i, hi, e⟩;have e:fH t (g.get i).Z=(g.get i).Low * t.den:=of_decide_eq_true e;have a:=(uh hs.2 hi).1;have p:=par h (g.get i).Z;have a2:=Int.mul_le_mul_of_nonneg_right a (Int.le_of_lt pt);have:(g.get i).Low * s.den * t.den=fH t (g.get i).Z * s.den:=by rw[e];ac_rfl
  omega
 ·intro ⟨i, hi, e⟩;have a:=(uh ht.2 hi).2;have p:=par h (g.get i).Z;have a2:=Int.mul_le_mul_of_nonneg_right a (Int.le_of_lt ps);have:(g.get i).High * t.den * s.den=fH s (g.get i).Z * t.den:=by rw[e];ac_rfl
  omega
theorem SA {g:Sl aB}(G:df g){s t:straight}(hs:Dx g s) (ht:Dx g t) (hf:lI g s↔lI g t) (h1 : ¬ yh (Il s) (Il t)) (h2 : ¬ yh (Il t) (Il s)):dQ s=dQ t:=by
 have ps:0 < s.den:=by have:=(ny G hs).2.2;omega
 have pt:0 < t.den:=by have:=(ny G ht).2.2;omega
 have h:s.bT * t.den=t.bT * s.den:=by
  have a : ¬ s.bT * t.den < t.bT * s.den:=h1;have b : ¬ t.bT * s.den < s.bT * t.den:=h2;omega
 have key:∀ {s t:straight},Dx g s->Dx g t->(lI g s↔lI g t)->s.bT * t.den=t.bT * s.den->¬ s.start * t.den < t.start * s.den:=fun {s t} hs ht hf h hl=>by
  obtain⟨a,b⟩:=zrY G hs ht h hl;rcases za8 hs.1 with c | c
  ·exact a (hf.1 c)
  ·exact b c
 have e:s.start * t.den=t.start * s.den:=by
  have a:=key hs ht hf h;have b:=key ht hs hf.symm h.symm;omega
 unfold dQ;rw[(V4 ps pt).2 h,(V4 ps pt).2 e]
def Io (g:Sl aB) (s t:straight):Prop:=(lI g s/\(lI g t->yh (Il s) (Il t)))\/(¬ lI g s/\¬ lI g t/\yh (Il t) (Il s))
theorem Og {a:aQ} : ¬ yh a a:=by unfold yh;omega
theorem Yk {a b:aQ}(h:yh a b) : ¬ yh b a:=by unfold yh at *;omega
theorem Yl {a b c:aQ}(ha:0 < a.bI) (hb:0 < b.bI) (hc:0 < c.bI) (h1:yh a b) (h2:yh b c):yh a c:=by
 unfold yh at *;have y1:=Int.mul_lt_mul_of_pos_right h1 hc;have y2:=Int.mul_lt_mul_of_pos_right h2 ha;have z1:b.Num * a.bI * c.bI=b.Num * c.bI * a.bI:=by ac_rfl
 have z2:c.Num * b.bI * a.bI=c.Num * a.bI * b.bI:=by ac_rfl
 have z3:a.Num * b.bI * c.bI=a.Num * c.bI * b.bI:=by ac_rfl
 have:a.Num * c.bI * b.bI < c.Num * a.bI * b.bI:=by omega
 exact Int.lt_of_mul_lt_mul_right this (Int.le_of_lt hb)
theorem zk8 {g:Sl aB}{s:straight} : ¬ Io g s s:=λ h=>by
 rcases h with ⟨a,b⟩ | ⟨_,_,c⟩
 ·exact Og (b a)
 ·exact Og c
theorem zfV {g:Sl aB}{s t:straight}(h:Io g s t) : ¬ Io g t s:=λ k=>by
 rcases h with ⟨a,b⟩ | ⟨a,b,c⟩ <;> rcases k with ⟨x,y⟩ | ⟨x,y,z⟩
 ·exact Yk (b x) (y a)
 ·exact y a
 ·exact b x
 ·exact Yk c z
theorem za9 {g:Sl aB}(G:df g){s t u:straight}(hs:Dx g s) (ht:Dx g t) (hu:Dx g u) (h:Io g s t) (k:Io g t u):Io g s u:=by
 have ps:0 < (Il s).bI:=by have:=(ny G hs).2.2;show 0 < s.den;omega
 have pt:0 < (Il t).bI:=by have:=(ny G ht).2.2;show 0 < t.den;omega
 have pu:0 < (Il u).bI:=by have:=(ny G hu).2.2;show 0 < u.den;omega
 rcases h with ⟨a,b⟩ | ⟨a,b,c⟩ <;> rcases k with ⟨x,y⟩ | ⟨x,y,z⟩
 ·exact .inl ⟨a,λ w=>Yl ps pt pu (b x) (y w)⟩
 ·exact .inl ⟨a,λ w=>absurd w y⟩
 ·exact absurd x b
 ·exact .inr ⟨a,y,Yl pu pt ps z c⟩
theorem zk9 {g:Sl aB}(G:df g){s t:straight}(hs:Dx g s) (ht:Dx g t) (hn:dQ s ≠ dQ t):Io g s t\/Io g t s:=by
 by_cases a:lI g s <;> by_cases b:lI g t
 ·by_cases c : yh (Il s) (Il t)
  ·exact .inl (.inl ⟨a,λ _=>c⟩)
  ·by_cases d : yh (Il t) (Il s)
   ·exact .inr (.inl ⟨b,λ _=>d⟩)
   ·exact absurd (SA G hs ht ⟨λ _=>b,λ _=>a⟩ c d) hn
 ·exact .inl (.inl ⟨a,λ w=>absurd w b⟩)
 ·exact .inr (.inl ⟨b,λ w=>absurd w a⟩)
 ·by_cases c : yh (Il s) (Il t)
  ·exact .inr (.inr ⟨b,a,c⟩)
  ·by_cases d : yh (Il t) (Il s)
   ·exact .inl (.inr ⟨a,b,d⟩)
   ·exact absurd (SA G hs ht ⟨λ w=>absurd w a,λ w=>absurd w b⟩ c d) hn
abbrev zla (C:Int->ae Bool):Prop:=∀ x,C x=.ok false
theorem zL1 {E:za0} : zla (zkS E):=λ x=>ae.ext λ k=>by rw[zLf,bi,show (x != x)=false by simp]
def nz (a b:Int):Int:=cond (decide (a < b)) (-1) (cond (decide (a > b)) 1 0)
abbrev V8 (C:Int×Int->ae Int):Prop:=∀ a b,C (a,b)=.ok (nz a b)
theorem zL2 {E:zaP}(Ry:zla E.Jq):V8 (zkC E):=λ a b=>ae.ext λ k=>by
 rw[e208,Ry,bi,Ry,bi,bi];unfold nz;cases decide (a < b) <;> cases decide (a > b) <;> rfl
def FOK (f:aQ):Prop:=(-1000000000<=f.Num/\f.Num<=1000000000)/\0 < f.bI/\f.bI<=1000000000
def cmF (a b:aQ):Int:=nz (a.Num * b.bI) (b.Num * a.bI)
theorem zzA {a b:aQ}(h1:FOK a) (h2:FOK b):aO (a.Num * b.bI)=a.Num * b.bI:=by
 have:=l9 h1.1.1 h1.1.2 (Int.le_of_lt h2.2.1) h2.2.2;exact aY (by omega) (by omega)
abbrev zfW (C:aQ×aQ->ae Int):Prop:=∀ a b:aQ,aO (a.Num * b.bI)=a.Num * b.bI->aO (b.Num * a.bI)=b.Num * a.bI->C (a,b)=.ok (cmF a b)
theorem zL4 {E:zaz}(VM:V8 E.c208):zfW (zkb E):=λ a b h1 h2=>ae.ext λ k=>by
 rw[e170,VM,bi,bi,h1,h2];rfl
theorem zfX {a b:aQ} : cmF a b < 0↔yh a b:=by
 unfold cmF nz yh;by_cases h:a.Num * b.bI < b.Num * a.bI
 ·rw[decide_eq_true h];simp[h]
 ·rw [decide_eq_false h];cases decide (a.Num * b.bI > b.Num * a.bI) <;> simp[h]
theorem zfY {a b:aQ} : 0 - cmF a b < 0↔yh b a:=by
 unfold cmF nz yh;by_cases h:a.Num * b.bI < b.Num * a.bI
 ·rw[decide_eq_true h];simp;omega
 ·rw [decide_eq_false h];by_cases h2:a.Num * b.bI > b.Num * a.bI
  ·rw[decide_eq_true h2];simp;omega
  ·rw[decide_eq_false h2];simp;omega
theorem zzB (a b:aQ) : -1<=cmF a b/\cmF a b<=1:=by
 unfold cmF nz;cases decide (a.Num * b.bI < b.Num * a.bI) <;> cases decide (a.Num * b.bI > b.Num * a.bI) <;> simp
theorem zfZ {a b c d:Int}(hb:0 < b) (hd:0 < d):yh (red a b) (red c d)↔a * d < c * b:=by
 have a1:=lM (num:=a) hb;have a2:=kF (num:=a) hb;have c1:=lM (num:=c) hd;have c2:=kF (num:=c) hd;have hG:=jw (num:=a) hb;have hK:=jw (num:=c) hd;unfold yh;generalize (Int.gcd a b:Int)=G at a1 a2 hG;generalize (Int.gcd c d:Int)=K at c1 c2 hK;generalize (red a b).Num=p at a1 ⊢;generalize (red a b).bI=q at a2 ⊢;generalize (red c d).Num=u at c1 ⊢;generalize (red c d).bI=v at c2 ⊢;subst a1 a2 c1 c2;have e1:G * p * (K * v)=p * v * (G * K):=by ac_rfl
 have e2:K * u * (G * q)=u * q * (G * K):=by ac_rfl
 rw[e1,e2];have hp:=Int.mul_pos hG hK;exact⟨λ h=>Int.mul_lt_mul_of_pos_right h hp,λ h=>Int.lt_of_mul_lt_mul_right h (Int.le_of_lt hp)⟩
theorem Ej {a b:Int}(h1 : -1000000000<=a) (h2:a<=1000000000) (hb:0 < b) (hb2:b<=1000000000):FOK (red a b):=by
 have r1:=wI (num:=a) hb;have r2:=BP (num:=a) hb;have r3:=gW (num:=a) hb;exact⟨by omega,by omega,by omega⟩
def uD (g:Sl aB) (s:straight):Bool:=!dS (λ j=>!RX s (g.get j)) g.len
def zf0 (g:Sl aB) (s t:straight):Int:=cond (uD g s) (cond (uD g t) (cmF (red s.bT s.den) (red t.bT t.den)) (-1)) (cond (uD g t) 1 (aO (0 - cmF (red s.bT s.den) (red t.bT t.den))))
abbrev zrZ (C:straight×straight×Pt set->ae Int):Prop:=∀ s t (P:Pt set),rV s->rV t->P.v.list.bK.len<=1000->C (s,t,P)=.ok (zf0 P.v.list.bK s t)
theorem zL5 {E:za3}(zkX:zrS E.zha) (tH:Ij E.lK) (H5:zfW E.Am):zrZ (zkW E):=λ s t P S T hl=>ae.ext λ k=>by
 have s1:=S.1;have s3:=S.2.2;have t1:=T.1;have t3:=T.2.2
 rw[e254,zkX _ _ hl,bi,zkX _ _ hl,bi,tH _ _ (by omega) (by omega) (by omega) (by omega),bi,tH _ _ (by omega) (by omega) (by omega) (by omega),bi,
  H5 _ _ (zzA (Ej (by omega) (by omega) (by omega) (by omega)) (Ej (by omega) (by omega) (by omega) (by omega))) (zzA (Ej (by omega) (by omega) (by omega) (by omega)) (Ej (by omega) (by omega) (by omega) (by omega))),bi,bi]
 unfold zf0;show cond (uD P.v.list.bK s) (cond (uD P.v.list.bK t) _ (cond (uD P.v.list.bK s) _ (cond (uD P.v.list.bK t) _ _))) (cond (uD P.v.list.bK s) _ (cond (uD P.v.list.bK t) _ _))=_;cases uD P.v.list.bK s <;> cases uD P.v.list.bK t <;> rfl
theorem zlb {g:Sl aB}(G:df g){s t:straight}(hs:Dx g s) (ht:Dx g t):zf0 g s t < 0↔Io g s t:=by
 have S:=ny G hs;have T:=ny G ht;have a:=Sz G S;have b:=Sz G T;have ps:0 < s.den:=by have:=S.2.2;omega
 have pt:0 < t.den:=by have:=T.2.2;omega
 have e1:=(zfX (a:=red s.bT s.den) (b:=red t.bT t.den)).trans (zfZ ps pt);have e2:=(zfY (a:=red s.bT s.den) (b:=red t.bT t.den)).trans (zfZ pt ps);have bb:=zzB (red s.bT s.den) (red t.bT t.den);have e3:yh (Il s) (Il t)↔s.bT * t.den < t.bT * s.den:=Iff.rfl;have e4:yh (Il t) (Il s)↔t.bT * s.den < s.bT * t.den:=Iff.rfl;unfold zf0 Io;rw[<- a,<- b,e3,e4,<- e1,<- e2,aY (by omega) (by omega)];show cond (uD g s) _ _ < 0↔(uD g s=true/\(uD g t=true->_))\/(¬ uD g s=true/\¬ uD g t=true/\_);cases uD g s <;> cases uD g t <;> simp
end Go.Proofs
namespace Go.Pm
section perm
variable {c:Nat->Nat->Int}
theorem wJ (x : Nat) : ∀ l : List Nat, (LK c x l).Perm (x :: l)
  | []=>.refl _
  | y :: r=>by
    unfold LK;split
    · exact .refl _
    · exact ((wJ x r).cons y).trans (.swap _ _ _)
theorem yj (n:Nat):(uJ n c).Perm (List.range n):=by
 unfold uJ;generalize List.range n=l
 induction l with
 | nil=>exact .refl _
 | cons x l ih=>exact (wJ x _).trans (ih.cons x)
def leB (c:Nat->Nat->Int) (a b:Nat):Prop:=¬ c b a < 0
theorem Ym {n : Nat} (H : STO n c) {x : Nat} (hx : x < n) : ∀ {l : List Nat}, (∀ y ∈ l, y < n) → l.Pairwise (leB c) → (LK c x l).Pairwise (leB c)
  | [],_,_=>by simp[LK]
  | y :: r,hl,hp=>by
    have hy:=hl y jS;rw[List.pairwise_cons] at hp;unfold LK;split
    · rename_i h;have h:=of_decide_eq_true h;rw[List.pairwise_cons];refine⟨λ z hz=>?_,List.pairwise_cons.2 hp⟩;have hxy:leB c x y:=λ h2=>by
        have:=H.1 x hx;have:=H.2.2 x y x hx hy hx h h2;omega
      rcases jm.1 hz with rfl | hz
      · exact hxy
      · intro h2;exact hp.1 z hz (H.2.2 z x y (hl z (jc _ hz)) hx hy h2 h)
    · rename_i h;have h:=of_decide_eq_false h;rw[List.pairwise_cons];refine⟨λ z hz=>?_,Ym H hx (λ z hz=>hl z (jc _ hz)) hp.2⟩;rcases jm.1 ((wJ x r).mem_iff.1 hz) with rfl | hz
      · exact h
      · exact hp.1 z hz
theorem SB {n:Nat}(H:STO n c):(uJ n c).Pairwise (leB c):=by
 have key:∀ l:List Nat,(∀ y∈l,y < n)->(l.foldr (LK c) []).Pairwise (leB c)/\∀ y∈l.foldr (LK c) [],y < n:=by
  intro l
  induction l with
  | nil=>intro _;exact⟨List.Pairwise.nil,λ y hy=>by simp at hy⟩
  | cons x l ih =>
   intro h;obtain⟨h1,h2⟩:=ih λ y hy=>h y (jc _ hy);have hx:=h x jS;refine⟨Ym H hx h2 h1,λ y hy=>?_⟩;rcases jm.1 ((wJ x _).mem_iff.1 hy) with rfl | hy
   ·exact hx
   ·exact h2 y hy
 exact (key _ λ y hy=>List.mem_range.1 hy).1
theorem V9 {n:Nat}(H:STO n c){l:List Nat}(hp:l.Perm (List.range n)) (hs:l.Pairwise (leB c)):l=uJ n c:=by
 refine List.Perm.eq_of_pairwise (le:=leB c) (λ a b ha hb h1 h2=>?_) hs (SB H) (hp.trans (yj n).symm);have ha:=List.mem_range.1 (hp.mem_iff.1 ha);have hb:=List.mem_range.1 ((yj n).mem_iff.1 hb);by_cases e:a=b
 ·exact e
 ·rcases H.2.1 a b ha hb e with h | h
  ·exact absurd h.1 h2
  ·exact absurd h.1 h1
end perm
end Go.Pm
namespace Go.Proofs
open Go Go.Pm
set_option maxRecDepth 100000
theorem znz {α : Type} [bG α] [qp α] {C : List PA → ae (List PA)} {caps : List PV} {ag : Bool} {w : Sl α} {cmp : α → α → Int} {R : α → α → Prop} (hn : w.len ≤ 1000000)
    (hc:∀ i j,i < w.len->j < w.len->EL C caps ag (qw w) i j=some (cmp (w.get i) (w.get j))) (hR:∀ i j,i < w.len->j < w.len->(cmp (w.get i) (w.get j) < 0↔R (w.get i) (w.get j)))
    (irr:∀ i,i < w.len->¬ R (w.get i) (w.get i)) (tot:∀ i j,i < w.len->j < w.len->i ≠ j->R (w.get i) (w.get j)\/R (w.get j) (w.get i)) (asym:∀ i j,i < w.len->j < w.len->R (w.get i) (w.get j)->¬ R (w.get j) (w.get i))
    (tr:∀ i j k,i < w.len->j < w.len->k < w.len->R (w.get i) (w.get j)->R (w.get j) (w.get k)->R (w.get i) (w.get k)) :
    soP C caps ag w=true/\∃ l:List Nat,l.Perm (List.range w.len)/\l.Pairwise (λ i j=>R (w.get i) (w.get j))/\∀ i (h:i < l.length),soG C caps ag w i=w.get l[i]:=by
  have hv:∀ i j,i < w.len->j < w.len->(kX C caps ag (qw w) i j < 0↔R (w.get i) (w.get j)):=λ i j hi hj=>by
    unfold kX;rw[hc i j hi hj];exact hR i j hi hj
  have S1:zcn w.len (λ i j=>(EL C caps ag (qw w) i j).isSome) (kX C caps ag (qw w))=true:=by
    simp only[zcn,List.all_eq_true,List.mem_range,fA,Bool.or_eq_true,decide_eq_true_eq,Bool.not_eq_true',Bool.and_eq_false_iff,decide_eq_false_iff_not];intro i hi;refine⟨by have : ¬ kX C caps ag (qw w) i i < 0:=λ h=>irr i hi ((hv i i hi hi).1 h);omega,λ j hj=>?_⟩;refine⟨⟨by rw[hc i j hi hj];rfl,?_⟩,λ k hk=>?_⟩
    · by_cases hij : i = j
      · exact .inl (.inl (by rw[hij];exact Nat.beq_refl j))
      · rcases tot i j hi hj hij with h | h
        · have : ¬ kX C caps ag (qw w) j i < 0 := fun k => asym i j hi hj h ((hv j i hj hi).1 k);exact .inl (.inr ⟨(hv i j hi hj).2 h,by omega⟩)
        · have : ¬ kX C caps ag (qw w) i j < 0 := fun k => asym j i hj hi h ((hv i j hi hj).1 k);exact .inr ⟨(hv j i hj hi).2 h,by omega⟩
    · by_cases h1 : kX C caps ag (qw w) i j < 0
      · by_cases h2 : kX C caps ag (qw w) j k < 0
        · exact .inr ((hv i k hi hk).2 (tr i j k hi hj hk ((hv i j hi hj).1 h1) ((hv j k hj hk).1 h2)))
        · exact .inl (.inr h2)
      · exact .inl (.inl h1)
  have hb:(zoA w.len (λ i j=>(EL C caps ag (qw w) i j).isSome) (kX C caps ag (qw w))).b=true:=by
    show (Nat.ble w.len 4611686018427387 && zcn w.len _ _)=true;rw[S1,Nat.ble_eq_true_of_le (by omega)];rfl
  have T:STO w.len (kX C caps ag (qw w)):=(CP.h _ hb).2.2;have pm:=yj (c:=kX C caps ag (qw w)) w.len;refine⟨hb,uJ w.len (kX C caps ag (qw w)),pm,?_,λ i h=>?_⟩
  · have nd : (uJ w.len (kX C caps ag (qw w))).Nodup := pm.nodup_iff.2 List.nodup_range;refine (List.Pairwise.and (SB T) nd).imp_of_mem ?_;intro a b ha hb hab;have ha:=List.mem_range.1 (pm.mem_iff.1 ha);have hb:=List.mem_range.1 (pm.mem_iff.1 hb);rcases tot a b ha hb hab.2 with h | h
    · exact h
    · exact absurd ((hv b a hb ha).2 h) hab.1
  · show (bG.dec (bG.enc (w.get ((uJ w.len (kX C caps ag (qw w))).getD i ((uJ w.len (kX C caps ag (qw w))).getD 0 0))))).1 = _;rw[qp.de,List.getD_eq_getElem?_getD,yz h];rfl
theorem rH (g:Sl aB){i:Nat}(h:i < (kH g).length):(gK g).cO.get i=(kH g)[i]:=by
 have:=xw (kH g) Dw i (kH g)[i] (yz h);rw[show (Dw:Sl straight).len+i=i by show 0+i=i;omega] at this;exact this
theorem zf1 (g:Sl aB):∀ (r acc:List straight) (F:List Int->Option (List Int)),(BQ g r acc F).length<=acc.length+r.length:=by
 intro r
 induction r with
 | nil=>intro acc F;exact iM _
 | cons y r ih =>
  intro acc F;have a:=ih (acc ++ [y]) (EH (pJ (dQ y)) [1] F);have b:=ih acc F;rw[O8] at a;simp only[Ey,TK] at a ⊢;simp only[BQ];cases (DF (F (pJ (dQ y))) 0 != 0) <;> cases allB g y <;> simp only[Bool.not_true,Bool.not_false,cond_true,cond_false] <;> omega
theorem Oh {g:Sl aB}(G:df g):(kH g).length<=2304:=by
 unfold kH;cases eX g with
 | true=>exact Nat.zero_le _
 | false =>
  have a:=zf1 g (cst g) [] λ _=>none;have b:=Ob G;rw[cond_false];simp only[TK,Nat.zero_add] at a;omega
theorem Em {g:Sl aB}(G:df g){s:straight}(h:s∈kH g):Dx g s:=by
 cases hf:eX g with
 | true=>unfold kH at h;rw[hf] at h;cases h
 | false =>
  obtain⟨a,b⟩:=(Oe hf).1 s h;exact⟨a,(zW G (oU G a)).1 b⟩
abbrev zr0 (C:set->ae (Sl straight)):Prop:=∀ g,df g->∃ D:Sl straight,C (gK g)=.ok D/\D.len=(kH g).length/\∀ i,i < D.len->rV (D.get i)
theorem zL6 {E:za2}(zL7:zrZ E.TG):zr0 (zkV E):=λ g G=>by
  have hl:=Oh G;have hG:=G.2.2;have len:=Ik g;have cr:∀ i,i < (gK g).cO.len->Dx g ((gK g).cO.get i):=λ i hi=>by
    rw[rH g (by omega)];exact Em G (List.getElem_mem _)
  have ne:∀ i j,i < (gK g).cO.len->j < (gK g).cO.len->i ≠ j->dQ ((gK g).cO.get i) ≠ dQ ((gK g).cO.get j):=λ i j hi hj hij e=>by
    rw[rH g (by omega),rH g (by omega)] at e;cases hf:eX g with
    | true =>
      have:kH g=[]:=by unfold kH;rw[hf];rfl
      rw[this] at len;simp at len;omega
    | false =>
      have P:=(Oe hf).2.2;rw[List.pairwise_iff_getElem] at P;rcases Nat.lt_or_ge i j with h | h
      · exact P i j (by omega) (by omega) h e
      · exact P j i (by omega) (by omega) (by omega) e.symm
  obtain ⟨hp, l, h1, _, h3⟩ := znz (C := ae.un E.TG) (caps := bG.enc (⟨gK g⟩ : Pt set)) (ag := true) (w := (gK g).cO) (cmp := zf0 g) (R := Io g) (by omega)
    (λ i j hi hj=>by
      show (E.TG ((gK g).cO.get i,(gK g).cO.get j,(⟨gK g⟩:Pt set))).T _=_;rw[zL7 _ _ _ (ny G (cr i hi)) (ny G (cr j hj)) (by show g.len<=1000;omega)];rfl)
    (λ i j hi hj=>zlb G (cr i hi) (cr j hj)) (λ i hi=>zk8) (λ i j hi hj hij=>zk9 G (cr i hi) (cr j hj) (ne i j hi hj hij)) (λ i j _ _ h=>zfV h)
    (λ i j k hi hj hk a b=>za9 G (cr i hi) (cr j hj) (cr k hk) a b)
  have ll:l.length=(gK g).cO.len:=by rw[h1.length_eq,List.length_range]
  refine⟨⟨(gK g).cO.len,soG (ae.un E.TG) (bG.enc (⟨gK g⟩:Pt set)) true (gK g).cO⟩,ae.ext λ k=>?_,len,λ i hi=>?_⟩
  · rw[e249,hp,bi,show room (gK g).cO.len 24=true from decide_eq_true (by omega)];rfl
  · have hi : i < (gK g).cO.len := hi;show rV (soG _ _ _ _ i);rw[h3 i (by omega)];exact ny G (cr _ (List.mem_range.1 (h1.mem_iff.1 (List.getElem_mem _))))
def Oi (g:Sl aB):Int:=(BR g false).2
abbrev zr1 (C:Sl aB->ae (Sl Line×Int)):Prop:=∀ g:Sl aB,g.len<=1000->∃ L,C g=.ok (L,Oi g)/\(Oi g=0->0 < L.len)
theorem zL8 {E:VZ}(N:Big E.N) (Vl:zk7 E.c117) (zrJ:zr0 E.zg9) (VK:zk3 E.c198):zr1 (zfC E):=λ g hl=>by
 have e:∀ (A:Type) (k:Sl Line×Int->Option A),(zfC E g).T k=cond ((BR g false).2 != 0) (k (⟨0,λ _=>default⟩,(BR g false).2)) ((E.zg9 (BR g false).1).T λ r2=>BO E E.N r2 (r2.len:Int) 0 ⟨0,λ _=>⟨⟨0,0⟩,⟨0,0⟩⟩⟩ k):=λ A k=>by
  rw[e240,Vl g (.inl ⟨(),()⟩) hl,bi];rfl
 unfold Oi;by_cases h0:(BR g false).2=0
 ·have:uf g=true/\iC g=true/\eX g=false:=by
   unfold BR at h0;revert h0;cases uf g <;> cases iC g <;> cases eX g <;> simp
  obtain⟨hg,hs,hf⟩:=this;have G:=lH.1 hg;have e1:(BR g false).1=gK g:=by unfold BR;rw[hg,hs,hf];rfl
  obtain⟨D,d1,d2,d3⟩:=zrJ g G;have dl:D.len<=2304:=by rw[d2];exact Oh G
  have key:∃ L:Sl Line,L.len=D.len/\∀ (A:Type) (k:Sl Line×Int->Option A),BO E E.N D (D.len:Int) 0 ⟨0,λ _=>⟨⟨0,0⟩,⟨0,0⟩⟩⟩ k=k (L,0):=by
   let acc:Nat->Sl Line:=λ n=>Nat.rec ⟨0,λ _=>⟨⟨0,0⟩,⟨0,0⟩⟩⟩ (λ i v=>nO v (dQ (D.get i))) n;have al:∀ n,(acc n).len=n:=λ n=>by
    induction n with
    | zero=>rfl
    | succ n ih=>show (acc n).len+1=n+1;rw[ih]
   refine⟨acc D.len,al _,λ A k=>?_⟩;refine kz (X:=λ n i=>BO E n D (D.len:Int) (i:Int) (acc i) k) (m:=D.len) (λ n i hi=>?_) (λ n=>?_) _ (by have:=N;omega)
   ·rw[zfD,decide_eq_true (by omega),cond_true,bC (by omega),Int.toNat_natCast,VK _ (d3 i hi),bi,bQ (by omega),show room ((acc i).len+1) 32=true from decide_eq_true (by rw[al];omega)];rfl
   ·rw[zfD,decide_eq_false (by omega)];rfl
  obtain⟨L,l1,l2⟩:=key;refine⟨L,ae.ext λ k=>?_,λ _=>?_⟩
  ·rw[e,h0,e1,d1,bi,l2];rfl
  ·rw [l1, d2];unfold iC at hs;rw[hf,cond_false,decide_eq_true_eq] at hs;omega
 ·exact⟨_,ae.ext λ k=>by rw[e,show ((BR g false).2 != 0)=true by simpa using h0];rfl,λ h=>absurd h h0⟩
abbrev zr2 (C:Sl aB->ae (Line×Int)):Prop:=∀ g:Sl aB,g.len<=1000->∃ l,C g=.ok (l,Oi g)
theorem zL9 {E:zaQ}(zrA:zr1 E.zmt):zr2 (zkE E):=λ g hl=>by
 obtain⟨L,h1,h2⟩:=zrA g hl;by_cases h0:Oi g=0
 ·exact⟨_,ae.ext λ k=>by rw[e211,h1,bi,h0];show aZ (decide ((0:Int)<=0/\0 < (L.len:Int))) _=_;rw[bC ⟨Int.le_refl 0,by have:=h2 h0;omega⟩];rfl⟩
 ·exact⟨_,ae.ext λ k=>by rw[e211,h1,bi];show cond (Oi g != 0) _ _=_;rw[show (Oi g != 0)=true by simpa using h0];rfl⟩
theorem zr3 {g:Sl aB}(G:df g):(Oi g != 5)=iC g:=by
 unfold Oi BR;rw[lH.2 G];cases iC g <;> cases eX g <;> rfl
theorem zlc {g:Sl aB}(h:0 < g.len):eX g=dS (λ i=>(g.get (i+1)).Z == (g.get 0).Z) (g.len - 1):=by
 unfold eX;rw[Bool.eq_iff_iff,dA,dA];refine⟨λ a i hi=>a (i+1) (by omega),λ a i hi=>?_⟩;cases i with
 | zero=>simp
 | succ i=>exact a i (by omega)
abbrev zf2 (C:Sl aB->ae Bool):Prop:=∀ g:Sl aB,0 < g.len->g.len<=1000->C g=.ok (eX g)
theorem zMa {E:VE}(N:Big E.N):zf2 (zjU E):=λ g h0 h1=>ae.ext λ k=>by
 rw[zIF,bi,zlc h0];have:=loopA (L:=λ n i=>yc E n g (i+1) k) (p:=λ i=>(g.get (i+1)).Z == (g.get 0).Z) (m:=g.len - 1) (fin:=k true) (stop:=k false) (by omega) (λ n i hi=>by
  show yc E (n+1) g ((i:Int)+1) k=cond _ (yc E n g (aO ((i:Int)+1)+1) k) _
  rw[zeK,decide_eq_true (by omega),cond_true,bC (by omega),bC (by omega),show ((i:Int)+1).toNat=i+1 by omega,show (i:Int)+1=((i+1:Nat):Int) by omega,bQ (by omega),
   show aO ((i+1:Nat):Int)=((i+1:Nat):Int) from aY (by omega) (by omega)]
  rw[show ((i+1:Nat):Int)+1=((i+1+1:Nat):Int) by omega];cases h:(g.get (i+1)).Z == (g.get 0).Z <;> simp[bne,h]) (λ n=>by
  show yc E (n+1) g (((g.len - 1:Nat):Int)+1) k=_;rw[zeK,decide_eq_false (by omega)];rfl) E.N (by have:=N;omega)
 rw[show (1:Int)=0+1 from rfl];refine this.trans ?_;cases dS (λ i=>(g.get (i+1)).Z == (g.get 0).Z) (g.len - 1) <;> rfl
theorem We (g:Sl aB):dZ g 1=⟨(g.get 0).Low,(g.get 0).High⟩:=by
 show (⟨_,_⟩:bV)=_;simp only[dZ,gt_iff_lt,Int.lt_irrefl,if_false]
abbrev zld (C:Sl aB->ae (Int×Int×Bool)):Prop:=∀ g:Sl aB,0 < g.len->g.len<=1000->C g=.ok ((dZ g g.len).Low,(dZ g g.len).High,decide ((dZ g g.len).Low<=(dZ g g.len).High))
theorem zMb {E:VS}(N:Big E.N):zld (zkr E):=λ g h0 h1=>ae.ext λ k=>by
 rw[zJ6,bC (by omega),bC (by omega),bi];have:=kz (X:=λ n i=>NW E n g (dZ g (i+1)).Low (dZ g (i+1)).High ((i+1:Nat):Int) k) (m:=g.len - 1) (fin:=k ((dZ g g.len).Low,(dZ g g.len).High,decide ((dZ g g.len).Low<=(dZ g g.len).High))) (λ n i hi=>by
  rw[ze3,decide_eq_true (by omega),cond_true,bC (by omega),bC (by omega),bQ (by omega),Int.toNat_natCast];rfl) (λ n=>by
  rw[ze3,show g.len - 1+1=g.len by omega,decide_eq_false (by omega)];rfl) E.N (by have:=N;omega)
 rw[show (0+1:Nat)=1 from rfl,We] at this;exact this
def Yn (l:Line) (z:Int):Int:=l.Start.Num * l.dM.bI+l.dM.Num * z * l.Start.bI
def Ju (l:Line):Int:=l.Start.bI * l.dM.bI
theorem Yo {s:straight}(S:rV s):(-2000000<=(dQ s).dM.Num/\(dQ s).dM.Num<=2000000)/\(-200000000000<=(dQ s).Start.Num/\(dQ s).Start.Num<=200000000000)/\(0 < (dQ s).dM.bI/\(dQ s).dM.bI<=100000)/\0 < (dQ s).Start.bI/\(dQ s).Start.bI<=100000:=by
 have h1:=S.1;have h2:=S.2.1;have h3:=S.2.2;have p:0 < s.den:=by omega
 have a1:=wI (num:=s.bT) p;have a2:=BP (num:=s.bT) p;have a3:=gW (num:=s.bT) p;have b1:=wI (num:=s.start) p;have b2:=BP (num:=s.start) p;have b3:=gW (num:=s.start) p;show (_<=(red s.bT s.den).Num/\(red s.bT s.den).Num<=_)/\(_<=(red s.start s.den).Num/\(red s.start s.den).Num<=_)/\(_ < (red s.bT s.den).bI/\(red s.bT s.den).bI<=_)/\_ < (red s.start s.den).bI/\(red s.start s.den).bI<=_;omega
theorem Ip {s:straight}(S:rV s) (z:Int):fH s z * Ju (dQ s)=Yn (dQ s) z * s.den:=by
  have p:0 < s.den:=by have:=S.2.2;omega
  have a1:=lM (num:=s.bT) p;have a2:=kF (num:=s.bT) p;have b1:=lM (num:=s.start) p;have b2:=kF (num:=s.start) p;unfold fH Ju Yn;show (s.start+s.bT * z) * ((red s.start s.den).bI * (red s.bT s.den).bI)=((red s.start s.den).Num * (red s.bT s.den).bI+(red s.bT s.den).Num * z * (red s.start s.den).bI) * s.den;generalize (Int.gcd s.bT s.den:Int)=G at a1 a2;generalize (Int.gcd s.start s.den:Int)=K at b1 b2;generalize (red s.bT s.den).Num=x at a1 ⊢;generalize (red s.bT s.den).bI=q at a2 ⊢;generalize (red s.start s.den).Num=u at b1 ⊢;generalize (red s.start s.den).bI=v at b2 ⊢;rw[Int.add_mul,Int.add_mul];have e1:s.start * (v * q)=u * q * s.den:=by
    calc s.start * (v * q) = K * u * (v * q) := by rw [b1]
      _=u * q * (K * v):=by ac_rfl
      _=u * q * s.den:=by rw[b2]
  have e2:s.bT * z * (v * q)=x * z * v * s.den:=by
    calc s.bT * z * (v * q) = G * x * z * (v * q) := by rw [a1]
      _=x * z * v * (G * q):=by ac_rfl
      _=x * z * v * s.den:=by rw[a2]
  rw[e1,e2]
theorem Oj {s:straight}(S:rV s):0 < Ju (dQ s):=by
 have:=Yo S;exact Int.mul_pos this.2.2.2.1 this.2.2.1.1
theorem SC {s:straight}(S:rV s) (z n:Int):(n * Ju (dQ s)<=Yn (dQ s) z↔n * s.den<=fH s z)/\(Yn (dQ s) z<=n * Ju (dQ s)↔fH s z<=n * s.den):=by
 have p:0 < s.den:=by have:=S.2.2;omega
 have d:=Oj S;have c:=Ip S z;generalize Ju (dQ s)=D at c d ⊢;generalize Yn (dQ s) z=M at c ⊢;generalize fH s z=X at c ⊢;have e:n * D * s.den=n * s.den * D:=by ac_rfl
 constructor
 ·constructor
  ·intro h;have:=Int.mul_le_mul_of_nonneg_right h (Int.le_of_lt p);refine Int.le_of_mul_le_mul_right (?_:n * s.den * D<=X * D) d;omega
  ·intro h;have:=Int.mul_le_mul_of_nonneg_right h (Int.le_of_lt d);refine Int.le_of_mul_le_mul_right (?_:n * D * s.den<=M * s.den) p;omega
 ·constructor
  ·intro h;have:=Int.mul_le_mul_of_nonneg_right h (Int.le_of_lt p);refine Int.le_of_mul_le_mul_right (?_:X * D<=n * s.den * D) d;omega
  ·intro h;have:=Int.mul_le_mul_of_nonneg_right h (Int.le_of_lt d);refine Int.le_of_mul_le_mul_right (?_:M * s.den<=n * D * s.den) p;omega
abbrev zle (C:Line×Int->ae (Int×Int)):Prop:=∀ s z,rV s->-200000<=z/\z<=200000->C (dQ s,z)=.ok (Yn (dQ s) z,Ju (dQ s))
theorem zMc {E:zaw} : zle (zj8 E):=λ s z S hz=>ae.ext λ k=>by
 obtain⟨h1,h2,h3,h4⟩:=Yo S;have m1:=l9 h2.1 h2.2 (Int.le_of_lt h3.1) h3.2;have m2 : -400000000000<=(dQ s).dM.Num * z/\(dQ s).dM.Num * z<=400000000000:=by
  rcases Int.lt_or_le z 0 with h | h
  ·have := l9 (y := -z) (Y := 200000) h1.1 h1.2 (by omega) (by omega);rw[Int.mul_neg] at this;omega
  ·have := l9 (y := z) (Y := 200000) h1.1 h1.2 h (by omega);omega
 have m3:=l9 m2.1 m2.2 (Int.le_of_lt h4.1) h4.2;have m4:=l9 (x:=(dQ s).Start.bI) (X:=100000) (by omega) h4.2 (Int.le_of_lt h3.1) h3.2;rw[e166,bi,aY (x:=(dQ s).Start.Num * (dQ s).dM.bI) (by omega) (by omega),aY (x:=(dQ s).dM.Num * z) (by omega) (by omega),aY (x:=(dQ s).dM.Num * z * (dQ s).Start.bI) (by omega) (by omega),aY (by omega) (by omega),aY (by omega) (by omega)];rfl
abbrev zr4 (C:Line×aB->ae Bool):Prop:=∀ s g,rV s->fK g->C (dQ s,g)=.ok (jP s g)
theorem zMd {E:Z9}(Vo:zle E.OV):zr4 (zjz E):=λ s g S G=>ae.ext λ k=>by
 obtain⟨h1,h2,h3,h4⟩:=Yo S;have m4:=l9 (x:=(dQ s).Start.bI) (X:=100000) (by omega) h4.2 (Int.le_of_lt h3.1) h3.2;have d:=Oj S;have m5:Ju (dQ s)<=10000000000:=m4.2;have l1:=l9 (mX G).1 (mX G).2 (Int.le_of_lt d) m5;have l2:=l9 (oQ G).1 (oQ G).2 (Int.le_of_lt d) m5;rw[e116,Vo s g.Z S (by have:=G.1;omega),bi,bi];show cond (decide (aO (g.Low * Ju (dQ s))<=Yn (dQ s) g.Z)) (k (decide (Yn (dQ s) g.Z<=aO (g.High * Ju (dQ s))))) (k false)=_;rw[aY (x:=g.Low * Ju (dQ s)) (by omega) (by omega),aY (x:=g.High * Ju (dQ s)) (by omega) (by omega),kc k];congr 1;unfold jP;have a:=(SC S g.Z g.Low).1;have b:=(SC S g.Z g.High).2;rw[Bool.eq_iff_iff,decide_eq_true_eq,<- a,<- b];by_cases h:g.Low * Ju (dQ s)<=Yn (dQ s) g.Z <;> simp[h]
abbrev Q55 (C:Int×Int×Int×Int->ae Line):Prop:=∀ z p y q,(0<=z/\z<=100000)->(0<=y/\y<=100000)->(-1000000<=p/\p<=1000000)->(-1000000<=q/\q<=1000000)->z ≠ y->C (z,p,y,q)=.ok (dQ (zU z p y q))
theorem s55 {E:E55}(Vg:Ij E.O7):Q55 (F55 E):=λ z p y q hz hy hp hq hn=>ae.ext λ k=>by
 have b1:=l9 hp.1 hp.2 hy.1 hy.2;have b2:=l9 hq.1 hq.2 hz.1 hz.2;rw[e55,bi];unfold zU;by_cases h:z > y
 ·rw[decide_eq_true (show y < z from h),cond_true,if_pos h,znm,aY (x:=q * z) (by omega) (by omega),aY (x:=p * y) (by omega) (by omega),aY (x:=p - q) (by omega) (by omega),aY (x:=z - y) (by omega) (by omega),aY (x:=q * z - p * y) (by omega) (by omega),
   Vg _ _ (by omega) (by omega) (by omega) (by omega),bi,Vg _ _ (by omega) (by omega) (by omega) (by omega),bi];rfl
 ·rw[decide_eq_false (show ¬ y < z from h),cond_false,if_neg h,znm,aY (x:=p * y) (by omega) (by omega),aY (x:=q * z) (by omega) (by omega),aY (x:=q - p) (by omega) (by omega),aY (x:=y - z) (by omega) (by omega),aY (x:=p * y - q * z) (by omega) (by omega),
   Vg _ _ (by omega) (by omega) (by omega) (by omega),bi,Vg _ _ (by omega) (by omega) (by omega) (by omega),bi];rfl
abbrev zr5 (C:aB×Int->ae Int):Prop:=∀ g e,C (g,e)=.ok (cond (e == 0) g.Low g.High)
theorem zMe {E:za1} : zr5 (zkT E):=λ g e=>ae.ext λ k=>by rw[e247,bi,kc k]
theorem zzD {α:Type} [bG α] [qp α] (a b:α):QR [a,b] 0=a:=by
 show (bG.dec (DD (shp 8) (bG.enc a) (bG.enc a))).1=a;rw[jT (pY 8) (bG.sm _ _),qp.de]
theorem zzE {α:Type} [bG α] [qp α] (a b:α):QR [a,b] 1=b:=by
 show (bG.dec (DD (shp 8) (bG.enc a) (bG.enc b))).1=b;rw[jT (pY 8) (bG.sm _ _),qp.de]
theorem SE {l:Sl aS}{p:Int}(h:ou l p=true){i:Nat}(hi:i < l.len):(0<=(l.get i).dI.Low/\(l.get i).dI.Low<=(l.get i).dI.High/\(l.get i).dI.High<=aO (p.tdiv 2)) /\
  (i=0\/((l.get (i - 1)).Time < (l.get i).Time/\(l.get (i - 1)).dI.Low<=(l.get i).dI.Low)):=by
 simp only[ou,fA,dA] at h;have:=h.1 i hi;simp only[stB,inB,fA,Bool.or_eq_true,decide_eq_true_eq] at this;exact⟨⟨this.1.1.2.1,this.1.1.2.2,this.1.2⟩,this.2.imp id λ x=>⟨x.1.1,x.1.2⟩⟩
theorem Ol {l : Sl aS} {p : Int} (h : ou l p = true) : ∀ {j : Nat}, j < l.len → ∀ {i : Nat}, i < j → (l.get i).Time < (l.get j).Time ∧ (l.get i).dI.Low ≤ (l.get j).dI.Low
  | 0,_,_,hi=>absurd hi (by omega)
  | j+1,hj,i,hi=>by
    have:=(SE h hj).2;rw[Nat.add_sub_cancel] at this;rcases this with h0 | ⟨a,b⟩
    · omega
    · by_cases e : i = j
      · rw[e];exact⟨a,b⟩
      · obtain ⟨c, d⟩ := Ol h (j := j) (by omega) (i := i) (by omega);omega
theorem SG (l : Sl aS) (t : Int) : ∀ n, qZ l t n = 0 ∨ ∃ i, i < n ∧ (l.get i).Time ≤ t ∧ qZ l t n = (l.get i).dI.Low
  | 0=>.inl rfl
  | n+1=>by
    simp only[qZ];by_cases h:(l.get n).Time<=t
    · rw[decide_eq_true h];exact .inr ⟨n,by omega,h,rfl⟩
    · rw [decide_eq_false h];rcases SG l t n with e | ⟨i,a,b,c⟩
      · exact .inl e
      · exact .inr ⟨i,by omega,b,c⟩
theorem SH (l : Sl aS) (t z : Int) : ∀ d, d ≤ l.len → vO l t z d = z ∨ ∃ j, j < l.len ∧ t ≤ (l.get j).Time ∧ vO l t z d = (l.get j).dI.High
  | 0,_=>.inl rfl
  | d+1,hd=>by
    simp only[vO];by_cases h:(l.get (l.len - 1 - d)).Time >= t
    · rw[decide_eq_true h];exact .inr ⟨l.len - 1 - d,by omega,h,rfl⟩
    · rw [decide_eq_false h];exact SH l t z d (by omega)
theorem zlf {p:ai}(hp:Q4 p) (h:ou p.aS p.aT=true){t:Int}(ht:0<=t/\t<=1000000):0<=(qA p t).1/\(qA p t).1<=(qA p t).2/\(qA p t).2<=p.aT:=by
 obtain⟨_,_,_,_,hpi,_,_,_,_,hj,_⟩:=hp;have e1:aO (t - p.dH)=t - p.dH:=aY (by omega) (by omega);have e2:aO (t+p.dH)=t+p.dH:=aY (by omega) (by omega);have e4:0<=p.aT.tdiv 2/\p.aT.tdiv 2<=p.aT:=by
  rw[Int.tdiv_eq_ediv_of_nonneg (by omega)];omega
 have e3:aO (p.aT.tdiv 2)=p.aT.tdiv 2:=aY (by omega) (by omega);have a:=SG p.aS (t - p.dH) p.aS.len;have b:=SH p.aS (t+p.dH) (p.aT.tdiv 2) p.aS.len (iM _);unfold qA;rw[e1,e2,e3];show 0<=qZ _ _ _/\qZ _ _ _<=vO _ _ _ _/\vO _ _ _ _<=_;rcases a with a | ⟨i,a1,a2,a3⟩ <;> rcases b with b | ⟨j,b1,b2,b3⟩
 ·rw[a,b];omega
 ·rw[a,b3];have:=(SE h b1).1;rw[e3] at this;omega
 ·rw[a3,b];have:=(SE h a1).1;rw[e3] at this;omega
 ·rw [a3, b3];have x:=(SE h a1).1;have y:=(SE h b1).1;rw[e3] at x y;by_cases e:i=j
  ·subst e;omega
  ·have hij:i < j:=by
    rcases Nat.lt_or_ge i j with h1 | h1
    ·exact h1
    ·have:=(Ol h a1 (i:=j) (by omega)).1;omega
   have:=(Ol h b1 hij).2;omega
theorem Om {p:ai}(hp:Q4 p){a b:Int}(h1:a<=b) (h2:p.First - p.aT - p.dE<=a) (h3:b<=p.First+(p.bM+1) * p.aT+p.dE):fK (gate p a b):=by
 obtain⟨_,_,hz,hf,hpi,hst,hsp,ho,_,_,_,hl,hr⟩:=hp;obtain⟨e1,e2,e3⟩:=zyD hf hpi hst hsp ho;obtain⟨q1,q2⟩:=tq (a:=p.bM+1) (b:=p.aT) (by omega) (by omega);refine⟨hz,?_⟩;show _<=aO (a+p.bn.Low)/\aO (a+p.bn.Low)<=aO (b+p.bn.High)/\aO (b+p.bn.High)<=_;rw[aY (x:=a+p.bn.Low) (by omega) (by omega),aY (x:=b+p.bn.High) (by omega) (by omega)];omega
theorem zf3 {p:ai}{a b c d:Int}(h1:fK (gate p a b)) (h2:fK (gate p c d)) (h:(gate p a b).Low<=(gate p c d).High):fK ⟨p.Z,(gate p a b).Low,(gate p c d).High⟩ :=
 ⟨h1.1,h1.2.1,h,h2.2.2.2⟩
theorem zzF {b:Bool}{x y:Sl aB}(h1:∀ i,i < x.len->fK (x.get i)) (h2:∀ i,i < y.len->fK (y.get i)) {i:Nat}(hi:i < (cond b x y).len):fK ((cond b x y).get i):=by
 cases b
 ·exact h2 i hi
 ·exact h1 i hi
theorem zr6 {p:ai}(hp:Q4 p) (hb:ZX p=true){h:bz}(hh:hpB p h=true){i:Nat}(hi:i < (gaP p h).len):fK ((gaP p h).get i):=by
 simp only[hpB,inB,fA,decide_eq_true_eq] at hh;obtain⟨⟨⟨⟨⟨hc,hm⟩,_⟩,_⟩,_⟩,hk⟩:=hh;obtain⟨hki,_,hz,hf,hpi,hst,hsp,ho,_,hj,_,hl,hr⟩:=hp;have hp':Q4 p:=zyE hb;have q0:=tq (a:=h.Channel) (b:=p.aT) (by omega) (by omega);have q1:=tq (a:=h.Channel+1) (b:=p.aT) (by omega) (by omega);have q2:=tq (a:=h.Channel+h.iT - 1) (b:=p.aT) (by omega) (by omega);have q3:=tq (a:=p.bM+1) (b:=p.aT) (by omega) (by omega);have m0:h.Channel * p.aT+p.aT<=(p.bM+1) * p.aT:=by
  have:=Int.mul_le_mul_of_nonneg_right (show h.Channel+1<=p.bM+1 by omega) (show 0<=p.aT by omega);rw[Int.add_mul,Int.one_mul] at this;omega
 have m1:(h.Channel+1) * p.aT<=(p.bM+1) * p.aT:=Int.mul_le_mul_of_nonneg_right (by omega) (by omega);revert hi;unfold gaP;cases hk2:p.Kind != 2 with
 | true =>
  simp only[cond_true]
  rw[aY (x:=h.Channel+h.iT) (by omega) (by omega),aY (x:=h.Channel+h.iT - 1) (by omega) (by omega),aY (x:=(h.Channel+h.iT - 1) * p.aT) (by omega) (by omega),aY (x:=p.First+(h.Channel+h.iT - 1) * p.aT) (by omega) (by omega),aY (x:=p.First+(h.Channel+h.iT - 1) * p.aT - p.dE) (by omega) (by omega),
   aY (x:=h.Channel+1) (by omega) (by omega),aY (x:=(h.Channel+1) * p.aT) (by omega) (by omega),aY (x:=p.First+(h.Channel+1) * p.aT) (by omega) (by omega),aY (x:=p.First+(h.Channel+1) * p.aT+p.dE) (by omega) (by omega)]
  by_cases c:p.First+(h.Channel+h.iT - 1) * p.aT - p.dE > p.First+(h.Channel+1) * p.aT+p.dE
  ·rw[decide_eq_true c];intro hi;exact absurd hi (O0 _)
  ·rw [decide_eq_false c];intro hi;exact Om hp' (by omega) (by omega) (by omega)
 | false =>
  have hk3:p.Kind=2:=by simpa using hk2
  have hd:0<=h.aS/\h.aS<=1000000:=by
   simp only[knB,hk3,beq_self_eq_true,cond_true,inB,fA,decide_eq_true_eq] at hk;exact hk.2
  have hs:ou p.aS p.aT=true:=by
   simp only[ZX,fA,hk3,beq_self_eq_true,cond_true] at hb;exact hb.1.1.2
  obtain⟨r1,r2,r3⟩:=zlf hp' hs hd;simp only[cond_false];generalize qA p h.aS=R at r1 r2 r3 ⊢;rw[aY (x:=h.Channel * p.aT) (by omega) (by omega),aY (x:=p.First+h.Channel * p.aT) (by omega) (by omega),aY (x:=p.First+h.Channel * p.aT - R.2) (by omega) (by omega),aY (x:=p.First+h.Channel * p.aT - R.1) (by omega) (by omega),aY (x:=p.First+h.Channel * p.aT+R.1) (by omega) (by omega),aY (x:=p.First+h.Channel * p.aT+R.2) (by omega) (by omega)];have g1:fK (gate p (p.First+h.Channel * p.aT - R.2) (p.First+h.Channel * p.aT - R.1)):=Om hp' (by omega) (by omega) (by omega);have g2:fK (gate p (p.First+h.Channel * p.aT+R.1) (p.First+h.Channel * p.aT+R.2)):=Om hp' (by omega) (by omega) (by omega);have g3:(gate p (p.First+h.Channel * p.aT - R.2) (p.First+h.Channel * p.aT - R.1)).Low<=(gate p (p.First+h.Channel * p.aT+R.1) (p.First+h.Channel * p.aT+R.2)).High:=by
   show aO _<=aO _;rw[aY (by omega) (by omega),aY (by omega) (by omega)];omega
  intro hi;refine zzF (λ _ _=>zf3 g1 g2 g3) (λ i hi=>?_) hi;have hi:i < 2:=hi;rcases (show i=0\/i=1 by omega) with e | e <;> subst e
  ·show fK (QR _ 0);rw[zzD];exact g1
  ·show fK (QR _ 1);rw[zzE];exact g2
theorem zf4 {s:ak}(hs:dW s=true){h:bz}(hh:jR s h=true){i:Nat}(hi:i < (tu s h).len):fK ((tu s h).get i):=by
 have hp:=Hm hh;have h1:h.ai.toNat < s.af.len:=by omega
 simp only[jR,fA,decide_eq_true_eq] at hh;exact zr6 (ni hs h1) (Hl hs h1) hh.2 hi
abbrev jd:=List (Int×Int)
section
variable (ag:jd->Bool) (us:jd->Int->Bool) (sd:Nat->jd)
def gr : Nat → jd → Nat → List jd
  | 0,_,_=>[]
  | f+1,c,i=>(sd i).flatMap λ p=>cond (us c p.1 || !ag (c ++ [p])) [] ((c ++ [p]) :: gr f (c ++ [p]) (p.1.toNat+1))
def Oo : Nat → List jd → jd → Nat → List jd
  | 0,out,_,_=>out
  | f+1,out,c,i=>(sd i).foldl (λ out p=>cond (us c p.1 || (decide (2000 < out.length) || !ag (c ++ [p]))) out (Oo f (out ++ [c ++ [p]]) (c ++ [p]) (p.1.toNat+1))) out
inductive Ch : jd → Nat → Prop
  | nil:Ch [] 0
  | snoc {c:jd} {i:Nat} {p:Int×Int} : Ch c i->p∈sd i->us c p.1=false->ag (c ++ [p])=true->Ch (c ++ [p]) (p.1.toNat+1)
end
section
variable {ag:jd->Bool}{us:jd->Int->Bool}{sd:Nat->jd}
theorem Oq : ∀ {f c i x}, x ∈ gr ag us sd f c i → ∃ p e, p ∈ sd i ∧ x = c ++ p :: e
  | f+1,c,i,x,h=>by
    simp only[gr,jA] at h;obtain⟨p,hp,h⟩:=h;cases hc:us c p.1 || !ag (c ++ [p]) with
    | true=>rw[hc] at h;cases h
    | false =>
      rw[hc] at h;rcases jm.1 h with h | h
      · exact⟨p,[],hp,h⟩
      · obtain ⟨q, e, _, h⟩ := Oq h;exact⟨p,q :: e,hp,by rw[h];simp⟩
theorem znA : ∀ {f c i x}, Ch ag us sd c i → x ∈ gr ag us sd f c i → ∃ j, Ch ag us sd x j
  | f+1,c,i,x,hc,h=>by
    simp only[gr,jA] at h;obtain⟨p,hp,h⟩:=h;cases hu:us c p.1 || !ag (c ++ [p]) with
    | true=>rw[hu] at h;cases h
    | false =>
      rw[hu] at h;simp only[Bool.or_eq_false_iff,Bool.not_eq_false'] at hu;have hn:=Ch.snoc hc hp hu.1 hu.2;rcases jm.1 h with h | h
      · exact⟨_,h ▸ hn⟩
      · exact znA hn h
theorem zzG {f:Nat} : ∀ {c j},Ch ag us sd c j->c.length<=f->(c=[]\/c∈gr ag us sd f [] 0)/\∀ x∈gr ag us sd (f - c.length) c j,x∈gr ag us sd f [] 0:=by
 intro c j h
 induction h with
 | nil=>intro _;exact⟨.inl rfl,λ x hx=>hx⟩
 | @snoc c i p hc hp hu ha ih =>
  intro hl;rw[O8] at hl ⊢;simp only[Ey,TK] at hl ⊢;obtain⟨_,ih⟩:=ih (by omega);have e:gr ag us sd (f - c.length) c i=(sd i).flatMap λ p=>cond (us c p.1 || !ag (c ++ [p])) [] ((c ++ [p]) :: gr ag us sd (f - (c.length+1)) (c ++ [p]) (p.1.toNat+1)):=by
   rw[show f - c.length=(f - (c.length+1))+1 by omega,gr]
  have hin:∀ y∈(c ++ [p]) :: gr ag us sd (f - (c.length+1)) (c ++ [p]) (p.1.toNat+1),y∈gr ag us sd (f - c.length) c i:=λ y hy=>by
   rw[e,jA];exact⟨p,hp,by rw[hu,ha];exact hy⟩
  exact⟨.inr (ih _ (hin _ jS)),λ x hx=>ih _ (hin _ (jc _ hx))⟩
theorem Iq (hs : ∀ i, (sd i).Nodup) : ∀ f c i, (gr ag us sd f c i).Nodup
  | 0,_,_=>List.Pairwise.nil
  | f+1,c,i=>by
    rw[gr];unfold List.Nodup;rw[List.pairwise_flatMap];have pre:∀ p,∀ x∈cond (us c p.1 || !ag (c ++ [p])) [] ((c ++ [p]) :: gr ag us sd f (c ++ [p]) (p.1.toNat+1)),∃ e,x=c ++ p :: e:=λ p x hx=>by
      cases hu:us c p.1 || !ag (c ++ [p]) with
      | true=>rw[hu] at hx;cases hx
      | false =>
        rw[hu] at hx;rcases jm.1 hx with h | h
        · exact⟨[],h⟩
        · obtain ⟨q, e, _, h⟩ := Oq h;exact⟨q :: e,by rw[h];simp⟩
    refine⟨λ p _=>?_,(hs i).imp_of_mem fun {p q} _ _ hpq x hx y hy e=>?_⟩
    · cases us c p.1 || !ag (c ++ [p]) with
      | true=>exact List.Pairwise.nil
      | false =>
        refine List.Pairwise.cons (λ y hy e=>?_) (Iq hs f _ _);obtain⟨q,r,_,h⟩:=Oq hy;rw[<- e] at h;have:=congrArg List.length h;simp at this
    · obtain ⟨a, ha⟩ := pre p x hx;obtain⟨b,hb⟩:=pre q y hy;rw[ha,hb] at e;have:=List.append_cancel_left e;rw[Cf] at this;exact hpq this.1
theorem zf5 : ∀ {f out c i}, (out.length ≤ (Oo ag us sd f out c i).length) ∧ ((Oo ag us sd f out c i).length ≤ 2000 → Oo ag us sd f out c i = out ++ gr ag us sd f c i)
  | 0,out,c,i=>⟨iM _,λ _=>by simp[Oo,gr]⟩
  | f+1,out,c,i=>by
    simp only[Oo,gr];generalize sd i=l
    induction l generalizing out with
    | nil=>exact⟨iM _,λ _=>by simp⟩
    | cons p l ih =>
      rw[List.foldl_cons,lT];cases hu:us c p.1 || !ag (c ++ [p]) with
      | true =>
        have:(us c p.1 || (decide (2000 < out.length) || !ag (c ++ [p])))=true:=by
          revert hu;cases us c p.1 <;> cases ag (c ++ [p]) <;> simp
        rw[this];exact ih out
      | false =>
        have:(us c p.1 || (decide (2000 < out.length) || !ag (c ++ [p])))=decide (2000 < out.length):=by
          revert hu;cases us c p.1 <;> cases ag (c ++ [p]) <;> simp
        rw[this,cond_false];by_cases h:2000 < out.length
        · rw [decide_eq_true h];obtain⟨a,_⟩:=ih out;exact⟨a,λ h2=>by have:_<=2000:=h2;rw[cond_true] at this;omega⟩
        · rw [decide_eq_false h, cond_false];obtain⟨a,b⟩:=zf5 (f:=f) (out:=out ++ [c ++ [p]]) (c:=c ++ [p]) (i:=p.1.toNat+1);obtain⟨a2,b2⟩:=ih (Oo ag us sd f (out ++ [c ++ [p]]) (c ++ [p]) (p.1.toNat+1));rw[O8] at a;refine⟨by omega,λ h2=>?_⟩;rw[b2 h2,b (by omega)];simp
theorem Yp : ∀ {f out c i x}, Ch ag us sd c i → x ∈ Oo ag us sd f out c i → x ∈ out ∨ ∃ j, Ch ag us sd x j
  | 0,out,c,i,x,_,h=>.inl h
  | f+1,out,c,i,x,hc,h=>by
    simp only[Oo] at h;have key:∀ (l:jd) (out:List jd),(∀ p∈l,p∈sd i)->x∈l.foldl (λ out p=>cond (us c p.1 || (decide (2000 < out.length) || !ag (c ++ [p]))) out (Oo ag us sd f (out ++ [c ++ [p]]) (c ++ [p]) (p.1.toNat+1))) out->x∈out\/∃ j,Ch ag us sd x j:=by
      intro l
      induction l with
      | nil=>intro out _ h;exact .inl h
      | cons p l ih =>
        intro out hp h;rw[List.foldl_cons] at h;have ih:=ih _ (λ q hq=>hp q (jc _ hq)) h;rcases ih with ih | ih
        · cases hu:us c p.1 || (decide (2000 < out.length) || !ag (c ++ [p])) with
          | true=>rw[hu] at ih;exact .inl ih
          | false =>
            rw[hu] at ih;simp only[Bool.or_eq_false_iff,Bool.not_eq_false'] at hu;have hn:=Ch.snoc hc (hp p jS) hu.1 hu.2.2;rcases Yp hn ih with h | h
            · rcases dL.1 h with h | h
              · exact .inl h
              · rw[jQ.1 h];exact .inr ⟨_,hn⟩
            · exact .inr h
        · exact .inr ih
    exact key _ _ (λ _ h=>h) h
end
theorem zr7 {α : Type} {F : List α} (len : α → Nat) (sub : α → α → Prop) (refl : ∀ a, sub a a) (tr : ∀ a b c, sub a b → sub b c → sub a c) (B : Nat) (hB : ∀ a ∈ F, len a ≤ B) :
  ∀ a∈F,∃ m∈F,sub a m/\∀ x∈F,¬ (len m < len x/\sub m x):=by
 have key:∀ d a,a∈F->B - len a<=d->∃ m∈F,sub a m/\∀ x∈F,¬ (len m < len x/\sub m x):=by
  intro d
  induction d with
  | zero =>
   intro a ha hd;exact⟨a,ha,refl a,λ x hx h=>by have:=hB x hx;omega⟩
  | succ d ih =>
   intro a ha hd;by_cases h:∃ x∈F,len a < len x/\sub a x
   ·obtain ⟨x, hx, h1, h2⟩ := h;have:=hB x hx;obtain⟨m,hm,h3,h4⟩:=ih x hx (by omega);exact⟨m,hm,tr _ _ _ h2 h3,h4⟩
   ·exact⟨a,ha,refl a,λ x hx h2=>h ⟨x,hx,h2⟩⟩
 exact λ a ha=>key _ a ha (iM _)
def iy (t:aj):jd:=(List.range t.Hits.len).map λ i=>(t.Hits.get i,t.bD.get i)
theorem nC (t:aj):(iy t).length=t.Hits.len:=by simp[iy]
theorem Ot {t:aj}{i:Nat}(h:i < t.Hits.len):(iy t)[i]? = some (t.Hits.get i,t.bD.get i):=by
 simp[iy,List.getElem?_range h]
def O6 (x:Int) (t:aj):Prop:=t.View=x/\t.bD.len=t.Hits.len
def vW (l:Sl bz) (c:jd) (i:Int):Bool:=c.any λ q=>(l.get q.1.toNat).ai == (l.get i.toNat).ai
def En (s:ak) (l:Sl bz) (x:Int) (i:Nat):jd:=sdL s l x (l.len - i) i
theorem zX {i : Int} {y : Int × Int} : ∀ {d k}, y ∈ XY i d k ↔ y.1 = i ∧ (k : Int) ≤ y.2 ∧ y.2 < ((k + d : Nat) : Int)
  | 0,k=>by
    refine⟨λ h=>(by cases h),λ h=>?_⟩;omega
  | d+1,k=>by
    rw[XY,jm,zX];constructor
    · rintro (h | h)
      · rw[h];show i=i/\(k:Int)<=(k:Int)/\(k:Int) < _;omega
      · omega
    · intro h;by_cases e:y.2=(k:Int)
      · exact .inl (Prod.ext h.1 e)
      · exact .inr (by omega)
theorem Ou {s : ak} {l : Sl bz} {x : Int} {y : Int × Int} : ∀ {d i}, y ∈ sdL s l x d i ↔ ((i : Int) ≤ y.1 ∧ y.1 < ((i + d : Nat) : Int)) ∧ O4 s l y.1.toNat = x ∧ 0 ≤ y.2 ∧ y.2 < (vP s l y.1.toNat : Int)
  | 0,i=>⟨λ h=>(by cases h),λ h=>by omega⟩
  | d+1,i=>by
    rw[sdL,dL,Ou];constructor
    · rintro (h | h)
      · cases hv:O4 s l i == x with
        | false=>rw[hv] at h;cases h
        | true =>
          rw[hv,cond_true,zX] at h;rw[h.1,Int.toNat_natCast];exact⟨by omega,eq_of_beq hv,by omega,by omega⟩
      · exact⟨by omega,h.2⟩
    · rintro ⟨h1, h2, h3, h4⟩;by_cases e:y.1=(i:Int)
      · refine .inl ?_;rw[e,Int.toNat_natCast] at h2 h4;rw[beq_iff_eq.2 h2,cond_true,zX];exact⟨e,by omega,by omega⟩
      · exact .inr ⟨by omega,h2,h3,h4⟩
theorem Ov {s:ak}{l:Sl bz}{x:Int}{y:Int×Int}{i:Nat}(hi:i<=l.len):y∈En s l x i↔((i:Int)<=y.1/\y.1 < (l.len:Int))/\O4 s l y.1.toNat=x/\0<=y.2/\y.2 < (vP s l y.1.toNat:Int):=by
 unfold En;rw[Ou,show i+(l.len - i)=l.len by omega]
theorem SI {s:ak}{l:Sl bz}{x:Int}{y:Int×Int}{i:Nat}(h:y∈En s l x i):i < l.len/\((i:Int)<=y.1/\y.1 < (l.len:Int))/\O4 s l y.1.toNat=x/\0<=y.2/\y.2 < (vP s l y.1.toNat:Int):=by
 by_cases hi:i<=l.len
 ·have:=(Ov hi).1 h;exact⟨by omega,this⟩
 ·unfold En at h;rw[show l.len - i=0 by omega] at h;cases h
theorem Ll (i : Int) : ∀ d k, (XY i d k).Nodup
  | 0,_=>List.Pairwise.nil
  | d+1,k=>by
    rw[XY];refine List.Pairwise.cons (λ y hy e=>?_) (Ll i d (k+1));have:=zX.1 hy;rw[<- e] at this;have:=this.2.1;simp only at this;omega
theorem Lm (s : ak) (l : Sl bz) (x : Int) : ∀ d i, (sdL s l x d i).Nodup
  | 0,_=>List.Pairwise.nil
  | d+1,i=>by
    rw[sdL];unfold List.Nodup;rw[List.pairwise_append];refine⟨?_,Lm s l x d (i+1),λ a ha b hb e=>?_⟩
    · cases O4 s l i == x
      · exact List.Pairwise.nil
      · exact Ll _ _ _
    · have h1:a.1=(i:Int):=by
        cases hv:O4 s l i == x with
        | false=>rw[hv] at ha;cases ha
        | true=>rw[hv,cond_true] at ha;exact (zX.1 ha).1
      have:=(Ou.1 hb).1;rw[<- e] at this;omega
structure Val (s : ak) (l : Sl bz) (x : Int) (c : jd) (j : Nat) : Prop where
  le:c.length<=j/\j<=l.len
  mem:∀ p∈c,(0<=p.1/\p.1 < (j:Int))/\O4 s l p.1.toNat=x/\0<=p.2/\p.2 < (vP s l p.1.toNat:Int)
  pw:c.Pairwise λ p q=>p.1 < q.1/\(l.get p.1.toNat).ai ≠ (l.get q.1.toNat).ai
theorem Val.snoc {s:ak}{l:Sl bz}{x:Int}{c:jd}{j:Nat}{p:Int×Int}(h:Val s l x c j) (hp:p∈En s l x j) (hu:vW l c p.1=false):Val s l x (c ++ [p]) (p.1.toNat+1):=by
 obtain⟨h1,h2,h3,h4⟩:=SI hp;have hle:=h.le;refine⟨by rw[O8];simp only[Ey,TK];omega,λ q hq=>?_,?_⟩
 ·rcases dL.1 hq with hq | hq
  ·have := h.mem q hq;exact⟨by omega,this.2⟩
  ·rw[jQ.1 hq];exact⟨by omega,h3,h4⟩
 ·rw [List.pairwise_append];refine⟨h.pw,List.pairwise_singleton _ _,λ a ha b hb=>?_⟩;rw[jQ.1 hb];have:=(h.mem a ha).1;refine⟨by omega,λ e=>?_⟩;unfold vW at hu;rw[List.any_eq_false] at hu;exact hu a ha (by simpa using e)
theorem Ir {ag:jd->Bool}{s:ak}{l:Sl bz}{x:Int}{c:jd}{j:Nat}(h:Ch ag (vW l) (En s l x) c j):Val s l x c j:=by
 induction h with
 | nil=>exact⟨⟨iM _,Nat.zero_le _⟩,(λ p h=>by cases h),List.Pairwise.nil⟩
 | snoc _ hp hu _ ih=>exact ih.snoc hp hu
theorem wK {t:aj}{c:jd}(hc:iy t=c){i:Nat}(hi:i < t.Hits.len):c[i]? = some (t.Hits.get i,t.bD.get i):=by rw[<- hc];exact Ot hi
theorem Eo {s:ak}{l:Sl bz}{x:Int}{t:aj}{c:jd}{j:Nat}(hx:vwB x=true) (ht:O6 x t) (hc:iy t=c) (h:Val s l x c j) (hn:c ≠ []):Z4 s l t=true:=by
 have hlen:c.length=t.Hits.len:=by rw[<- hc,nC]
 have hle:=h.le;have pw:=List.pairwise_iff_getElem.1 h.pw;have ge:∀ i (hi:i < t.Hits.len) (hi':i < c.length),c[i]=(t.Hits.get i,t.bD.get i):=λ i hi hi'=>by
  have:=wK hc hi;rw[yz hi'] at this;exact Option.some.inj this
 simp only[Z4,fA,decide_eq_true_eq,dA];refine⟨⟨⟨by rw[ht.1];exact hx,?_⟩,ht.2⟩,λ i hi=>?_⟩
 ·rcases Nat.eq_zero_or_pos t.Hits.len with h0 | h0
  ·rw[h0] at hlen;exact absurd (List.length_eq_zero_iff.1 hlen) hn
  ·exact h0
 ·have hi' : i < c.length := by omega
  have m:=h.mem c[i] (List.getElem_mem _);rw[ge i hi hi'] at m;simp only[chP,fA,Bool.or_eq_true,decide_eq_true_eq,inB,usB,dA,Bool.not_eq_true',decide_eq_false_iff_not];refine⟨⟨⟨⟨by simp only at m;omega,?_⟩,by rw[ht.1];exact m.2.1⟩,?_⟩,λ k hk=>?_⟩
  ·rcases Nat.eq_zero_or_pos i with h0 | h0
   ·exact .inl h0
   ·refine .inr ?_;have:=(pw (i - 1) i (by omega) hi' (by omega)).1;rw[ge i hi hi',ge (i - 1) (by omega) (by omega)] at this;exact this
  ·have := m.2.2;show 0<=t.bD.get i/\t.bD.get i<=((vP s l (t.Hits.get i).toNat:Nat):Int) - 1;simp only at this;omega
  ·have := (pw k i (by omega) hi' hk).2;rw[ge i hi hi',ge k (by omega) (by omega)] at this;exact this
def wU (s:ak) (l:Sl bz) (c:jd):Sl aB:=gw z0 (λ i=>(tu s (l.get ((c[i]?).getD (0,0)).1.toNat)).get ((c[i]?).getD (0,0)).2.toNat) c.length
theorem Ox {s:ak}{l:Sl bz}{t:aj}{c:jd}(hc:iy t=c):gtS s l t=wU s l c:=by
 unfold gtS wU;rw[<- hc,nC];exact Ho λ i hi=>by rw[Ot hi];rfl
theorem BU {s:ak}{l:Sl bz}{x:Int}{c:jd}{j:Nat}(he:Evt s l) (hl:l.len<=24) (h:Val s l x c j) (hn:c ≠ []):df (wU s l c):=by
 have e:(wU s l c).len=c.length:=BJ _ _ _;have hle:=h.le;refine⟨λ i hi=>?_,by
  rw[e];rcases Nat.eq_zero_or_pos c.length with h0 | h0
  ·exact absurd (List.length_eq_zero_iff.1 h0) hn
  ·exact h0,by omega⟩
 rw[e] at hi;show fK ((gw z0 _ c.length).get i);rw[NG hi,yz hi];have m:=h.mem c[i] (List.getElem_mem _);have m2:=m.2.2;show fK ((tu s (l.get (c[i]).1.toNat)).get (c[i]).2.toNat);refine zf4 he.se (dA.1 he.hi _ (by omega)) ?_;show _ < vP s l (c[i]).1.toNat;omega
def SK (g:Sl aB):Prop:=∀ k,k < g.len->(g.get k).Z=(g.get 0).Z
theorem BV {g:Sl aB} : eX g=true↔SK g:=by
 unfold eX SK;rw[dA];exact⟨λ h k hk=>eq_of_beq (h k hk),λ h k hk=>beq_iff_eq.2 (h k hk)⟩
theorem Iu {g : Sl aB} {i b : Nat} {x : straight} (hx : x ∈ yg (g.get i) (g.get b)) : ∀ m k, k ≤ b → b < k + m → x ∈ zV g i m k
  | 0,k,h1,h2=>by omega
  | m+1,k,h1,h2=>by
    show x∈yg (g.get i) (g.get k) ++ zV g i m (k+1);by_cases h:k=b
    · rw[h];exact List.mem_append_left _ hx
    · exact List.mem_append_right _ (Iu hx m (k+1) (by omega) (by omega))
theorem Iw {g : Sl aB} {a : Nat} {x : straight} (hx : x ∈ zV g a (g.len - (a + 1)) (a + 1)) : ∀ m i, i ≤ a → a < i + m → x ∈ JK g m i
  | 0,i,h1,h2=>by omega
  | m+1,i,h1,h2=>by
    show x∈zV g i (g.len - (i+1)) (i+1) ++ JK g m (i+1);by_cases h:i=a
    · rw[h];exact List.mem_append_left _ hx
    · exact List.mem_append_right _ (Iw hx m (i+1) (by omega) (by omega))
theorem zf6 {z p y q:Int}(h:z ≠ y):zU z p y q=zU y q z p:=by
 unfold zU;by_cases h1:z > y
 ·rw[if_pos h1,if_neg (show ¬ y > z by omega)]
 ·rw[if_neg h1,if_pos (show y > z by omega)]
theorem zzH {g:Sl aB}{a b:Nat}(ha:a < g.len) (hb:b < g.len) (hz:(g.get a).Z ≠ (g.get b).Z){p q:Int}(hp:p=(g.get a).Low\/p=(g.get a).High) (hq:q=(g.get b).Low\/q=(g.get b).High):zU (g.get a).Z p (g.get b).Z q∈cst g:=by
 have key:∀ {a b:Nat} {p q:Int},a < b->b < g.len->(g.get a).Z ≠ (g.get b).Z->(p=(g.get a).Low\/p=(g.get a).High)->(q=(g.get b).Low\/q=(g.get b).High)->zU (g.get a).Z p (g.get b).Z q∈cst g:=fun {a b p q} h1 h2 hz hp hq=>by
  refine Iw (Iu ?_ _ _ h1 (by omega)) _ 0 (Nat.zero_le _) (by omega);unfold yg;rw[if_neg hz];rcases hp with rfl | rfl <;> rcases hq with rfl | rfl <;> simp
 rcases Nat.lt_or_ge a b with h | h
 ·exact key h hb hz hp hq
 ·have : a ≠ b := fun e => hz (by rw [e]);rw[zf6 hz];exact key (by omega) ha (Ne.symm hz) hq hp
theorem zY {Q : Nat → Prop} {le : Nat → Nat → Prop} (tot : ∀ i j, Q i → Q j → le i j ∨ le j i) (tr : ∀ i j k, Q i → Q j → Q k → le i j → le j k → le i k) : ∀ n, (∃ k, k < n ∧ Q k) → ∃ k, k < n ∧ Q k ∧ ∀ j, j < n → Q j → le j k
  | 0,⟨k,h,_⟩=>absurd h (O0 k)
  | n+1,hex=>by
    by_cases h:∃ k,k < n/\Q k
    · obtain ⟨k, hk, qk, hm⟩ := zY tot tr n h;by_cases qn:Q n
      · rcases tot n k qn qk with h1 | h1
        · exact⟨k,by omega,qk,λ j hj qj=>by
            by_cases e:j=n
            · rw[e];exact h1
            · exact hm j (by omega) qj⟩
        · exact⟨n,by omega,qn,λ j hj qj=>by
            by_cases e:j=n
            · rw[e];rcases tot n n qn qn with h2 | h2 <;> exact h2
            · exact tr j k n qj qk qn (hm j (by omega) qj) h1⟩
      · exact⟨k,by omega,qk,λ j hj qj=>hm j (by
          have:j ≠ n:=λ e=>qn (e ▸ qj);omega) qj⟩
    · obtain ⟨k, hk, qk⟩ := hex;have e:k=n:=by
        rcases Nat.lt_or_ge k n with h1 | h1
        · exact absurd ⟨k,h1,qk⟩ h
        · omega
      subst e;exact⟨k,by omega,qk,λ j hj qj=>by
        by_cases e:j=k
        · rw[e];rcases tot k k qk qk with h2 | h2 <;> exact h2
        · exact absurd ⟨j,by omega,qj⟩ h⟩
def SL (a b:straight):Prop:=a.bT * b.den<=b.bT * a.den
theorem Oy {a b c:straight}(ha:0 < a.den) (hb:0 < b.den) (hc:0 < c.den) (h1:SL a b) (h2:SL b c):SL a c:=by
 unfold SL at *;have y1:=Int.mul_le_mul_of_nonneg_right h1 (Int.le_of_lt hc);have y2:=Int.mul_le_mul_of_nonneg_right h2 (Int.le_of_lt ha);refine Int.le_of_mul_le_mul_right (a:=b.den) ?_ hb
 grind
def lcS (g:Sl aB) (i:Nat) (p:Int) (k:Nat):straight:=zU (g.get i).Z p (g.get k).Z (if (g.get k).Z > (g.get i).Z then (g.get k).Low else (g.get k).High)
def ucS (g:Sl aB) (i:Nat) (p:Int) (k:Nat):straight:=zU (g.get i).Z p (g.get k).Z (if (g.get k).Z > (g.get i).Z then (g.get k).High else (g.get k).Low)
theorem Iy {g:Sl aB}{i k:Nat}{p:Int}{c:straight}(he:fH c (g.get i).Z=p * c.den) (hz:(g.get k).Z ≠ (g.get i).Z):jP c (g.get k)=true↔SL (lcS g i p k) c/\SL c (ucS g i p k):=by
 unfold jP SL lcS ucS zU;rw[decide_eq_true_eq];unfold fH at *;by_cases h:(g.get k).Z > (g.get i).Z
 ·simp only [if_pos h, if_neg (show ¬ (g.get i).Z > (g.get k).Z by omega)];constructor
  ·intro ⟨h1,h2⟩;constructor <;> grind
  ·intro ⟨h1,h2⟩;constructor <;> grind
 ·simp only [if_neg h, if_pos (show (g.get i).Z > (g.get k).Z by omega)];constructor
  ·intro ⟨h1,h2⟩;constructor <;> grind
  ·intro ⟨h1,h2⟩;constructor <;> grind
theorem Yq {z p y q:Int}(h:z ≠ y):0 < (zU z p y q).den:=by
 unfold zU;by_cases h1:z > y
 ·rw[if_pos h1];show 0 < z - y;omega
 ·rw[if_neg h1];show 0 < y - z;omega
theorem Lp {g:Sl aB}{i k:Nat}{p:Int}{s c:straight}(ps:0 < s.den) (pc:0 < c.den) (he:fH s (g.get i).Z=p * s.den) (hc:fH c (g.get i).Z=p * c.den) (hz:(g.get k).Z=(g.get i).Z) (h:jP s (g.get k)=true):jP c (g.get k)=true:=by
 unfold jP at *;rw[decide_eq_true_eq] at *;rw[hz,he] at h;rw[hz,hc];exact⟨Int.mul_le_mul_of_nonneg_right (Int.le_of_mul_le_mul_right h.1 ps) (Int.le_of_lt pc),Int.mul_le_mul_of_nonneg_right (Int.le_of_mul_le_mul_right h.2 ps) (Int.le_of_lt pc)⟩
theorem rot {g : Sl aB} {s : straight} (hd : 0 < s.den) (ha : vV g s) {i : Nat} (hi : i < g.len) {p : Int} (hp : p = (g.get i).Low ∨ p = (g.get i).High) (he : fH s (g.get i).Z = p * s.den) (hn : ∃ k, k < g.len ∧ (g.get k).Z ≠ (g.get i).Z) :
  (∃ c,Dx g c/\0 < c.den/\fH c (g.get i).Z=p * c.den/\SL c s)/\∃ c,Dx g c/\0 < c.den/\fH c (g.get i).Z=p * c.den/\SL s c:=by
 have ld:∀ k,(g.get k).Z ≠ (g.get i).Z->0 < (lcS g i p k).den:=λ k h=>Yq (Ne.symm h);have ud:∀ k,(g.get k).Z ≠ (g.get i).Z->0 < (ucS g i p k).den:=λ k h=>Yq (Ne.symm h);have le1:∀ k,(g.get k).Z ≠ (g.get i).Z->fH (lcS g i p k) (g.get i).Z=p * (lcS g i p k).den:=λ k h=>(V7 (Ne.symm h)).1;have ue1:∀ k,(g.get k).Z ≠ (g.get i).Z->fH (ucS g i p k) (g.get i).Z=p * (ucS g i p k).den:=λ k h=>(V7 (Ne.symm h)).1;have sp:∀ k,k < g.len->(g.get k).Z ≠ (g.get i).Z->SL (lcS g i p k) s/\SL s (ucS g i p k):=λ k hk hz=>(Iy he hz).1 (ha k hk);constructor
 ·obtain ⟨k, hk, qk, hm⟩ := zY (Q := fun k => (g.get k).Z ≠ (g.get i).Z) (le := fun a b => SL (lcS g i p a) (lcS g i p b)) (fun a b _ _ => Int.le_total _ _) (fun a b c ha hb hc h1 h2 => Oy (ld a ha) (ld b hb) (ld c hc) h1 h2) g.len hn;refine⟨lcS g i p k,⟨zzH hi hk (Ne.symm qk) hp (by split <;> simp),λ j hj=>?_⟩,ld k qk,le1 k qk,(sp k hk qk).1⟩;by_cases hz:(g.get j).Z=(g.get i).Z
  ·exact Lp hd (ld k qk) he (le1 k qk) hz (ha j hj)
  ·exact (Iy (le1 k qk) hz).2 ⟨hm j hj hz,Oy (ld k qk) hd (ud j hz) (sp k hk qk).1 (sp j hj hz).2⟩
 ·obtain ⟨k, hk, qk, hm⟩ := zY (Q := fun k => (g.get k).Z ≠ (g.get i).Z) (le := fun a b => SL (ucS g i p b) (ucS g i p a)) (fun a b _ _ => Int.le_total _ _) (fun a b c ha hb hc h1 h2 => Oy (ud c hc) (ud b hb) (ud a ha) h2 h1) g.len hn;refine⟨ucS g i p k,⟨zzH hi hk (Ne.symm qk) hp (by split <;> simp),λ j hj=>?_⟩,ud k qk,ue1 k qk,(sp k hk qk).2⟩;by_cases hz:(g.get j).Z=(g.get i).Z
  ·exact Lp hd (ud k qk) he (ue1 k qk) hz (ha j hj)
  ·exact (Iy (ue1 k qk) hz).2 ⟨Oy (ld j hz) hd (ud k qk) (sp j hj hz).1 (sp k hk qk).2,hm j hj hz⟩
theorem zr8 {g:Sl aB}(hl:1<=g.len){s:straight}(ha:vV g s):∃ d,0<=d/\vV g ⟨s.bT,s.start - d,s.den⟩/\∃ i,i < g.len/\fH ⟨s.bT,s.start - d,s.den⟩ (g.get i).Z=(g.get i).Low * s.den:=by
 obtain⟨k,hk,_,hm⟩:=zY (Q:=λ _=>True) (le:=λ a b=>fH s (g.get b).Z - (g.get b).Low * s.den<=fH s (g.get a).Z - (g.get a).Low * s.den) (λ a b _ _=>Int.le_total _ _) (λ a b c _ _ _ h1 h2=>Int.le_trans h2 h1) g.len ⟨0,hl,trivial⟩;have hk2:=uh ha hk;refine⟨fH s (g.get k).Z - (g.get k).Low * s.den,by omega,λ j hj=>decide_eq_true ?_,k,hk,by unfold fH;simp only;omega⟩;have h1:=hm j hj trivial;have h2:=uh ha hj;unfold fH at *;simp only;omega
theorem zr9 {g:Sl aB}(hl:1<=g.len){s:straight}(ha:vV g s):∃ d,0<=d/\vV g ⟨s.bT,s.start+d,s.den⟩/\∃ i,i < g.len/\fH ⟨s.bT,s.start+d,s.den⟩ (g.get i).Z=(g.get i).High * s.den:=by
 obtain⟨k,hk,_,hm⟩:=zY (Q:=λ _=>True) (le:=λ a b=>(g.get b).High * s.den - fH s (g.get b).Z<=(g.get a).High * s.den - fH s (g.get a).Z) (λ a b _ _=>Int.le_total _ _) (λ a b c _ _ _ h1 h2=>Int.le_trans h2 h1) g.len ⟨0,hl,trivial⟩;have hk2:=uh ha hk;refine⟨(g.get k).High * s.den - fH s (g.get k).Z,by omega,λ j hj=>decide_eq_true ?_,k,hk,by unfold fH;simp only;omega⟩;have h1:=hm j hj trivial;have h2:=uh ha hj;unfold fH at *;simp only;omega
theorem SN {g:Sl aB}(nf : ¬ SK g) (i:Nat) (hi:i < g.len):∃ k,k < g.len/\(g.get k).Z ≠ (g.get i).Z:=by
 by_cases h:∃ k,k < g.len/\(g.get k).Z ≠ (g.get i).Z
 ·exact h
 ·have all : ∀ k, k < g.len → (g.get k).Z = (g.get i).Z := fun k hk => Classical.byContradiction fun e => h ⟨k, hk, e⟩;exact absurd (λ k hk=>(all k hk).trans (all 0 (by omega)).symm) nf
theorem Yr {a b:straight}{z p h:Int}(ha:fH a z=p * a.den) (hb:fH b z=p * b.den) (hs:SL a b) (hh:z<=h):fH a h * b.den<=fH b h * a.den:=by
 have y:=Int.mul_le_mul_of_nonneg_right hs (show 0<=h - z by omega);unfold fH at *;have e1:a.start=p * a.den - a.bT * z:=by omega
 have e2:b.start=p * b.den - b.bT * z:=by omega
 rw[e1,e2];clear ha hb hs e1 e2
 grind
theorem Yt {a b:straight}{z p h:Int}(ha:fH a z=p * a.den) (hb:fH b z=p * b.den) (hs:SL a b) (hh:h<=z):fH b h * a.den<=fH a h * b.den:=by
 have y:=Int.mul_le_mul_of_nonneg_right hs (show 0<=z - h by omega);unfold fH at *;have e1:a.start=p * a.den - a.bT * z:=by omega
 have e2:b.start=p * b.den - b.bT * z:=by omega
 rw[e1,e2];clear ha hb hs e1 e2
 grind
theorem lp {g : Sl aB} (hl : 1 ≤ g.len) (nf : ¬ SK g) {s : straight} (hd : 0 < s.den) (ha : vV g s) :
  (∀ h,(∃ c,Dx g c/\fH c h * s.den<=fH s h * c.den)/\∃ c,Dx g c/\fH s h * c.den<=fH c h * s.den)/\(∃ c,Dx g c/\SL c s)/\∃ c,Dx g c/\SL s c:=by
 obtain⟨d,d0,da,i,hi,di⟩:=zr8 hl ha;obtain⟨e,e0,ea,j,hj,ej⟩:=zr9 hl ha;obtain⟨⟨c1,c1c,c1d,c1p,c1s⟩,⟨c2,c2c,c2d,c2p,c2s⟩⟩:=rot (s:=⟨s.bT,s.start - d,s.den⟩) hd da hi (.inl rfl) di (SN nf i hi);obtain⟨⟨f1,f1c,f1d,f1p,f1s⟩,⟨f2,f2c,f2d,f2p,f2s⟩⟩:=rot (s:=⟨s.bT,s.start+e,s.den⟩) hd ea hj (.inr rfl) ej (SN nf j hj);have lo:∀ {c:straight} {h:Int},0 < c.den->fH c h * s.den<=fH ⟨s.bT,s.start - d,s.den⟩ h * c.den->fH c h * s.den<=fH s h * c.den:=fun {c h} pc k=>by
  have:=Int.mul_nonneg d0 (Int.le_of_lt pc);unfold fH at *;simp only at k
  grind
 have hi':∀ {c:straight} {h:Int},0 < c.den->fH ⟨s.bT,s.start+e,s.den⟩ h * c.den<=fH c h * s.den->fH s h * c.den<=fH c h * s.den:=fun {c h} pc k=>by
  have:=Int.mul_nonneg e0 (Int.le_of_lt pc);unfold fH at *;simp only at k
  grind
 refine⟨λ h=>⟨?_,?_⟩,⟨c1,c1c,c1s⟩,⟨c2,c2c,c2s⟩⟩
 ·rcases Int.le_total (g.get i).Z h with k | k
  ·exact⟨c1,c1c,lo c1d (Yr (b:=⟨s.bT,s.start - d,s.den⟩) c1p di c1s k)⟩
  ·exact⟨c2,c2c,lo c2d (Yt (a:=⟨s.bT,s.start - d,s.den⟩) di c2p c2s k)⟩
 ·rcases Int.le_total (g.get j).Z h with k | k
  ·exact⟨f2,f2c,hi' f2d (Yr (a:=⟨s.bT,s.start+e,s.den⟩) ej f2p f2s k)⟩
  ·exact⟨f1,f1c,hi' f1d (Yt (b:=⟨s.bT,s.start+e,s.den⟩) f1p ej f1s k)⟩
def ui (lt : aQ → aQ → Bool) (f : Nat → aQ) : Nat → aQ
  | 0=>f 0
  | n+1=>cond (lt (f n) (ui lt f n)) (f n) (ui lt f n)
theorem Wh {lt : aQ → aQ → Bool} {Q : aQ → Prop} {f : Nat → aQ} (irr : ∀ a, Q a → lt a a = false) (tr : ∀ a b c, Q a → Q b → Q c → lt a b = true → lt b c = true → lt a c = true) :
  ∀ n,(∀ i,i < n+1->Q (f i))->(∃ i,i < n+1/\ui lt f (n+1)=f i)/\∀ j,j < n+1->lt (f j) (ui lt f (n+1))=false
 | 0,hq=>by
  have e:ui lt f 1=f 0:=by simp only[ui];cases lt (f 0) (f 0) <;> rfl
  rw[e];exact⟨⟨0,by omega,rfl⟩,λ j hj=>by rw[show j=0 by omega];exact irr _ (hq 0 (by omega))⟩
 | n+1,hq=>by
  obtain⟨⟨i,hi,e⟩,h⟩:=Wh irr tr n λ i hi=>hq i (by omega);have qe:Q (ui lt f (n+1)):=by rw[e];exact hq i (by omega)
  rw[ui];cases hl:lt (f (n+1)) (ui lt f (n+1)) with
  | true =>
   rw[cond_true];refine⟨⟨n+1,by omega,rfl⟩,λ j hj=>?_⟩;by_cases ej:j=n+1
   ·rw[ej];exact irr _ (hq _ (by omega))
   ·cases hx:lt (f j) (f (n+1)) with
    | false=>rfl
    | true=>rw[<- h j (by omega),tr _ _ _ (hq j (by omega)) (hq (n+1) (by omega)) qe hx hl]
  | false =>
   rw[cond_false];refine⟨⟨i,by omega,e⟩,λ j hj=>?_⟩;by_cases ej:j=n+1
   ·rw[ej];exact hl
   ·exact h j (by omega)
def ltB (a b:aQ):Bool:=decide (cmF a b < 0)
def gtB (a b:aQ):Bool:=decide (cmF a b > 0)
theorem zZ {a b:aQ} : gtB a b=true↔yh b a:=by
 unfold gtB;rw[decide_eq_true_eq,<- zfY];omega
theorem Aa {a b:aQ} : ltB a b=true↔yh a b:=by
 unfold ltB;rw[decide_eq_true_eq,zfX]
def xx (z:Int) (s:straight):aQ:=⟨fH s z,s.den⟩
def Wi (g:Sl aB) (z:Int):aQ:=ui ltB (λ i=>xx z ((gK g).cO.get i)) (kH g).length
def Wj (g:Sl aB) (z:Int):aQ:=ui gtB (λ i=>xx z ((gK g).cO.get i)) (kH g).length
theorem BX {g:Sl aB}(G:df g){i:Nat}(h:i < (kH g).length):Dx g ((gK g).cO.get i):=by
 rw[rH g h];exact Em G (List.getElem_mem _)
theorem zf7 {g:Sl aB}(G:df g) (z:Int) (h:0 < (kH g).length):(∃ s,Dx g s/\Wi g z=xx z s)/\∀ s∈kH g,¬ yh (xx z s) (Wi g z):=by
  obtain⟨n,hn⟩:∃ n,(kH g).length=n+1:=⟨(kH g).length - 1,by omega⟩;have pos:∀ i,i < n+1->0 < (xx z ((gK g).cO.get i)).bI:=λ i hi=>by have:=(ny G (BX G (i:=i) (by omega))).2.2;show 0 < ((gK g).cO.get i).den;omega
  have := Wh (lt := ltB) (Q := fun a => 0 < a.bI) (f := fun i => xx z ((gK g).cO.get i)) (fun a _ => by cases e : ltB a a with | false => rfl | true => exact absurd (Aa.1 e) Og)
    (λ a b c ha hb hc h1 h2=>Aa.2 (Yl ha hb hc (Aa.1 h1) (Aa.1 h2))) n pos
  unfold Wi;rw[hn];obtain⟨⟨i,hi,e⟩,h2⟩:=this;refine⟨⟨_,BX G (i:=i) (by omega),e⟩,λ s hs hl=>?_⟩;obtain⟨j,hj,rfl⟩:=List.getElem_of_mem hs;have:=h2 j (by omega);rw[rH g hj] at this;rw[Aa.2 hl] at this;cases this
theorem zf8 {g:Sl aB}(G:df g) (z:Int) (h:0 < (kH g).length):(∃ s,Dx g s/\Wj g z=xx z s)/\∀ s∈kH g,¬ yh (Wj g z) (xx z s):=by
  obtain⟨n,hn⟩:∃ n,(kH g).length=n+1:=⟨(kH g).length - 1,by omega⟩;have pos:∀ i,i < n+1->0 < (xx z ((gK g).cO.get i)).bI:=λ i hi=>by have:=(ny G (BX G (i:=i) (by omega))).2.2;show 0 < ((gK g).cO.get i).den;omega
  have := Wh (lt := gtB) (Q := fun a => 0 < a.bI) (f := fun i => xx z ((gK g).cO.get i)) (fun a _ => by cases e : gtB a a with | false => rfl | true => exact absurd (zZ.1 e) Og)
    (λ a b c ha hb hc h1 h2=>zZ.2 (Yl hc hb ha (zZ.1 h2) (zZ.1 h1))) n pos
  unfold Wj;rw[hn];obtain⟨⟨i,hi,e⟩,h2⟩:=this;refine⟨⟨_,BX G (i:=i) (by omega),e⟩,λ s hs hl=>?_⟩;obtain⟨j,hj,rfl⟩:=List.getElem_of_mem hs;have:=h2 j (by omega);rw[rH g hj] at this;rw[zZ.2 hl] at this;cases this
def cmpL : List Int → List Int → Int
  | [],[]=>0
  | [],_ :: _=>-1
  | _ :: _,[]=>1
  | a :: x,b :: y=>cond (nz a b != 0) (nz a b) (cmpL x y)
theorem yt {a b:Int} : nz a b=0↔a=b:=by
 unfold nz;by_cases h:a < b
 ·rw[decide_eq_true h];simp;omega
 ·rw [decide_eq_false h];by_cases k:a > b
  ·rw[decide_eq_true k];simp;omega
  ·rw[decide_eq_false k];simp;omega
theorem Yu {a b:Int} : nz a b < 0↔a < b:=by
 unfold nz;by_cases h:a < b
 ·rw[decide_eq_true h];simp[h]
 ·rw [decide_eq_false h];cases decide (a > b) <;> simp[h]
theorem uj : ∀ {x y : List Int}, cmpL x y < 0 ↔ (∃ b y', x = [] ∧ y = b :: y') ∨ ∃ a x' b y', x = a :: x' ∧ y = b :: y' ∧ (a < b ∨ a = b ∧ cmpL x' y' < 0)
  | [],[]=>by simp[cmpL]
  | [],b :: y=>by simp[cmpL]
  | a :: x,[]=>by simp[cmpL]
  | a :: x,b :: y=>by
    simp only[cmpL];have e:((∃ b' y',a :: x=[]/\b :: y=b' :: y')\/∃ a' x' b' y',a :: x=a' :: x'/\b :: y=b' :: y'/\(a' < b'\/a'=b'/\cmpL x' y' < 0))↔(a < b\/a=b/\cmpL x y < 0):=by
      constructor
      · rintro (⟨b', y', h, _⟩ | ⟨a', x', b', y', h1, h2, h⟩)
        · cases h
        · cases h1;cases h2;exact h
      · intro h;exact .inr ⟨a,x,b,y,rfl,rfl,h⟩
    rw[e];by_cases h:a=b
    · subst h;rw[show (nz a a != 0)=false by rw[yt.2 rfl];rfl];simp
    · rw [show (nz a b != 0) = true by simpa [yt] using h, cond_true, Yu];simp[h]
theorem Iz : ∀ {x y : List Int}, cmpL x y = 0 ↔ x = y
  | [],[]=>by simp[cmpL]
  | [],b :: y=>by simp[cmpL]
  | a :: x,[]=>by simp[cmpL]
  | a :: x,b :: y=>by
    simp only[cmpL];by_cases h:a=b
    · subst h;rw[show (nz a a != 0)=false by rw[yt.2 rfl];rfl,cond_false,Iz];simp
    · rw[show (nz a b != 0)=true by simpa [yt] using h,cond_true,yt];simp[h]
theorem SQ (x:List Int) : ¬ cmpL x x < 0:=by rw[Iz.2 rfl];omega
theorem Oz : ∀ {x y z : List Int}, cmpL x y < 0 → cmpL y z < 0 → cmpL x z < 0
  | x,y,z,h1,h2=>by
    rw[uj] at h1 h2;rcases h1 with ⟨b,y',rfl,rfl⟩ | ⟨a,x',b,y',rfl,rfl,h1⟩
    · rcases h2 with ⟨c, z', h, _⟩ | ⟨b', y'', c, z', h, rfl, h2⟩
      · cases h
      · exact uj.2 (.inl ⟨c,z',rfl,rfl⟩)
    · rcases h2 with ⟨c, z', h, _⟩ | ⟨b', y'', c, z', h, rfl, h2⟩
      · cases h
      · cases h;refine uj.2 (.inr ⟨a,x',c,z',rfl,rfl,?_⟩);rcases h1 with h1 | ⟨rfl,h1⟩ <;> rcases h2 with h2 | ⟨rfl,h2⟩
        · exact .inl (by omega)
        · exact .inl h1
        · exact .inl h2
        · exact .inr ⟨rfl,Oz h1 h2⟩
theorem IA : ∀ {x y : List Int}, x ≠ y → cmpL x y < 0 ∨ cmpL y x < 0
  | [],[],h=>absurd rfl h
  | [],b :: y,_=>.inl (by simp[cmpL])
  | a :: x,[],_=>.inr (by simp[cmpL])
  | a :: x,b :: y,h=>by
    rcases Int.lt_trichotomy a b with k | k | k
    · exact .inl (uj.2 (.inr ⟨a,x,b,y,rfl,rfl,.inl k⟩))
    · subst k;have:x ≠ y:=λ e=>h (by rw[e]);rcases IA this with k | k
      · exact .inl (uj.2 (.inr ⟨a,x,a,y,rfl,rfl,.inr ⟨rfl,k⟩⟩))
      · exact .inr (uj.2 (.inr ⟨a,y,a,x,rfl,rfl,.inr ⟨rfl,k⟩⟩))
    · exact .inr (uj.2 (.inr ⟨b,y,a,x,rfl,rfl,.inl k⟩))
def uk (w:Sl Int):List Int:=(List.range w.len).map w.get
theorem Yv (w:Sl Int):(uk w).length=w.len:=by simp[uk]
def zli (a b:aj):Int:=cond (nz a.View b.View != 0) (nz a.View b.View) (cond (cmpL (uk a.Hits) (uk b.Hits) != 0) (cmpL (uk a.Hits) (uk b.Hits)) (cmpL (uk a.bD) (uk b.bD)))
def ltT (a b:aj):Prop:=a.View < b.View\/a.View=b.View/\(cmpL (uk a.Hits) (uk b.Hits) < 0\/uk a.Hits=uk b.Hits/\cmpL (uk a.bD) (uk b.bD) < 0)
theorem zlj {a b:aj} : zli a b < 0↔ltT a b:=by
 unfold zli ltT;by_cases h:a.View=b.View
 ·rw [show (nz a.View b.View != 0) = false by rw [yt.2 h]; rfl, cond_false];by_cases k:uk a.Hits=uk b.Hits
  ·rw [show (cmpL (uk a.Hits) (uk b.Hits) != 0) = false by rw [Iz.2 k]; rfl, cond_false, Iz.2 k];simp[h,k]
  ·rw [show (cmpL (uk a.Hits) (uk b.Hits) != 0) = true by simpa [Iz] using k, cond_true];simp[h,k]
 ·rw [show (nz a.View b.View != 0) = true by simpa [yt] using h, cond_true, Yu];simp[h]
theorem Yw (a:aj) : ¬ ltT a a:=λ h=>by
 rcases h with h | ⟨_,h | ⟨_,h⟩⟩
 ·omega
 ·exact SQ _ h
 ·exact SQ _ h
theorem zf9 {a b c:aj}(h:ltT a b) (k:ltT b c):ltT a c:=by
 rcases h with h | ⟨h,h2⟩ <;> rcases k with k | ⟨k,k2⟩
 ·exact .inl (by omega)
 ·exact .inl (by omega)
 ·exact .inl (by omega)
 ·refine .inr ⟨by omega, ?_⟩;rcases h2 with h2 | ⟨h2,h3⟩ <;> rcases k2 with k2 | ⟨k2,k3⟩
  ·exact .inl (Oz h2 k2)
  ·exact .inl (k2 ▸ h2)
  ·exact .inl (h2 ▸ k2)
  ·exact .inr ⟨h2.trans k2,Oz h3 k3⟩
theorem zga {a b:aj}(h:ltT a b) : ¬ ltT b a:=λ k=>Yw a (zf9 h k)
theorem zlk {a b:aj}(h : ¬ (a.View=b.View/\uk a.Hits=uk b.Hits/\uk a.bD=uk b.bD)):ltT a b\/ltT b a:=by
 rcases Int.lt_trichotomy a.View b.View with k | k | k
 ·exact .inl (.inl k)
 ·by_cases h1 : uk a.Hits = uk b.Hits
  ·have : uk a.bD ≠ uk b.bD := fun e => h ⟨k, h1, e⟩;rcases IA this with h2 | h2
   ·exact .inl (.inr ⟨k,.inr ⟨h1,h2⟩⟩)
   ·exact .inr (.inr ⟨k.symm,.inr ⟨h1.symm,h2⟩⟩)
  ·rcases IA h1 with h2 | h2
   ·exact .inl (.inr ⟨k,.inl h2⟩)
   ·exact .inr (.inr ⟨k.symm,.inl h2⟩)
 ·exact .inr (.inl k)
theorem zsa {a b:aj}(h1:uk a.Hits=uk b.Hits) (h2:uk a.bD=uk b.bD) (ha:a.bD.len=a.Hits.len) (hb:b.bD.len=b.Hits.len):iy a=iy b:=by
 have l1:a.Hits.len=b.Hits.len:=by rw[<- Yv,<- Yv,h1]
 have key:∀ t:aj,t.bD.len=t.Hits.len->iy t=(uk t.Hits).zip (uk t.bD):=λ t ht=>by
  unfold iy uk;rw[ht,List.zip_map']
 rw[key a ha,key b hb,h1,h2]
def Ac (a b:aj):Bool:=(iy b).all (λ p=>(iy a).contains p) && (b.View == a.View)
theorem IB {a b:aj} : Ac a b=true↔(∀ p∈iy b,p∈iy a)/\b.View=a.View:=by
 unfold Ac;simp[List.all_eq_true]
theorem zgb {t u:aj}{p:Int×Int}(h1:u.Hits.len=t.Hits.len+1) (h2:∀ j,j < t.Hits.len->u.Hits.get j=t.Hits.get j/\u.bD.get j=t.bD.get j) (h3:u.Hits.get t.Hits.len=p.1/\u.bD.get t.Hits.len=p.2):iy u=iy t ++ [p]:=by
 unfold iy;rw[h1,List.range_succ,List.map_append];congr 1
 ·exact List.map_congr_left λ i hi=>by
   have:=h2 i (List.mem_range.1 hi);rw[this.1,this.2]
 ·show [(u.Hits.get t.Hits.len, u.bD.get t.Hits.len)] = [p];rw[h3.1,h3.2]
def rJ (s : straight) (g : Sl aB) : Nat → Sl Int
  | 0=>⟨0,λ _=>0⟩
  | i+1=>cond (jP s (g.get i)) (nO (rJ s g i) (i:Int)) (rJ s g i)
theorem Ad (s : straight) (g : Sl aB) : ∀ i, (rJ s g i).len ≤ i ∧ ((rJ s g i).len = i ↔ ∀ j, j < i → jP s (g.get j) = true) ∧ (0 < (rJ s g i).len ↔ ∃ j, j < i ∧ jP s (g.get j) = true)
  | 0=>⟨iM _,⟨λ _ j hj=>absurd hj (O0 j),λ _=>rfl⟩,⟨λ h=>absurd h (Nat.lt_irrefl 0),λ ⟨j,hj,_⟩=>absurd hj (O0 j)⟩⟩
  | i+1=>by
    obtain⟨a,b,c⟩:=Ad s g i;simp only[rJ];cases h:jP s (g.get i) with
    | true =>
      show (rJ s g i).len+1<=i+1/\((rJ s g i).len+1=i+1↔_)/\(0 < (rJ s g i).len+1↔_);refine⟨by omega,⟨λ e j hj=>?_,λ e=>?_⟩,⟨λ _=>⟨i,by omega,h⟩,λ _=>by omega⟩⟩
      · by_cases k : j = i
        · rw[k];exact h
        · exact b.1 (by omega) j (by omega)
      · rw[b.2 λ j hj=>e j (by omega)]
    | false =>
      show (rJ s g i).len<=i+1/\((rJ s g i).len=i+1↔_)/\(0 < (rJ s g i).len↔_);refine⟨by omega,⟨λ e=>by omega,λ e=>by rw[e i (by omega)] at h;cases h⟩,c.trans ⟨λ ⟨j,h1,h2⟩=>⟨j,by omega,h2⟩,λ ⟨j,h1,h2⟩=>⟨j,?_,h2⟩⟩⟩;have:j ≠ i:=λ e=>by rw[e,h] at h2;cases h2
      omega
abbrev Q57 (C:Line×Sl aB->ae (Sl Int)):Prop:=∀ s (g:Sl aB),rV s->g.len<=1000->(∀ i,i < g.len->fK (g.get i))->C (dQ s,g)=.ok (rJ s g g.len)
theorem s57 {E:E57}(N:Big E.N) (h116:zr4 E.c116):Q57 (F57 E):=λ s g S hl G=>ae.ext λ k=>by
 rw[e57,bi];refine kz (X:=λ n i=>Q8 E n (dQ s) g (i:Int) (rJ s g i) k) (m:=g.len) (λ n i hi=>?_) (λ n=>?_) _ (by have:=N;omega)
 ·rw [znn, decide_eq_true (by omega), cond_true, bC (by omega), Int.toNat_natCast, h116 s _ S (G i hi), bi, bQ (by omega), jl (by have := (Ad s g i).1; omega) (by omega)];simp only[rJ];cases jP s (g.get i) <;> rfl
 ·rw[znn,decide_eq_false (by omega)];rfl
def eL:Sl Line:=⟨0,λ _=>⟨⟨0,0⟩,⟨0,0⟩⟩⟩
def xE (v:Sl Line) (l:List straight):Sl Line:=(l.map dQ).foldl nO v
theorem rM (v:Sl Line) (l:List straight):(xE v l).len=v.len+l.length:=by unfold xE;rw[qE,List.length_map]
theorem vX (v:Sl Line) (a b:List straight):xE v (a ++ b)=xE (xE v a) b:=by unfold xE;rw[List.map_append,List.foldl_append]
def DT (g:Sl aB):Sl Line:=xE eL (cst g)
theorem zll (g:Sl aB):(DT g).len=(cst g).length:=by unfold DT;rw[rM];show 0+_=_;omega
theorem OA (g:Sl aB){i:Nat}(h:i < (cst g).length):(DT g).get i=dQ (cst g)[i]:=by
 have:=xw ((cst g).map dQ) eL i (dQ (cst g)[i]) (by rw[WA,yz h];rfl);rw[show (eL:Sl Line).len+i=i by show 0+i=i;omega] at this;exact this
abbrev zsb (C:Sl aB->ae (Sl Line)):Prop:=∀ g,df g->C g=.ok (DT g)
theorem zMg {E:N8}(N:Big E.N) (zkJ:zr5 E.zg8) (h55:Q55 E.c55):zsb (zkI E):=λ g G=>ae.ext λ k=>by
 have hg:=G.2;have hN:=N;have XZ:∀ n0 n1 (i j:Nat) (w:Sl Line),i < g.len->j < g.len->w.len<=100000->BN E n0 n1 E.N g (i:Int) (j:Int) 0 w k=BM E n0 n1 g (i:Int) ((j+1:Nat):Int) (xE w (yg (g.get i) (g.get j))) k:=by
  intro n0 n1 i j w hi hj hw;have gi:=G.1 i hi;have gj:=G.1 j hj;obtain⟨n,hn⟩:∃ n,E.N=n+1+1+1+1+1:=⟨E.N - 5,by omega⟩
  have st:∀ n (v:Int) (w:Sl Line) (p q:Int),(0<=v/\v < 4)->w.len<=200000->(g.get i).Z ≠ (g.get j).Z->p=cond (aO (v.tdiv 2) == 0) (g.get i).Low (g.get i).High->q=cond (v.tmod 2 == 0) (g.get j).Low (g.get j).High->(-1000000<=p/\p<=1000000)->(-1000000<=q/\q<=1000000) ->
    BN E n0 n1 (n+1) g (i:Int) (j:Int) v w k=BN E n0 n1 n g (i:Int) (j:Int) (v+1) (xE w [zU (g.get i).Z p (g.get j).Z q]) k:=by
   intro n v w p q hv hw hz hp hq hpb hqb;rw[VY,decide_eq_true (show v < 4 by omega),cond_true];simp only[bC (show 0<=(i:Int)/\(i:Int) < (g.len:Int) by omega),bC (show 0<=(j:Int)/\(j:Int) < (g.len:Int) by omega)];rw[Int.toNat_natCast,Int.toNat_natCast,show ((g.get i).Z != (g.get j).Z)=true by simpa using hz,cond_true,zkJ,bi,zkJ,bi,<- hp,<- hq,h55 _ _ _ _ gi.1 gj.1 hpb hqb hz,bi,jl (by omega) (by omega),aY (by omega) (by omega)];rfl
  unfold yg;rw[hn];by_cases hz:(g.get i).Z=(g.get j).Z
  ·rw [if_pos hz, VY, decide_eq_true (by omega), cond_true, bC (by omega), bC (by omega), Int.toNat_natCast, Int.toNat_natCast, show ((g.get i).Z != (g.get j).Z) = false by simpa using hz, cond_false, bQ (by omega)];rfl
  ·rw [if_neg hz]
   rw[st _ 0 w (g.get i).Low (g.get j).Low (by omega) (by omega) hz rfl rfl (mX gi) (mX gj),
    st _ (0+1) _ (g.get i).Low (g.get j).High (by omega) (by rw[rM];simp only[Ey,TK];omega) hz rfl rfl (mX gi) (oQ gj),<- vX,
    st _ (0+1+1) _ (g.get i).High (g.get j).Low (by omega) (by rw[rM];simp only[O8,Ey,TK];omega) hz rfl rfl (oQ gi) (mX gj),<- vX,
    st _ (0+1+1+1) _ (g.get i).High (g.get j).High (by omega) (by rw[rM];simp only[O8,Ey,TK];omega) hz rfl rfl (oQ gi) (oQ gj),<- vX,VY,decide_eq_false (by omega),cond_false,bQ (by omega)]
   rfl
 have mid:∀ n0 (i:Nat),i < g.len->∀ (m j n1:Nat) (w:Sl Line),j+m=g.len->m < n1->w.len+4 * m<=100000->BM E n0 n1 g (i:Int) (j:Int) w k=Ib E n0 g ((i+1:Nat):Int) (xE w (zV g i m j)) k:=by
  intro n0 i hi m
  induction m with
  | zero =>
   intro j n1 w hj hn hw;obtain⟨n1,rfl⟩:∃ n',n1=n'+1:=⟨n1 - 1,by omega⟩;rw[zft,decide_eq_false (by omega),cond_false,bQ (by omega)];rfl
  | succ m ih =>
   intro j n1 w hj hn hw;obtain⟨n1,rfl⟩:∃ n',n1=n'+1:=⟨n1 - 1,by omega⟩;have:=Sj (g.get i) (g.get j);rw[zft,decide_eq_true (by omega),cond_true,XZ n0 n1 i j w hi (by omega) (by omega),ih (j+1) n1 _ (by omega) (by omega) (by rw[rM];omega),<- vX];rfl
 have out:∀ (m i n:Nat) (w:Sl Line),i+m=g.len->m < n->w.len+96 * m<=10000->Ib E n g (i:Int) w k=k (xE w (JK g m i)):=by
  intro m
  induction m with
  | zero =>
   intro i n w hi hn hw;obtain⟨n,rfl⟩:∃ n',n=n'+1:=⟨n - 1,by omega⟩;rw[zfs,decide_eq_false (by omega)];rfl
  | succ m ih =>
   intro i n w hi hn hw;obtain⟨n,rfl⟩:∃ n',n=n'+1:=⟨n - 1,by omega⟩;have:=Su g i (g.len - (i+1)) (i+1);rw[zfs,decide_eq_true (by omega),cond_true,bQ (by omega),mid n i (by omega) (g.len - (i+1)) (i+1) E.N w (by omega) (by omega) (by omega),ih (i+1) n _ (by omega) (by omega) (by rw[rM];omega),<- vX];rfl
 rw[zKN,bi];exact out g.len 0 E.N eL (by omega) (by omega) (by show 0+_<=_;omega)
abbrev zsc (C:Line×Sl aB->ae Bool):Prop:=∀ s g,rV s->df g->∃ b,C (dQ s,g)=.ok b
theorem zMh {E:V3}(N:Big E.N) (Vo:zle E.OV):zsc (zkU E):=λ s g S G=>by
 have hg:=G.2;exact⟨_,ae.ext λ k=>by
  rw[e248,bi];refine (loopA (L:=λ n v=>Oa E n (dQ s) g v k) (p:=λ i=>!(Yn (dQ s) (g.get i).Z == aO ((g.get i).Low * Ju (dQ s)))) (m:=g.len) (fin:=k false) (stop:=k true) (by omega) (λ n i hi=>?_) (λ n=>?_) _ (by have:=N;omega)).trans (kc k _ _ _)
  ·have gi := G.1 i hi;rw[zfE,decide_eq_true (by omega),cond_true,bC (by omega),Int.toNat_natCast,Vo s _ S (by have:=gi.1;omega),bi,bC (by omega)];show cond (Yn (dQ s) (g.get i).Z == aO ((g.get i).Low * Ju (dQ s))) _ _=_;cases Yn (dQ s) (g.get i).Z == aO ((g.get i).Low * Ju (dQ s)) <;> rfl
  ·rw[zfE,decide_eq_false (by omega)];rfl⟩
def leB (a b:aQ):Bool:=decide (aO (a.Num * b.bI) < aO (b.Num * a.bI))
abbrev Q56 (C:aQ×aQ->ae Bool):Prop:=∀ a b,C (a,b)=.ok (leB a b)
theorem s56 {E:E56} : Q56 (F56 E):=λ a b=>ae.ext λ k=>by rw[e56,bi];rfl
abbrev zsd (C:Line×Line×Sl aB->ae Bool):Prop:=∀ s t g,rV s->rV t->df g->∃ b,C (dQ s,dQ t,g)=.ok b
theorem zMi {E:zaS}(zkL:zsc E.Wy) (h56:Q56 E.c56):zsd (zkK E):=λ s t g S T G=>by
 obtain⟨a,ha⟩:=zkL s g S G;obtain⟨b,hb⟩:=zkL t g T G;exact⟨cond (a != b) a (cond a (leB (dQ s).dM (dQ t).dM) (leB (dQ t).dM (dQ s).dM)),ae.ext λ k=>by
  rw[e226,ha,hb,bi,bi,bi,bi,h56,h56,bi,bi,kc k,kc k,bi]⟩
def LnS (g:Sl aB) (v:Sl Line):Prop:=∀ i,i < v.len->∃ s,s∈cst g/\v.get i=dQ s
abbrev zlm (C:Sl aB->ae (Sl Line)):Prop:=∀ g,df g->∃ L:Sl Line,C g=.ok L/\(0 < L.len↔∃ s∈cst g,vV g s)/\L.len<=2304/\LnS g L
theorem zMj {E:JI}(N:Big E.N) (zrk:zsb E.zmq) (h57:Q57 E.c57) (zrl:zsd E.c226):zlm (zks E):=λ g G=>by
 have hg:=G.2;have hN:=N;have hc:=Ob G;have hcd:=zll g;have pos:∀ n0 (i:Nat),i < (cst g).length->∀ (v:Sl Line),LnS g v->v.len<=2304->∃ a,a<=v.len/\∀ (A:Type) (k:Sl Line->Option A),vT E n0 E.N g v (DT g) (i:Int) 0 k=tJ E n0 g v (DT g) (i:Int) (a:Int) k:=by
  intro n0 i hi v hv hl;have key:∀ (m j n1:Nat),j+m=v.len->m < n1->∃ a,a<=v.len/\∀ (A:Type) (k:Sl Line->Option A),vT E n0 n1 g v (DT g) (i:Int) (j:Int) k=tJ E n0 g v (DT g) (i:Int) (a:Int) k:=by
   intro m
   induction m with
   | zero =>
    intro j n1 hj hn;obtain⟨n1,rfl⟩:∃ n',n1=n'+1:=⟨n1 - 1,by omega⟩;exact⟨j,by omega,λ A k=>by rw[ze7,decide_eq_false (by omega)];rfl⟩
   | succ m ih =>
    intro j n1 hj hn;obtain⟨n1,rfl⟩:∃ n',n1=n'+1:=⟨n1 - 1,by omega⟩;obtain⟨s,hs,es⟩:=hv j (by omega);obtain⟨b,hb⟩:=zrl s (cst g)[i] g (oU G hs) (oU G (List.getElem_mem hi)) G;have st:∀ (A:Type) (k:Sl Line->Option A),vT E n0 (n1+1) g v (DT g) (i:Int) (j:Int) k=cond b (vT E n0 n1 g v (DT g) (i:Int) ((j+1:Nat):Int) k) (tJ E n0 g v (DT g) (i:Int) (j:Int) k):=λ A k=>by
     rw[ze7,decide_eq_true (by omega),cond_true,bC (by omega),bC (by omega),Int.toNat_natCast,Int.toNat_natCast,es,OA g hi,hb,bi,bQ (by omega)]
    cases b with
    | true =>
     obtain⟨a,h1,h2⟩:=ih (j+1) n1 (by omega) (by omega);exact⟨a,h1,λ A k=>by rw[st];exact h2 A k⟩
    | false=>exact⟨j,by omega,λ A k=>by rw[st];rfl⟩
  exact key v.len 0 E.N (by omega) (by omega)
 have key:∀ (m i n:Nat) (v:Sl Line),i+m=(cst g).length->m < n->LnS g v->v.len<=i->∃ L:Sl Line,(∀ (A:Type) (k:Sl Line->Option A),mM E n g v (DT g) (i:Int) k=k L)/\(0 < L.len↔0 < v.len\/∃ j,∃ h:j < (cst g).length,i<=j/\vV g (cst g)[j])/\L.len<=(cst g).length/\LnS g L:=by
  intro m
  induction m with
  | zero =>
   intro i n v hi hn hv hl;obtain⟨n,rfl⟩:∃ n',n=n'+1:=⟨n - 1,by omega⟩;exact⟨v,λ A k=>by rw[ze6,decide_eq_false (by omega)];rfl,⟨.inl,λ h=>h.elim id λ ⟨j,h1,h2,_⟩=>by omega⟩,by omega,hv⟩
  | succ m ih =>
   intro i n v hi hn hv hl;obtain⟨n,rfl⟩:∃ n',n=n'+1:=⟨n - 1,by omega⟩;have hi':i < (cst g).length:=by omega
   have S:=oU G (List.getElem_mem hi');have pl:=Ad (cst g)[i] g g.len;have st:∀ (A:Type) (k:Sl Line->Option A),mM E (n+1) g v (DT g) (i:Int) k=cond (decide (((rJ (cst g)[i] g g.len).len:Int) < (g.len:Int))) (mM E n g v (DT g) ((i+1:Nat):Int) k) (vT E n E.N g v (DT g) (i:Int) 0 k):=λ A k=>by
    rw[ze6,decide_eq_true (by omega),cond_true,bC (by omega),Int.toNat_natCast,OA g hi',h57 _ g S (by omega) G.1,bi,bQ (by omega)]
   by_cases ha:vV g (cst g)[i]
   ·have e : (rJ (cst g)[i] g g.len).len = g.len := pl.2.1.2 ha;obtain⟨a,a1,a2⟩:=pos n i hi' v hv (by omega);have st2:∀ (A:Type) (k:Sl Line->Option A),mM E (n+1) g v (DT g) (i:Int) k=tJ E n g v (DT g) (i:Int) (a:Int) k:=λ A k=>by rw[st,decide_eq_false (by omega),cond_false,a2]
    have ins:∃ v':Sl Line,(∀ (A:Type) (k:Sl Line->Option A),H7 E n g v (DT g) (i:Int) (a:Int) k=mM E n g v' (DT g) ((i+1:Nat):Int) k)/\v'.len=v.len+1/\LnS g v':=by
     refine⟨_,λ A k=>by
      rw[zrj,bC (by omega),jl (by omega) (by omega),bC (by omega),jl (by omega) (by omega),bC (by omega),jl (by omega) (by omega),bQ (by omega)],?_,?_⟩
     ·show ((((a:Int) - 0).toNat+1)+((v.len:Int) - (a:Int)).toNat)=_;omega
     ·intro q hq;have hq:q < ((((a:Int) - 0).toNat+1)+((v.len:Int) - (a:Int)).toNat):=hq;show ∃ s,s∈cst g/\jf (((a:Int) - 0).toNat+1) (jf ((a:Int) - 0).toNat (JF v.get 0) (λ _=>(DT g).get (i:Int).toNat)) (JF v.get (a:Int).toNat) q=dQ s;rw[gJ];split
      ·exact hv (q - (((a:Int) - 0).toNat+1)+(a:Int).toNat) (by omega)
      ·rw [gJ];split
       ·rw[Int.toNat_natCast,OA g hi'];exact⟨_,List.getElem_mem hi',rfl⟩
       ·exact hv (q+0) (by omega)
    obtain⟨v',i1,i2,i3⟩:=ins;have fin:∃ v'':Sl Line,(∀ (A:Type) (k:Sl Line->Option A),tJ E n g v (DT g) (i:Int) (a:Int) k=mM E n g v'' (DT g) ((i+1:Nat):Int) k)/\0 < v''.len/\v''.len<=i+1/\LnS g v'':=by
     by_cases h1:(a:Int) < (v.len:Int)
     ·have e3:∃ B:Bool,∀ (A:Type) (k:Sl Line->Option A),tJ E n g v (DT g) (i:Int) (a:Int) k=cond B (mM E n g v (DT g) ((i+1:Nat):Int) k) (H7 E n g v (DT g) (i:Int) (a:Int) k):=⟨_,λ A k=>by
       rw[ze8,decide_eq_true h1,cond_true,bC (by omega),bC (by omega),bQ (by omega)]⟩
      obtain⟨B,e3⟩:=e3;cases B with
      | true=>exact⟨v,λ A k=>by rw[e3];rfl,by omega,by omega,hv⟩
      | false=>exact⟨v',λ A k=>by rw[e3];exact i1 A k,by omega,by omega,i3⟩
     ·exact⟨v',λ A k=>by rw[ze8,decide_eq_false h1];exact i1 A k,by omega,by omega,i3⟩
    obtain⟨v'',f1,f2,f3,f4⟩:=fin;obtain⟨L,l1,l2,l3,l4⟩:=ih (i+1) n v'' (by omega) (by omega) f4 f3;exact⟨L,λ A k=>by rw[st2,f1,l1],l2.trans ⟨λ _=>.inr ⟨i,hi',iM _,ha⟩,λ _=>.inl f2⟩,l3,l4⟩
   ·have e:(rJ (cst g)[i] g g.len).len < g.len:=by
     rcases Nat.lt_or_ge (rJ (cst g)[i] g g.len).len g.len with h | h
     ·exact h
     ·exact absurd (pl.2.1.1 (by omega)) ha
    obtain⟨L,l1,l2,l3,l4⟩:=ih (i+1) n v (by omega) (by omega) hv (by omega);refine⟨L,λ A k=>by rw[st,decide_eq_true (by omega),cond_true,l1],l2.trans ⟨λ h=>h.imp id λ ⟨j,h1,h2,h3⟩=>⟨j,h1,by omega,h3⟩,λ h=>h.imp id λ ⟨j,h1,h2,h3⟩=>⟨j,h1,?_,h3⟩⟩,l3,l4⟩;have:j ≠ i:=λ e=>ha (by subst e;exact h3);omega
 obtain⟨L,l1,l2,l3,l4⟩:=key (cst g).length 0 E.N eL (by omega) (by omega) (λ i hi=>absurd hi (O0 i)) (iM _);refine⟨L,ae.ext λ k=>by rw[zJ8,zrk g G,bi,bi];exact l1 _ k,l2.trans ⟨λ h=>?_,λ ⟨s,hs,ha⟩=>?_⟩,by omega,l4⟩
 ·rcases h with h | ⟨j, h1, _, h3⟩
  ·exact absurd h (Nat.lt_irrefl 0)
  ·exact⟨_,List.getElem_mem h1,h3⟩
 ·obtain ⟨j, h1, rfl⟩ := List.getElem_of_mem hs;exact .inr ⟨j,h1,Nat.zero_le _,ha⟩
theorem BZ {g:Sl aB}(G:df g) (hf:eX g=false):iC g=true↔∃ s∈cst g,vV g s:=by
 unfold iC;rw[hf,cond_false,decide_eq_true_eq];obtain⟨c1,c2,_⟩:=Oe hf;constructor
 ·intro h;obtain⟨a,b⟩:=c1 _ (List.getElem_mem (l:=kH g) (n:=0) (by omega));exact⟨_,a,(zW G (oU G a)).1 b⟩
 ·rintro ⟨s, hs, ha⟩;obtain⟨x,hx,_⟩:=c2 s hs ((zW G (oU G hs)).2 ha);have:=List.length_pos_of_mem hx;omega
abbrev zse (C:Sl aB->ae Bool):Prop:=∀ g,df g->C g=.ok (iC g)
theorem zMk {E:zal}(DN:zf2 E.Ak) (VA:zld E.c193) (VB:zlm E.c194):zse (zjQ E):=λ g G=>ae.ext λ k=>by
 have hg:=G.2;rw[zIz,DN g (by omega) (by omega),bi,bi];cases hf:eX g with
 | true =>
  rw[cond_true,VA g (by omega) (by omega),bi];unfold iC;rw[hf];rfl
 | false =>
  obtain⟨L,l1,l2,_⟩:=VB g G;rw[cond_false,l1,bi];congr 1;rw[Bool.eq_iff_iff,BZ G hf,<- l2,decide_eq_true_eq];omega
def JM (z:Int):Prop:=-100000<=z/\z<=200000
abbrev zsf (C:straight×Int->ae aQ):Prop:=∀ s z,rV s->JM z->C (s,z)=.ok (xx z s)
theorem zMl {E:zaN} : zsf (zkz E):=λ s z S hz=>ae.ext λ k=>by
 rw[e203,bi,(Yh S (z:=z) ⟨by have:=hz.1;omega,hz.2⟩).1];rfl
abbrev zsg (C:straight×Pt Int->ae aQ):Prop:=∀ s (z:Pt Int),rV s->JM z.v->C (s,z)=.ok (xx z.v s)
theorem zMm {E:zaM}(zrq:zsf E.c203):zsg (zky E):=λ s z S hz=>ae.ext λ k=>by rw[zKr,zrq _ _ S hz]
theorem OB {s:straight}(S:rV s){z:Int}(hz:JM z):(-600000000000<=(xx z s).Num/\(xx z s).Num<=600000000000)/\0 < (xx z s).bI/\(xx z s).bI<=100000:=by
 have:=(Yh S (z:=z) ⟨by have:=hz.1;omega,hz.2⟩).2;have:=S.2.2;exact⟨‹_›,by show 0 < s.den;omega,by show s.den<=_;omega⟩
def POK (f:aQ):Prop:=(-600000000000<=f.Num/\f.Num<=600000000000)/\0 < f.bI/\f.bI<=100000
theorem Yx {a b:aQ}(h1:POK a) (h2:POK b):aO (a.Num * b.bI)=a.Num * b.bI:=by
 have:=l9 h1.1.1 h1.1.2 (Int.le_of_lt h2.2.1) h2.2.2;exact aY (by omega) (by omega)
abbrev zsh (C:aQ×aQ->ae Bool):Prop:=∀ a b,POK a->POK b->C (a,b)=.ok (ltB a b)
theorem zMn {E:zay}(H5:zfW E.Am):zsh (zka E):=λ a b h1 h2=>ae.ext λ k=>by rw[e169,H5 _ _ (Yx h1 h2) (Yx h2 h1),bi,bi];rfl
abbrev zsi (C:aQ×aQ->ae Bool):Prop:=∀ a b,POK a->POK b->C (a,b)=.ok (gtB a b)
theorem zMo {E:zaA}(H5:zfW E.Am):zsi (zkc E):=λ a b h1 h2=>ae.ext λ k=>by rw[zJu,H5 _ _ (Yx h1 h2) (Yx h2 h1),bi,bi];rfl
abbrev zsj:=dN 169 Unit Unit ⊕ dN 171 Unit Unit
def oV : zsj → aQ → aQ → Bool
  | .inl _=>ltB
  | .inr _=>gtB
abbrev QEx {γ:Type}(i:γ->zsj) (C:Sl aQ×γ->ae aQ):Prop:=∀ (l:Sl aQ) (c:γ),0 < l.len->l.len<=10000->(∀ i,i < l.len->POK (l.get i))->C (l,c)=.ok (ui (oV (i c)) l.get l.len)
abbrev zsl (C:Sl aQ×zsj->ae aQ):Prop:=QEx id C
theorem SS {lt:aQ->aQ->Bool}{f:Nat->aQ} : ui lt f 1=f 0:=by simp only[ui];cases lt (f 0) (f 0) <;> rfl
theorem SV {lt:aQ->aQ->Bool}{f:Nat->aQ}{n:Nat} : ui lt f (n+1)=cond (lt (f n) (ui lt f n)) (f n) (ui lt f n):=rfl
theorem Ae {lt : aQ → aQ → Bool} {f : Nat → aQ} : ∀ n, ∃ i, i < n + 1 ∧ ui lt f (n + 1) = f i
  | 0=>⟨0,by omega,SS⟩
  | n+1=>by
    obtain⟨i,hi,e⟩:=Ae (lt:=lt) (f:=f) n;rw[SV];cases lt (f (n+1)) (ui lt f (n+1)) with
    | true=>exact⟨n+1,by omega,rfl⟩
    | false=>exact⟨i,by omega,e⟩
theorem zgc {E:oH}(N:Big E.N) (zrd:zsh E.zmd):QEx .inl (zG E):=λ l c h0 hl hp=>ae.ext λ k=>by
 rw[zeN,bi,bC (by omega),bC (by omega),<- SS (lt:=oV (.inl c)) (f:=l.get)];have hm:(((l.len:Int) - 1).toNat:Int)=((l.len - 1:Nat):Int):=by omega
 refine (kz (X:=λ n i=>lF E n l (i:Int) (ui (oV (.inl c)) l.get (i+1)) k) (m:=l.len - 1) (fin:=k (ui (oV (.inl c)) l.get l.len)) (λ n i hi=>?_) (λ n=>?_) E.N (by have:=N;omega))
 ·obtain ⟨j, hj, e⟩ := Ae (lt := oV (.inl c)) (f := l.get) i;have hq:POK (ui (oV (.inl c)) l.get (i+1)):=by rw[e];exact hp j (by omega)
  rw[Hz,hm,decide_eq_true (by omega),cond_true,bC (by omega),Int.toNat_natCast,show JF l.get 1 i=l.get (i+1) from rfl,zrd _ _ (hp (i+1) (by omega)) hq,bi,bQ (by omega),SV (n:=i+1)];show cond (ltB (l.get (i+1)) (ui (oV (.inl c)) l.get (i+1))) _ _=lF E n l _ (cond (ltB (l.get (i+1)) (ui (oV (.inl c)) l.get (i+1))) _ _) k;cases ltB (l.get (i+1)) (ui (oV (.inl c)) l.get (i+1)) <;> rfl
 ·rw[Hz,hm,decide_eq_false (by omega),show l.len - 1+1=l.len by omega];rfl
theorem zgd {E:oI}(N:Big E.N) (zre:zsi E.c171):QEx .inr (zH E):=λ l c h0 hl hp=>ae.ext λ k=>by
 rw[zeP,bi,bC (by omega),bC (by omega),<- SS (lt:=oV (.inr c)) (f:=l.get)];have hm:(((l.len:Int) - 1).toNat:Int)=((l.len - 1:Nat):Int):=by omega
 refine (kz (X:=λ n i=>lG E n l (i:Int) (ui (oV (.inr c)) l.get (i+1)) k) (m:=l.len - 1) (fin:=k (ui (oV (.inr c)) l.get l.len)) (λ n i hi=>?_) (λ n=>?_) E.N (by have:=N;omega))
 ·obtain ⟨j, hj, e⟩ := Ae (lt := oV (.inr c)) (f := l.get) i;have hq:POK (ui (oV (.inr c)) l.get (i+1)):=by rw[e];exact hp j (by omega)
  rw[HY,hm,decide_eq_true (by omega),cond_true,bC (by omega),Int.toNat_natCast,show JF l.get 1 i=l.get (i+1) from rfl,zre _ _ (hp (i+1) (by omega)) hq,bi,bQ (by omega),SV (n:=i+1)];show cond (gtB (l.get (i+1)) (ui (oV (.inr c)) l.get (i+1))) _ _=lG E n l _ (cond (gtB (l.get (i+1)) (ui (oV (.inr c)) l.get (i+1))) _ _) k;cases gtB (l.get (i+1)) (ui (oV (.inr c)) l.get (i+1)) <;> rfl
 ·rw[HY,hm,decide_eq_false (by omega),show l.len - 1+1=l.len by omega];rfl
theorem zMp {f:Sl aQ×dN 169 Unit Unit->ae aQ}{g:Sl aQ×dN 171 Unit Unit->ae aQ}(a:QEx .inl f) (b:QEx .inr g):zsl (ae.two f g):=λ l c h0 hl hp=>by
 rcases c with c | c
 ·exact a l c h0 hl hp
 ·exact b l c h0 hl hp
def JO (g : Sl aB) (z : Int) : Nat → Sl aQ
  | 0=>⟨0,λ _=>⟨0,0⟩⟩
  | i+1=>nO (JO g z i) (xx z ((gK g).cO.get i))
theorem lN (g : Sl aB) (z : Int) : ∀ n, (JO g z n).len = n
  | 0=>rfl
  | n+1=>by show (JO g z n).len+1=n+1;rw[lN g z n]
theorem Ep (g : Sl aB) (z : Int) : ∀ n i, i < n → (JO g z n).get i = xx z ((gK g).cO.get i)
  | n+1,i,h=>by
    show jf (JO g z n).len (JO g z n).get (λ _=>xx z ((gK g).cO.get n)) i=_;rw[gJ,lN];by_cases e:i=n
    · rw[if_pos (by omega),e]
    · rw[if_neg (by omega),Ep g z n i (by omega)]
theorem Cb {lt : aQ → aQ → Bool} {f g : Nat → aQ} : ∀ n, (∀ i, i < n + 1 → f i = g i) → ui lt f (n + 1) = ui lt g (n + 1)
  | 0,h=>by rw[SS,SS,h 0 (by omega)]
  | n+1,h=>by rw[SV,SV (f:=g) (n:=n+1),Cb n λ i hi=>h i (by omega),h (n+1) (by omega)]
abbrev zsm (C:set×dN 202 Unit (Pt Int)->ae (aQ×aQ)):Prop:=∀ g (c:dN 202 Unit (Pt Int)),df g->JM c.v.v->0 < (kH g).length->C (gK g,c)=.ok (red (Wi g c.v.v).Num (Wi g c.v.v).bI,red (Wj g c.v.v).Num (Wj g c.v.v).bI)
theorem zMq {E:Vs}(N:Big E.N) (zqS:zsg E.zmk) (zjD:zsl E.c168) (tH:Ij E.lK):zsm (zjB E):=λ g c G hz h0=>ae.ext λ k=>by
 have hl:=Oh G;have hs:=Ik g;have pok:∀ i,i < (kH g).length->POK (xx c.v.v ((gK g).cO.get i)):=λ i hi=>OB (ny G (BX G hi)) hz;obtain⟨n,hn⟩:∃ n,(kH g).length=n+1:=⟨(kH g).length - 1,by omega⟩;have lo:∃ i,i < n+1/\Wi g c.v.v=xx c.v.v ((gK g).cO.get i):=by unfold Wi;rw[hn];exact Ae n
 have hi:∃ i,i < n+1/\Wj g c.v.v=xx c.v.v ((gK g).cO.get i):=by unfold Wj;rw[hn];exact Ae n
 obtain⟨i1,i2,i3⟩:=lo;obtain⟨j1,j2,j3⟩:=hi;have pl:POK (Wi g c.v.v):=by rw[i3];exact pok _ (by omega)
 have ph:POK (Wj g c.v.v):=by rw[j3];exact pok _ (by omega)
 rw[e119,bi];refine kz (X:=λ n i=>NM E n (gK g) c (i:Int) (JO g c.v.v i) k) (m:=(kH g).length) (λ n i hi=>?_) (λ m=>?_) _ (by have:=N;omega)
 ·rw[zeC,hs,decide_eq_true (by omega),cond_true,bC (by omega),Int.toNat_natCast,zqS _ _ (ny G (BX G hi)) hz,bi,jl (by rw[lN];omega) (by omega),bQ (by omega)];rfl
 ·have hp:∀ i,i < (JO g c.v.v (kH g).length).len->POK ((JO g c.v.v (kH g).length).get i):=λ i hi=>by
   rw[lN] at hi;rw[Ep _ _ _ _ hi];exact pok i hi
  rw[zeC,hs,decide_eq_false (by omega),cond_false,zjD _ _ (by rw[lN];omega) (by rw[lN];omega) hp,bi,zjD _ _ (by rw[lN];omega) (by rw[lN];omega) hp,bi];have e1:ui (oV (.inl ⟨(),()⟩)) (JO g c.v.v (kH g).length).get (JO g c.v.v (kH g).length).len=Wi g c.v.v:=by
   rw[lN];unfold Wi;rw[hn];exact Cb n λ i hi=>Ep _ _ _ _ hi
  have e2:ui (oV (.inr ⟨(),()⟩)) (JO g c.v.v (kH g).length).get (JO g c.v.v (kH g).length).len=Wj g c.v.v:=by
   rw[lN];unfold Wj;rw[hn];exact Cb n λ i hi=>Ep _ _ _ _ hi
  show (E.lK ((ui (oV (.inl ⟨(),()⟩)) (JO g c.v.v (kH g).length).get (JO g c.v.v (kH g).length).len).Num,(ui (oV (.inl ⟨(),()⟩)) (JO g c.v.v (kH g).length).get (JO g c.v.v (kH g).length).len).bI)).T (λ r4=>(E.lK ((ui (oV (.inr ⟨(),()⟩)) (JO g c.v.v (kH g).length).get (JO g c.v.v (kH g).length).len).Num,(ui (oV (.inr ⟨(),()⟩)) (JO g c.v.v (kH g).length).get (JO g c.v.v (kH g).length).len).bI)).T λ r5=>k (r4,r5))=_;rw[e1,e2,tH _ _ (by have:=pl.1;omega) (by have:=pl.1;omega) pl.2.1 (by have:=pl.2.2;omega),bi,tH _ _ (by have:=ph.1;omega) (by have:=ph.1;omega) ph.2.1 (by have:=ph.2.2;omega),bi]
def yB (g:Sl aB) (z:Int):aQ×aQ:=cond (eX g) (red (dZ g g.len).Low 1,red (dZ g g.len).High 1) (red (Wi g z).Num (Wi g z).bI,red (Wj g z).Num (Wj g z).bI)
theorem Es {g : Sl aB} (G : ∀ i, i < g.len → fK (g.get i)) (h0 : 0 < g.len) : ∀ n, n ≤ g.len → (-1000000 ≤ (dZ g n).Low ∧ (dZ g n).Low ≤ 1000000) ∧ -1000000 ≤ (dZ g n).High ∧ (dZ g n).High ≤ 1000000
  | 0,_=>⟨mX (G 0 h0),oQ (G 0 h0)⟩
  | n+1,h=>by
    obtain⟨a,b⟩:=Es G h0 n (by omega);have c:=mX (G n (by omega));have d:=oQ (G n (by omega));simp only[dZ];constructor
    · split <;> assumption
    · split <;> assumption
abbrev zsn (C:set×Int->ae (aQ×aQ)):Prop:=∀ g z,df g->JM z->(eX g=false->0 < (kH g).length)->C (gK g,z)=.ok (yB g z)
theorem zMs {E:zav}(tC:V6 E.c167) (VL:zk2 E.OY) (tH:Ij E.lK) (h119:zsm E.c119):zsn (zj7 E):=λ g z G hz hc=>ae.ext λ k=>by
 have hg:=G.2;rw[zJe,tC (gK g).list (by show 0 < g.len;omega) (by show g.len<=1000;omega),bi,bi];show cond (eX g) _ _=_;unfold yB;cases hf:eX g with
 | true =>
  obtain⟨a,b⟩:=Es G.1 (by omega) g.len (iM _);rw[cond_true,VL _ (by show 0 < g.len;omega) (by show g.len<=1000;omega),bi];show (E.lK ((dZ g g.len).Low,1)).T (λ r3=>(E.lK ((dZ g g.len).High,1)).T λ r4=>k (r3,r4))=_;rw[tH _ _ (by omega) (by omega) (by omega) (by omega),bi,tH _ _ (by omega) (by omega) (by omega) (by omega),bi];rfl
 | false=>rw[cond_false,h119 g ⟨(),⟨z⟩⟩ G hz (hc hf),bi];rfl
abbrev zso (C:Sl aB×Int->ae (aQ×aQ×Int)):Prop:=∀ g z,df g->JM z->C (g,z)=.ok (cond ((BR g ((g.get 0).Z == z)).2 != 0) (⟨0,0⟩,⟨0,0⟩,(BR g ((g.get 0).Z == z)).2) ((yB g z).1,(yB g z).2,0))
theorem zMt {E:Z8}(xZ:yA E.c157) (Vl:zk7 E.c117) (zqM:zsn E.zb2):zso (zjw E):=λ g z G hz=>ae.ext λ k=>by
 have hg:=G.2;rw[zHL,xZ,bi,bi,show inB z (-100000) 200000=true from decide_eq_true hz,Vl g _ (by omega),bi];show cond ((BR g ((g.get 0).Z == z)).2 != 0) (k (⟨0,0⟩,⟨0,0⟩,(BR g ((g.get 0).Z == z)).2)) ((E.zb2 ((BR g ((g.get 0).Z == z)).1,z)).T λ r3=>k (r3.1,r3.2,0))=_;unfold BR;rw[lH.2 G];cases hs:iC g with
 | false=>rfl
 | true =>
  cases hf:eX g && !((g.get 0).Z == z) with
  | true=>rfl
  | false =>
   show (E.zb2 (gK g,z)).T _=_;rw[zqM g z G hz λ hf=>by unfold iC at hs;rw[hf,cond_false,decide_eq_true_eq] at hs;omega,bi];rfl
def zsp (p:ai) (h:bz):bV:=cond (p.Kind == 3) p.Clock ⟨aO (aO (h.Time - p.Clock.High) - p.dH),aO (aO (h.Time - p.Clock.Low)+p.dH)⟩
def rO (s:ak) (h:bz):bV:=zsp (s.af.get h.ai.toNat) h
abbrev zsq (C:placed×bz->ae bV):Prop:=∀ q h,C (q,h)=.ok (zsp q.ai h)
theorem zMu {E:Z7} : zsq (zjv E):=λ q h=>ae.ext λ k=>by rw[zHH,bi,kc k];rfl
abbrev Q74 (C:ak×bz->ae bV):Prop:=∀ s h,jR s h=true->C (s,h)=.ok (rO s h)
theorem s74 {E:E74} : Q74 (F74 E):=λ s h hh=>ae.ext λ k=>by rw[e74,bi,bC (Hm hh),kc k];rfl
def tmG (s:ak) (l:Sl bz):Sl aB:=⟨l.len,λ i=>⟨0,(rO s (l.get i)).Low,(rO s (l.get i)).High⟩⟩
theorem IC {g h : Sl aB} {m : Nat} (h0 : 0 < m) (e : ∀ i, i < m → g.get i = h.get i) : ∀ n, n ≤ m → dZ g n = dZ h n
  | 0,_=>by simp only[dZ,e 0 h0]
  | n+1,hn=>by simp only[dZ,IC h0 e n (by omega),e n (by omega)]
abbrev zsr (C:ak×Sl bz->ae (bV×Bool)):Prop:=∀ s (l:Sl bz),0 < l.len->l.len<=1000->(∀ i,i < l.len->jR s (l.get i)=true)->C (s,l)=.ok (dZ (tmG s l) l.len,decide ((dZ (tmG s l) l.len).Low<=(dZ (tmG s l) l.len).High))
theorem zMv {E:VC}(N:Big E.N) (h74:Q74 E.c74):zsr (zjR E):=λ s l h0 h1 hh=>ae.ext λ k=>by
 have:=kz (X:=λ n i=>NR E n s l ((i+1:Nat):Int) (dZ (tmG s l) (i+1)) k) (m:=l.len - 1) (fin:=k (dZ (tmG s l) l.len,decide ((dZ (tmG s l) l.len).Low<=(dZ (tmG s l) l.len).High))) (λ n i hi=>by
  rw[zeI,decide_eq_true (by omega),cond_true,bC (by omega),Int.toNat_natCast,h74 _ _ (hh (i+1) (by omega)),bi,bQ (by omega)];rfl) (λ n=>by
  rw[zeI,show l.len - 1+1=l.len by omega,decide_eq_false (by omega)];rfl) E.N (by have:=N;omega)
 rw[show (0+1:Nat)=1 from rfl,We] at this;rw[zIB,bC (by omega),h74 _ _ (hh 0 h0),bi,bi];exact this
abbrev zss (C:ak×Sl bz->ae Int):Prop:=∀ s (l:Sl bz),qy s->dW s=true->l.len<=1000->(∀ i,i < l.len->jR s (l.get i)=true)->C (s,l)=.ok 0
theorem zMw {E:Vk}(N:Big E.N) (xY:QSe E.c160) (h112:ZZ E.qH):zss (zju E):=λ s l hs hb hl hh=>ae.ext λ k=>by
 rw[zHE,decide_eq_false (by omega),cond_false,xY s hs,bi,hb,bi];refine kz (X:=λ n i=>NL E n s l (i:Int) k) (m:=l.len) (λ n i hi=>?_) (λ n=>?_) _ (by have:=N;omega)
 ·rw [zet, decide_eq_true (by omega), cond_true, bC (by omega), Int.toNat_natCast, h112 _ _ hs hb, bi, bQ (by omega)];show cond (!jR s (l.get i)) _ _=_;rw[hh i hi];rfl
 ·rw[zet,decide_eq_false (by omega)];rfl
def cmS (x:bV):bV×Int:=cond (decide (x.Low > x.High)) (⟨0,0⟩,5) (x,0)
abbrev Q50 (C:ak×Sl bz->ae (bV×Int)):Prop:=∀ s (l:Sl bz),qy s->dW s=true->0 < l.len->l.len<=1000->(∀ i,i < l.len->jR s (l.get i)=true)->C (s,l)=.ok (cmS (dZ (tmG s l) l.len))
theorem s50 {E:E50}(N:Big E.N) (zqq:zss E.zl3) (h112:ZZ E.qH) (zjo:zsq E.Wv):Q50 (F50 E):=λ s l hs hb h0 hl hh=>ae.ext λ k=>by
 have hm:(((l.len:Int) - 1).toNat:Int)=((l.len - 1:Nat):Int):=by omega
 have tm:∀ i,i < l.len->zsp (ofP s (l.get i)).ai (l.get i)=rO s (l.get i):=λ i hi=>by rw[zen (hh i hi)];rfl
 have:=kz (X:=λ n i=>X4 E n s l (i:Int) (dZ (tmG s l) (i+1)) k) (m:=l.len - 1) (fin:=k (cmS (dZ (tmG s l) l.len))) (λ n i hi=>by
  rw[znj,hm,decide_eq_true (by omega),cond_true,bC (by omega),Int.toNat_natCast];show (E.qH (s,l.get (i+1))).T _=_;rw[h112 _ _ hs hb,bi];show (E.Wv (ofP s (l.get (i+1)),l.get (i+1))).T _=_;rw[zjo,bi,tm (i+1) (by omega),bQ (by omega)];rfl) (λ n=>by
  rw[znj,hm,show l.len - 1+1=l.len by omega,decide_eq_false (by omega),cond_false,kc k];rfl) E.N (by have:=N;omega)
 rw[show (0+1:Nat)=1 from rfl,We] at this;rw[e50,zqq s l hs hb hl hh,bi,show ((0:Int) != 0)=false from rfl,cond_false,show ((l.len:Int) == 0)=false by rw[dqU];omega,cond_false,bC (by omega),h112 _ _ hs hb,bi,bC (by omega)];show (E.Wv (ofP s (l.get 0),l.get 0)).T _=_;rw[zjo,bi,bC (by omega),tm 0 h0,bi];exact this
def Lr (l : Sl bz) (w : Sl Int) : Nat → Sl bz
  | 0=>⟨0,λ _=>⟨0,0,0,0,0,0⟩⟩
  | i+1=>nO (Lr l w i) (l.get (w.get i).toNat)
theorem lQ (l : Sl bz) (w : Sl Int) : ∀ n, (Lr l w n).len = n
  | 0=>rfl
  | n+1=>by show (Lr l w n).len+1=n+1;rw[lQ l w n]
theorem OC (l : Sl bz) (w : Sl Int) : ∀ n i, i < n → (Lr l w n).get i = l.get (w.get i).toNat
  | n+1,i,h=>by
    show jf (Lr l w n).len (Lr l w n).get (λ _=>l.get (w.get n).toNat) i=_;rw[gJ,lQ];by_cases e:i=n
    · rw[if_pos (by omega),e]
    · rw[if_neg (by omega),OC l w n i (by omega)]
def InH (l:Sl bz) (w:Sl Int):Prop:=∀ i,i < w.len->0<=w.get i/\w.get i < (l.len:Int)
theorem zge {s:ak}{l:Sl bz}(he:Evt s l){w:Sl Int}(h:InH l w):∀ i,i < (Lr l w w.len).len->jR s ((Lr l w w.len).get i)=true:=λ i hi=>by
 rw[lQ] at hi;rw[OC _ _ _ _ hi];have:=h i hi;exact dA.1 he.hi _ (by omega)
def OD (s:ak) (l:Sl bz) (c:jd):bV:=dZ ⟨c.length,λ i=>⟨0,(rO s (l.get ((c[i]?).getD (0,0)).1.toNat)).Low,(rO s (l.get ((c[i]?).getD (0,0)).1.toNat)).High⟩⟩ c.length
theorem Yy {s:ak}{l:Sl bz}{t:aj}{c:jd}(hc:iy t=c) (h0:0 < t.Hits.len):dZ (tmG s (Lr l t.Hits t.Hits.len)) (Lr l t.Hits t.Hits.len).len=OD s l c:=by
 unfold OD;rw[lQ,<- hc,nC];refine IC h0 (λ i hi=>?_) _ (iM _);show (⟨0,(rO s ((Lr l t.Hits t.Hits.len).get i)).Low,(rO s ((Lr l t.Hits t.Hits.len).get i)).High⟩:aB)=⟨0,(rO s (l.get (((iy t)[i]?).getD (0,0)).1.toNat)).Low,(rO s (l.get (((iy t)[i]?).getD (0,0)).1.toNat)).High⟩;rw[OC _ _ _ _ hi,Ot hi];rfl
def SX (s:ak) (l:Sl bz) (c:jd):Bool:=decide ((OD s l c).Low<=(OD s l c).High)
abbrev Q93 (C:Pt aX×aj->ae (bV×Bool)):Prop:=∀ s l r t c,Evt s l->InH l t.Hits->0 < t.Hits.len->t.Hits.len<=100->iy t=c->C (iR s r l,t)=.ok ((cmS (OD s l c)).1,SX s l c)
theorem s93 {E:E93}(N:Big E.N) (h50:Q50 E.c50):Q93 (F93 E):=λ s l r t c he hi h0 h1 hc=>ae.ext λ k=>by
 rw[e93,bi];refine kz (X:=λ n i=>Yb E n (iR s r l) t (i:Int) (Lr l t.Hits i) k) (m:=t.Hits.len) (λ n i hi'=>?_) (λ n=>?_) _ (by have:=N;omega)
 ·have a := hi i hi';rw[znu,decide_eq_true (by omega),cond_true,bC (by omega),Int.toNat_natCast,bC (show 0<=t.Hits.get i/\t.Hits.get i < ((iR s r l).v.hits.len:Int) from a),jl (by rw[lQ];omega) (by omega),bQ (by omega)];rfl
 ·rw [znu, decide_eq_false (by omega), cond_false];show (E.c50 (s,Lr l t.Hits t.Hits.len)).T _=_;rw[h50 _ _ he.sh he.se (by rw[lQ];omega) (by rw[lQ];omega) (zge he hi),bi,Yy hc h0];have:((cmS (OD s l c)).2 == 0)=SX s l c:=by
   unfold cmS SX;by_cases h:(OD s l c).Low > (OD s l c).High
   ·rw[decide_eq_true h,decide_eq_false (by omega)];rfl
   ·rw[decide_eq_false h,decide_eq_true (by omega)];rfl
  rw[this]
abbrev zst (C:Sl bz×Sl Int->ae (Sl bz)):Prop:=∀ (l:Sl bz) (w:Sl Int),InH l w->w.len<=100->C (l,w)=.ok (Lr l w w.len)
theorem zMz {E:VD}(N:Big E.N):zst (zjT E):=λ l w hi h1=>ae.ext λ k=>by
 rw[zID,bi];refine kz (X:=λ n i=>NS E n l w (i:Int) (Lr l w i) k) (m:=w.len) (λ n i hi'=>?_) (λ n=>?_) _ (by have:=N;omega)
 ·have a := hi i hi';rw[zeJ,decide_eq_true (by omega),cond_true,bC (by omega),Int.toNat_natCast,bC a,jl (by rw[lQ];omega) (by omega),bQ (by omega)];rfl
 ·rw[zeJ,decide_eq_false (by omega)];rfl
abbrev Q90 (C:ak×Sl bz×Sl Int->ae Bool):Prop:=∀ s l (w:Sl Int),Evt s l->InH l w->0 < w.len->w.len<=100->C (s,l,w)=.ok (decide ((dZ (tmG s (Lr l w w.len)) (Lr l w w.len).len).Low<=(dZ (tmG s (Lr l w w.len)) (Lr l w w.len).len).High))
theorem s90 {E:E90}(zqy:zst E.c148) (zqz:zsr E.zma):Q90 (F90 E):=λ s l w he hi h0 h1=>ae.ext λ k=>by
 rw[e90,zqy _ _ hi h1,bi,zqz _ _ (by rw[lQ];omega) (by rw[lQ];omega) (zge he hi),bi,bi]
def yu (s:ak) (l:Sl bz) (c:jd):Bool:=SX s l c && iC (wU s l c)
theorem Cc {s:ak}{l:Sl bz}{x:Int}{t:aj}{c:jd}{j:Nat}(hc:iy t=c) (h:Val s l x c j):InH l t.Hits:=λ i hi=>by
 have:=wK hc hi;have m:=(h.mem _ (Ez this)).1;have:=h.le;simp only at m;omega
theorem OE {t:aj}{c:jd}(hc:iy t=c) (hn:c ≠ []):0 < t.Hits.len:=by
 rw[<- nC,hc];exact List.length_pos_iff.2 hn
theorem pK {s:ak}{l:Sl bz}{x:Int}{t:aj}{c:jd}{j:Nat}(hc:iy t=c) (h:Val s l x c j):t.Hits.len<=l.len:=by
 rw[<- nC,hc];have:=h.le;omega
structure Ev (s : ak) (l : Sl bz) (x : Int) : Prop extends Evt s l where
  l24:l.len<=24
  vw:vwB x=true
abbrev zsu (C:Pt aX×aj->ae Bool):Prop:=∀ s l r x t c j,Ev s l x->O6 x t->iy t=c->Val s l x c j->c ≠ []->C (iR s r l,t)=.ok (yu s l c)
theorem zMB {E:zaE}(h93:Q93 E.c93) (Vx:zjm E.c105) (zri:zr2 E.zmo):zsu (zkj E):=λ s l r x t c j he ht hc hv hn=>ae.ext λ k=>by
 have hl:=pK hc hv;have qB:=he.l24;have G:=BU he.toEvt he.l24 hv hn;obtain⟨y,hy⟩:=zri (wU s l c) (by have:=G.2;omega);rw[zJM,h93 s l r t c he.toEvt (Cc hc hv) (OE hc hn) (by omega) hc,bi,bi];unfold yu;cases SX s l c with
 | false=>rfl
 | true =>
  show (E.c105 (iR s r l,t)).T _=_;rw[Vx s l r t he.toEvt (by omega) (Eo he.vw ht hc hv hn),bi,Ox hc,hy,bi,<- zr3 G];rfl
abbrev zln (C:ak×Sl bz×aj->ae Bool):Prop:=∀ s l x t c j,Ev s l x->O6 x t->iy t=c->Val s l x c j->c ≠ []->C (s,l,t)=.ok (yu s l c)
theorem zMC {E:zaJ}(h65:Q65 E.c65) (zrp:zse E.c145) (h90:Q90 E.c90):zln (zku E):=λ s l x t c j he ht hc hv hn=>ae.ext λ k=>by
 have hl:=pK hc hv;have qB:=he.l24;have G:=BU he.toEvt he.l24 hv hn;rw[zKd,h65 s l t he.toEvt (by omega) (Eo he.vw ht hc hv hn),bi,Ox hc,zrp _ G,bi,h90 s l _ he.toEvt (Cc hc hv) (OE hc hn) (by omega),bi,Yy hc (OE hc hn),bi];unfold yu;show cond (iC (wU s l c)) (k (SX s l c)) (k false)=_;cases iC (wU s l c) <;> cases SX s l c <;> rfl
abbrev zsv (C:Int×Pt (Pt aX)×Pt Int->ae Bool):Prop:=∀ s l r i k,0<=i/\i < (l.len:Int)->0<=k/\k < (l.len:Int)->C (i,⟨iR s r l⟩,⟨k⟩)=.ok ((l.get i.toNat).ai == (l.get k.toNat).ai)
theorem zMD {E:zaD} : zsv (zki E):=λ s l r i k hi hk=>ae.ext λ K=>by
 rw[zJI,bi];exact (bC (p:=0<=i/\i < (l.len:Int)) hi).trans (bC (p:=0<=k/\k < (l.len:Int)) hk)
abbrev zsw (C:Int×Pt (Pt aX)×Pt Int->ae Bool):Prop:=∀ s l r i p,0<=i/\i < (l.len:Int)->C (i,⟨iR s r l⟩,⟨p⟩)=.ok ((l.get i.toNat).ai == p)
theorem zME {E:zaG} : zsw (zko E):=λ s l r i p hi=>ae.ext λ K=>by
 rw[e190,bi];exact bC (p:=0<=i/\i < (l.len:Int)) hi
abbrev zbd:=dN 180 Unit (Pt (Pt aX)×Pt Int) ⊕ dN 190 Unit (Pt (Pt aX)×Pt Int)
def zlo (l : Sl bz) : zbd → Int → Bool
  | .inl c,h=>(l.get h.toNat).ai == (l.get c.v.2.v.toNat).ai
  | .inr c,h=>(l.get h.toNat).ai == c.v.2.v
def okU (s : ak) (l : Sl bz) (r : bF) : zbd → Prop
  | .inl c=>c.v.1.v=iR s r l/\0<=c.v.2.v/\c.v.2.v < (l.len:Int)
  | .inr c=>c.v.1.v=iR s r l
abbrev QUx {γ:Type}(i:γ->zbd) (C:Sl Int×γ->ae Int):Prop:=∀ s l r (w:Sl Int) (c:γ),InH l w->w.len<=1000->okU s l r (i c)->C (w,c)=.ok (fst (λ j=>zlo l (i c) (w.get j)) w.len 0)
abbrev QUa {γ:Type}(i:γ->zbd) (C:Sl Int×γ->ae Bool):Prop:=∀ s l r (w:Sl Int) (c:γ),InH l w->w.len<=1000->okU s l r (i c)->C (w,c)=.ok (!dS (λ j=>!zlo l (i c) (w.get j)) w.len)
abbrev zlp (C:Sl Int×zbd->ae Int):Prop:=QUx id C
abbrev zlq (C:Sl Int×zbd->ae Bool):Prop:=QUa id C
theorem zgf {E:oK}(N:Big E.N) (zry:zsv E.zg4):QUx .inl (zN E):=λ s l r w c hi hw ho=>ae.ext λ k=>by
 obtain⟨⟨⟩,⟨a⟩,⟨b⟩⟩:=c;obtain⟨rfl,hb⟩:=ho;rw[zfo,bi];refine Dv (L:=λ n i=>tN E n w _ i k) (p:=λ j=>zlo l (.inl ⟨(),⟨iR s r l⟩,⟨b⟩⟩) (w.get j)) (m:=w.len) (k:=k) (by omega) (λ n i hi'=>?_) (λ n=>?_) _ (by have:=N;omega)
 ·rw [H9, decide_eq_true (by omega), cond_true, bC (by omega), Int.toNat_natCast];show (E.zg4 (w.get i,⟨iR s r l⟩,⟨b⟩)).T _=_;rw[zry s l r _ _ (hi i hi') hb,bi];rfl
 ·rw[H9,decide_eq_false (by omega)];rfl
theorem zgg {E:oM}(N:Big E.N) (zrz:zsw E.zg6):QUx .inr (zO E):=λ s l r w c hi hw ho=>ae.ext λ k=>by
 obtain⟨⟨⟩,⟨a⟩,⟨b⟩⟩:=c;have ho:a=iR s r l:=ho;subst ho;rw[zfq,bi];refine Dv (L:=λ n i=>tV E n w _ i k) (p:=λ j=>zlo l (.inr ⟨(),⟨iR s r l⟩,⟨b⟩⟩) (w.get j)) (m:=w.len) (k:=k) (by omega) (λ n i hi'=>?_) (λ n=>?_) _ (by have:=N;omega)
 ·rw [Ia, decide_eq_true (by omega), cond_true, bC (by omega), Int.toNat_natCast];show (E.zg6 (w.get i,⟨iR s r l⟩,⟨b⟩)).T _=_;rw[zrz s l r _ _ (hi i hi'),bi];rfl
 ·rw[Ia,decide_eq_false (by omega)];rfl
theorem zMF {f:Sl Int×dN 180 Unit (Pt (Pt aX)×Pt Int)->ae Int}{g:Sl Int×dN 190 Unit (Pt (Pt aX)×Pt Int)->ae Int}(a:QUx .inl f) (b:QUx .inr g):zlp (ae.two f g):=λ s l r w c hi hw ho=>by
 rcases c with c | c
 ·exact a s l r w c hi hw ho
 ·exact b s l r w c hi hw ho
theorem zgh {E:rC}(VO:zlp E.c210):QUa .inl (zI E):=λ s l r w c hi hw ho=>ae.ext λ k=>by rw[zeV,VO s l r w (.inl c) hi hw ho,bi,bi,ug];rfl
theorem zgi {E:rD}(VO:zlp E.c210):QUa .inr (zJ E):=λ s l r w c hi hw ho=>ae.ext λ k=>by rw[zeZ,VO s l r w (.inr c) hi hw ho,bi,bi,ug];rfl
theorem zMG {f:Sl Int×dN 180 Unit (Pt (Pt aX)×Pt Int)->ae Bool}{g:Sl Int×dN 190 Unit (Pt (Pt aX)×Pt Int)->ae Bool}(a:QUa .inl f) (b:QUa .inr g):zlq (ae.two f g):=λ s l r w c hi hw ho=>by
 rcases c with c | c
 ·exact a s l r w c hi hw ho
 ·exact b s l r w c hi hw ho
theorem zgj {l:Sl bz}{t:aj}{c:jd}(hc:iy t=c) (p:Int->Bool):(!dS (λ j=>!p (t.Hits.get j)) t.Hits.len)=c.any λ q=>p q.1:=by
 rw[Bool.eq_iff_iff,Bool.not_eq_true',<- Bool.not_eq_true,dA,List.any_eq_true];constructor
 ·intro h;apply Classical.byContradiction;intro hn;refine h λ j hj=>?_;cases e:p (t.Hits.get j) with
  | false=>rfl
  | true=>exact (hn ⟨_,Ez (wK hc hj),e⟩).elim
 ·rintro ⟨q, hq, e⟩ h;obtain⟨j,hj,rfl⟩:=List.getElem_of_mem hq;have hl:j < t.Hits.len:=by rw[<- nC,hc];exact hj
  have:=wK hc hl;rw[yz hj] at this;have:=Option.some.inj this;have h2:=h j hl;rw[this] at e;rw[e] at h2;cases h2
def Aq (w:Sl aj):List jd:=(List.range w.len).map λ i=>iy (w.get i)
theorem jy (w:Sl aj):(Aq w).length=w.len:=by simp[Aq]
theorem zlr {w:Sl aj}{i:Nat}(h:i < w.len):(Aq w)[i]? = some (iy (w.get i)):=by simp[Aq,List.getElem?_range h]
def wV (x:Int) (w:Sl aj):Prop:=∀ i,i < w.len->O6 x (w.get i)
theorem Yz (w:Sl aj) (t:aj):Aq (nO w t)=Aq w ++ [iy t]:=by
 unfold Aq;show (List.range (w.len+1)).map _=_;rw[List.range_succ,List.map_append];congr 1
 ·exact List.map_congr_left λ i hi=>by
   show iy (jf w.len w.get (λ _=>t) i)=_;rw[gJ,if_neg (by have:=List.mem_range.1 hi;omega)]
 ·show [iy (jf w.len w.get (fun _ => t) w.len)] = _;rw[gJ,if_pos (iM _)]
theorem SY {x:Int}{w:Sl aj}{t:aj}(h:wV x w) (ht:O6 x t):wV x (nO w t):=λ i hi=>by
 show O6 x (jf w.len w.get (λ _=>t) i);rw[gJ];by_cases e:w.len<=i
 ·rw[if_pos e];exact ht
 ·rw[if_neg e];exact h i (by omega)
def TP (x:Int) (t:aj) (p:Int×Int):aj:=⟨x,⟨t.Hits.len+1,jf t.Hits.len t.Hits.get λ _=>p.1⟩,⟨t.bD.len+1,jf t.bD.len t.bD.get λ _=>p.2⟩⟩
theorem YA {x:Int}{t:aj}{p:Int×Int}(h:t.bD.len=t.Hits.len):iy (TP x t p)=iy t ++ [p]:=by
 refine zgb rfl (λ j hj=>?_) ?_
 ·show jf t.Hits.len t.Hits.get (fun _ => p.1) j = _ ∧ jf t.bD.len t.bD.get (fun _ => p.2) j = _;rw[gJ,gJ,if_neg (by omega),if_neg (by omega)];exact⟨rfl,rfl⟩
 ·show jf t.Hits.len t.Hits.get (fun _ => p.1) t.Hits.len = _ ∧ jf t.bD.len t.bD.get (fun _ => p.2) t.Hits.len = _;rw[gJ,gJ,if_pos (by omega),if_pos (by omega)];exact⟨rfl,rfl⟩
theorem Ce {x:Int}{t:aj}{p:Int×Int}(h:t.bD.len=t.Hits.len):O6 x (TP x t p):=⟨rfl,by show t.bD.len+1=t.Hits.len+1;rw[h]⟩
abbrev zzJ:=aj×Int×Bc 143 (Pt aX)×Bc 38 Int×Bw 30 43 3 56 aj×Bs 255 178 2 4×Unit
abbrev YB:=Unit×(Unit×Unit×Pt aX×Int×Sl aj×Unit×Unit)
def QM (f:Nat) (C:zzJ->ae YB):Prop:=∀ s l r x t c (i:Nat) (w:Sl aj),Ev s l x->Val s l x c i->iy t=c->t.bD.len=t.Hits.len->l.len < i+f->wV x w->w.len+(gr (yu s l) (vW l) (En s l x) f c i).length<=2000 ->
 ∃ w',C (t,(i:Int),⟨iR s r l⟩,⟨x⟩,⟨w⟩,{},())=.ok ((),(),(),iR s r l,x,w',(),())/\Aq w'=Aq w ++ gr (yu s l) (vW l) (En s l x) f c i/\wV x w'
theorem zMH {E:zaC}{f:Nat}(Vy:zlq E.Jp) (zrh:zsu E.c182) (i173:zqn E.i173) (hm:QM f E.Jr):QM (f+1) (zkg E):=λ s l r x t c i w he hv hc ht hf hw hn=>by
 have qB:=he.l24;have hle:=hv.le;have hlen:=pK hc hv
 have key:∀ (ys:jd) (w:Sl aj),(∀ y∈ys,y∈En s l x i)->wV x w->w.len+(ys.flatMap λ p=>cond (vW l c p.1 || !yu s l (c ++ [p])) [] ((c ++ [p]) :: gr (yu s l) (vW l) (En s l x) f (c ++ [p]) (p.1.toNat+1))).length<=2000 ->
   ∃ w',(∀ (A:Type) (k:YB->Option A) (w0:Sl aj),mJ E ys t (i:Int) (iR s r l) x w0 (iR s r l) x w k=k ((),(),(),iR s r l,x,w',(),()))/\Aq w'=Aq w ++ (ys.flatMap λ p=>cond (vW l c p.1 || !yu s l (c ++ [p])) [] ((c ++ [p]) :: gr (yu s l) (vW l) (En s l x) f (c ++ [p]) (p.1.toNat+1)))/\wV x w':=by
  intro ys
  induction ys with
  | nil=>intro w _ hw _;exact⟨w,λ A k w0=>zkh ..,by simp,hw⟩
  | cons y ys ih =>
   intro w hy hw hn;rw[lT] at hn ⊢;rw[O8] at hn;have hys:∀ z∈ys,z∈En s l x i:=λ z hz=>hy z (jc _ hz);obtain⟨_,y1,_,_⟩:=SI (hy y jS);have u:(E.Jp (t.Hits,.inl ⟨(),⟨iR s r l⟩,⟨y.1⟩⟩))=.ok (vW l c y.1):=by
    rw[Vy s l r t.Hits (.inl ⟨(),⟨iR s r l⟩,⟨y.1⟩⟩) (Cc hc hv) (by omega) ⟨rfl,(by show 0<=y.1;omega),(by show y.1 < (l.len:Int);omega)⟩];exact congrArg ae.ok (zgj (l:=l) hc λ h=>(l.get h.toNat).ai == (l.get y.1.toNat).ai)
   have skip:∀ (A:Type) (k:YB->Option A) (w0:Sl aj),vW l c y.1=true->mJ E (y :: ys) t (i:Int) (iR s r l) x w0 (iR s r l) x w k=mJ E ys t (i:Int) (iR s r l) x w0 (iR s r l) x w k:=λ A k w0 e=>by
    rw[zeS,u,bi,e];rfl
   cases hu:vW l c y.1 with
   | true =>
    rw[hu] at hn;obtain⟨w',a,b,d⟩:=ih w hys hw (by simpa using hn);exact⟨w',λ A k w0=>by rw[skip A k w0 hu,a],by rw[b];rfl,d⟩
   | false =>
    have hv2:=hv.snoc (hy y jS) hu;have hc2:iy (TP x t y)=c ++ [y]:=by rw[YA ht,hc]
    have ag:=zrh s l r x (TP x t y) (c ++ [y]) _ he (Ce ht) hc2 hv2 (by simp);have st:∀ (A:Type) (k:YB->Option A) (w0:Sl aj),mJ E (y :: ys) t (i:Int) (iR s r l) x w0 (iR s r l) x w k=cond (!yu s l (c ++ [y])) (mJ E ys t (i:Int) (iR s r l) x w0 (iR s r l) x w k) (aZ (room (w.len+1) 56) (cond (decide ((w.len:Int)+1 > 2000)) none ((E.Jr (TP x t y,aO (y.1+1),⟨iR s r l⟩,⟨x⟩,⟨nO w (TP x t y)⟩,{},())).T λ r3=>mJ E ys t (i:Int) (iR s r l) x w0 r3.2.2.2.1 r3.2.2.2.2.1 r3.2.2.2.2.2.1 k))):=λ A k w0=>by
     rw[zeS,u,bi,hu,cond_false,jl (by omega) (by omega),jl (by omega) (by omega),jl (by omega) (by omega),jl (by omega) (by omega)];show (E.c182 (iR s r l,TP x t y)).T _=_;rw[ag,bi];rfl
    cases ha:yu s l (c ++ [y]) with
    | false =>
     rw[hu,ha] at hn;obtain⟨w',a,b,d⟩:=ih w hys hw (by simpa using hn);exact⟨w',λ A k w0=>by rw[st,ha];exact a A k w0,by rw[b];rfl,d⟩
    | true =>
     rw[hu,ha] at hn;simp only[Bool.not_true,Bool.or_self,cond_false,Ey] at hn;have e1:aO (y.1+1)=((y.1.toNat+1:Nat):Int):=by rw[aY (by omega) (by omega)];omega
     obtain⟨w1,a1,b1,d1⟩:=hm s l r x (TP x t y) (c ++ [y]) (y.1.toNat+1) (nO w (TP x t y)) he hv2 hc2 (Ce (x:=x) ht).2 (by omega) (SY hw (Ce ht)) (by show w.len+1+_<=_;omega);have l1:w1.len=w.len+1+(gr (yu s l) (vW l) (En s l x) f (c ++ [y]) (y.1.toNat+1)).length:=by
      rw[<- jy,b1,O8,jy];rfl
     obtain⟨w',a,b,d⟩:=ih w1 hys d1 (by rw[l1];omega);refine⟨w',λ A k w0=>?_,?_,d⟩
     ·rw [st, ha, e1, a1, bi, jl (by omega) (by omega), decide_eq_false (by omega)];exact a A k w0
     ·rw[b,b1,Yz,hc2];simp
 obtain⟨w',a,b,d⟩:=key (En s l x i) w (λ y hy=>hy) hw hn;refine⟨w',ae.ext λ k=>?_,b,d⟩;rw[zJC,i173 s l r x i he.toEvt hle.2,bi,bi];exact a _ k w
def nD (s:ak) (l:Sl bz) (x:Int):List jd:=gr (yu s l) (vW l) (En s l x) 30 [] 0
theorem YC (s:ak) (l:Sl bz) (x:Int):Val s l x [] 0:=⟨⟨iM _,Nat.zero_le _⟩,(λ p h=>by cases h),List.Pairwise.nil⟩
abbrev zsz (C:Pt aX×Int->ae (Sl aj×Bool)):Prop:=∀ s l r x,Ev s l x->(nD s l x).length<=2000->∃ w,C (iR s r l,x)=.ok (w,true)/\Aq w=nD s l x/\wV x w
theorem zMI {E:zac}(hm:QM 30 E.Jr):zsz (zjG E):=λ s l r x he hn=>by
 have qB:=he.l24;obtain⟨w',a,b,d⟩:=hm s l r x ⟨0,⟨0,λ _=>default⟩,⟨0,λ _=>default⟩⟩ [] 0 ⟨0,λ _=>⟨0,⟨0,λ _=>0⟩,⟨0,λ _=>0⟩⟩⟩ he (YC s l x) rfl rfl (by omega) (λ i hi=>absurd hi (O0 i)) (by show 0+(nD s l x).length<=_;omega);exact⟨w',ae.ext λ k=>by rw[e127];show (E.Jr (_,((0:Nat):Int),_)).T _=_;rw[a,bi,bi],b,d⟩
abbrev zsA (C:aj×Int×Int->ae aj):Prop:=∀ t i k,t.Hits.len<=1000->t.bD.len<=1000->C (t,i,k)=.ok (TP t.View t (i,k))
theorem zMJ {E:zaT} : zsA (zkM E):=λ t i k h1 h2=>ae.ext λ K=>by
 rw[e227,bi,jl (by omega) (by omega),jl (by omega) (by omega),jl (by omega) (by omega),jl (by omega) (by omega)];rfl
abbrev stC (s:ak) (l:Sl bz) (x:Int) (f:Nat) (c:jd):List jd->Int×Int->List jd:=λ out p=>cond (vW l c p.1 || (decide (2000 < out.length) || !yu s l (c ++ [p]))) out (Oo (yu s l) (vW l) (En s l x) f (out ++ [c ++ [p]]) (c ++ [p]) (p.1.toNat+1))
def QW (f:Nat) (C:(ak×Sl bz×aj×Int)×Sl aj->ae (Sl aj)):Prop:=∀ s l x t c (i:Nat) (w:Sl aj),Ev s l x->Val s l x c i->iy t=c->O6 x t->l.len < i+f->wV x w->w.len<=2001 ->
 ∃ w',C ((s,l,t,(i:Int)),w)=.ok w'/\Aq w'=Oo (yu s l) (vW l) (En s l x) f (Aq w) c i/\wV x w'
theorem zgk {s : ak} {l : Sl bz} {x : Int} {f : Nat} {c : jd} {i : Int} (h : vW l c i = true) : ∀ (d k : Nat) (out : List jd), (XY i d k).foldl (stC s l x f c) out = out
  | 0,_,_=>rfl
  | d+1,k,out=>by
    rw[XY,List.foldl_cons];show (XY i d (k+1)).foldl _ (cond (vW l c i || _) out _)=out;rw[h];exact zgk h d (k+1) out
theorem Tc {s : ak} {l : Sl bz} {x : Int} {f : Nat} {c : jd} {i : Int} : ∀ (d k : Nat) (out : List jd), 2000 < out.length → (XY i d k).foldl (stC s l x f c) out = out
  | 0,_,_,_=>rfl
  | d+1,k,out,h=>by
    rw[XY,List.foldl_cons];have:stC s l x f c out (i,(k:Int))=out:=by
      show cond (vW l c i || (decide (2000 < out.length) || _)) out _=out;rw[decide_eq_true h,Bool.true_or,Bool.or_true];rfl
    rw[this];exact Tc d (k+1) out h
theorem OG {ag : jd → Bool} {us : jd → Int → Bool} {sd : Nat → jd} : ∀ {f out c i}, out.length ≤ 2001 → (Oo ag us sd f out c i).length ≤ 2001
  | 0,out,c,i,h=>h
  | f+1,out,c,i,h=>by
    simp only[Oo];generalize sd i=l
    induction l generalizing out with
    | nil=>exact h
    | cons p l ih =>
      rw[List.foldl_cons];refine ih _ ?_;cases hc:us c p.1 || (decide (2000 < out.length) || !ag (c ++ [p])) with
      | true=>exact h
      | false =>
        simp only[Bool.or_eq_false_iff,decide_eq_false_iff_not] at hc;exact OG (by rw[O8];simp only[Ey,TK];omega)
theorem zMK {E:VT}{f:Nat}(N:Big E.N) (h87:Q87 E.c87) (h75:Q75 E.c75) (zro:zsA E.c227) (VH:zln E.c196) (hm:QW f E.Js):QW (f+1) (zkt E):=λ s l x t c i w he hv hc ht hf hw hn=>by
 have qB:=he.l24;have hle:=hv.le;have hlen:=pK hc hv;have hN:=N
 -- the kV of one hit
 have XZ:∀ (n0:Nat) (a:Nat),i<=a->a < l.len->O4 s l a=x->vW l c (a:Int)=false->∀ (m k n1:Nat) (w:Sl aj),k+m=vP s l a->m < n1->wV x w->w.len<=2001 ->
   ∃ w',(∀ (A:Type) (K:Sl aj->Option A),tK E n0 n1 s l t (a:Int) (tu s (l.get a)) (k:Int) w K=oJ E n0 s l t ((a+1:Nat):Int) w' K)/\Aq w'=(XY (a:Int) m k).foldl (stC s l x f c) (Aq w)/\wV x w':=by
  intro n0 a ha1 ha2 hva hus m
  induction m with
  | zero =>
   intro k n1 w hk hn1 hw hwl;obtain⟨n1,rfl⟩:∃ n',n1=n'+1:=⟨n1 - 1,by omega⟩;refine⟨w,λ A K=>?_,rfl,hw⟩;rw[VU,decide_eq_false (by have:(tu s (l.get a)).len=vP s l a:=rfl;omega),cond_false,bQ (by omega)]
  | succ m ih =>
   intro k n1 w hk hn1 hw hwl;obtain⟨n1,rfl⟩:∃ n',n1=n'+1:=⟨n1 - 1,by omega⟩;have hgl:(tu s (l.get a)).len=vP s l a:=rfl;have hg2:=zA s l a;by_cases hfull:2000 < w.len
   ·refine ⟨w, fun A K => ?_, (Tc _ _ _ (by rw [jy]; exact hfull)).symm, hw⟩;rw[VU,decide_eq_true (by omega),cond_true,decide_eq_false (by omega),cond_false,bQ (by omega)]
   ·have hp : ((a : Int), (k : Int)) ∈ En s l x i := (Ov hle.2).2 ⟨by simp only; omega, by simpa using hva, by simp only; omega, by simp only [Int.toNat_natCast]; omega⟩;have hv2:=hv.snoc hp hus;have hc2:iy (TP x t ((a:Int),(k:Int)))=c ++ [((a:Int),(k:Int))]:=by rw[YA ht.2,hc]
    have ag:=VH s l x (TP x t ((a:Int),(k:Int))) _ _ he (Ce ht.2) hc2 hv2 (by simp);have st:∀ (A:Type) (K:Sl aj->Option A),tK E n0 (n1+1) s l t (a:Int) (tu s (l.get a)) (k:Int) w K=cond (yu s l (c ++ [((a:Int),(k:Int))])) ((E.Js ((s,l,TP x t ((a:Int),(k:Int)),((a+1:Nat):Int)),nO w (TP x t ((a:Int),(k:Int))))).T λ r3=>tK E n0 n1 s l t (a:Int) (tu s (l.get a)) ((k+1:Nat):Int) r3 K) (tK E n0 n1 s l t (a:Int) (tu s (l.get a)) ((k+1:Nat):Int) w K):=λ A K=>by
     rw[VU,decide_eq_true (by omega),cond_true,decide_eq_true (by omega),cond_true,zro _ _ _ (by omega) (by rw[ht.2];omega),bi,ht.1,ag,bi,jl (by omega) (by omega),bQ (by omega),bQ (by omega)];rfl
    rw[XY,List.foldl_cons];cases hag:yu s l (c ++ [((a:Int),(k:Int))]) with
    | false =>
     have e:stC s l x f c (Aq w) ((a:Int),(k:Int))=Aq w:=by
      show cond (vW l c (a:Int) || (_ || !yu s l (c ++ [((a:Int),(k:Int))]))) _ _=_;rw[hag,Bool.not_false,Bool.or_true,Bool.or_true];rfl
     rw[e];obtain⟨w',a1,a2,a3⟩:=ih (k+1) n1 w (by omega) (by omega) hw hwl;exact⟨w',λ A K=>by rw[st,hag];exact a1 A K,a2,a3⟩
    | true =>
     have e:stC s l x f c (Aq w) ((a:Int),(k:Int))=Oo (yu s l) (vW l) (En s l x) f (Aq w ++ [c ++ [((a:Int),(k:Int))]]) (c ++ [((a:Int),(k:Int))]) (a+1):=by
      show cond (vW l c (a:Int) || (decide (2000 < (Aq w).length) || !yu s l (c ++ [((a:Int),(k:Int))]))) _ _=_;rw[hag,hus,jy,decide_eq_false hfull];rfl
     rw[e];obtain⟨w1,b1,b2,b3⟩:=hm s l x (TP x t ((a:Int),(k:Int))) _ (a+1) (nO w (TP x t ((a:Int),(k:Int)))) he hv2 hc2 (Ce ht.2) (by omega) (SY hw (Ce ht.2)) (by show w.len+1<=_;omega);rw[Yz,hc2] at b2;have l1:w1.len<=2001:=by
      rw[<- jy,b2];exact OG (by rw[O8,jy];simp only[Ey,TK];omega)
     obtain⟨w',a1,a2,a3⟩:=ih (k+1) n1 w1 (by omega) (by omega) b3 l1;rw[b2] at a2;exact⟨w',λ A K=>by rw[st,hag,cond_true,b1,bi];exact a1 A K,a2,a3⟩
 have zls:∀ (ys:jd) (out:List jd),out.length<=2001->(ys.foldl (stC s l x f c) out).length<=2001:=by
  intro ys
  induction ys with
  | nil=>intro out h;exact h
  | cons p ys ih =>
   intro out h;rw[List.foldl_cons];refine ih _ ?_;show (cond (vW l c p.1 || (decide (2000 < out.length) || !yu s l (c ++ [p]))) out _).length<=_;cases hq:vW l c p.1 || (decide (2000 < out.length) || !yu s l (c ++ [p])) with
   | true=>exact h
   | false =>
    simp only[Bool.or_eq_false_iff,decide_eq_false_iff_not] at hq;exact OG (by rw[O8];simp only[Ey,TK];omega)
 have key:∀ (d a n:Nat) (w:Sl aj),a+d=l.len->i<=a->d < n->wV x w->w.len<=2001->∃ w',(∀ (A:Type) (K:Sl aj->Option A),oJ E n s l t (a:Int) w K=K w')/\Aq w'=(sdL s l x d a).foldl (stC s l x f c) (Aq w)/\wV x w':=by
  intro d
  induction d with
  | zero =>
   intro a n w ha hi hn hw hwl;obtain⟨n,rfl⟩:∃ n',n=n'+1:=⟨n - 1,by omega⟩;exact⟨w,λ A K=>by rw[ze9,decide_eq_false (by omega)];rfl,rfl,hw⟩
  | succ d ih =>
   intro a n w ha hi hn hw hwl;obtain⟨n,rfl⟩:∃ n',n=n'+1:=⟨n - 1,by omega⟩;have hpl:=he.pl (i:=a) (by omega);rw[sdL,List.foldl_append];have us:E.c87 (l,t.Hits,(l.get a).ai)=.ok (vW l c (a:Int)):=by
    rw[h87 l t.Hits _ (by omega) (Cc hc hv)];refine congrArg ae.ok ?_;have:=zgj (l:=l) hc λ h=>(l.get h.toNat).ai == (l.get a).ai;unfold vW;rw[Int.toNat_natCast,<- this];rfl
   have st:∀ (A:Type) (K:Sl aj->Option A),oJ E (n+1) s l t (a:Int) w K=cond (O4 s l a != x) (oJ E n s l t ((a+1:Nat):Int) w K) (cond (vW l c (a:Int)) (oJ E n s l t ((a+1:Nat):Int) w K) (tK E n E.N s l t (a:Int) (tu s (l.get a)) ((0:Nat):Int) w K)):=λ A K=>by
    rw[ze9,decide_eq_true (by omega),cond_true,bC (by omega),Int.toNat_natCast,bC hpl,us,bi,h75 s _ he.sh hpl,bi,bQ (by omega),ht.1];rfl
   cases hv1:O4 s l a == x with
   | false =>
    have e1:(O4 s l a != x)=true:=by rw[bne,hv1];rfl
    rw[e1] at st;obtain⟨w',a1,a2,a3⟩:=ih (a+1) n w (by omega) (by omega) (by omega) hw hwl;exact⟨w',λ A K=>by rw[st];exact a1 A K,a2,a3⟩
   | true =>
    have e1:(O4 s l a != x)=false:=by rw[bne,hv1];rfl
    rw[e1] at st;rw[cond_true];cases hu:vW l c (a:Int) with
    | true =>
     rw[hu] at st;obtain⟨w',a1,a2,a3⟩:=ih (a+1) n w (by omega) (by omega) (by omega) hw hwl;exact⟨w',λ A K=>by rw[st];exact a1 A K,by rw[zgk hu];exact a2,a3⟩
    | false =>
     rw[hu] at st;obtain⟨w1,b1,b2,b3⟩:=XZ n a hi (by omega) (eq_of_beq hv1) hu (vP s l a) 0 E.N w (by omega) (by have:=zA s l a;omega) hw hwl;have l1:w1.len<=2001:=by
      rw[<- jy,b2];exact zls _ _ (by rw[jy];exact hwl)
     obtain⟨w',a1,a2,a3⟩:=ih (a+1) n w1 (by omega) (by omega) (by omega) b3 l1;rw[b2] at a2;exact⟨w',λ A K=>by rw[st];exact (b1 A K).trans (a1 A K),a2,a3⟩
 obtain⟨w',a1,a2,a3⟩:=key (l.len - i) i E.N w (by omega) (iM _) (by omega) hw hn;refine⟨w',ae.ext λ K=>by rw[e195,bi];exact a1 _ K,?_,a3⟩;rw[a2,Oo];rfl
def Td (s:ak) (l:Sl bz) (x:Int):List jd:=Oo (yu s l) (vW l) (En s l x) 30 [] [] 0
theorem YD {s:ak}{l:Sl bz}{x:Int}(h:(Td s l x).length<=2000):Td s l x=nD s l x:=by
 have:=(zf5 (f:=30) (out:=[]) (c:=[]) (i:=0)).2 h;rw[List.nil_append] at this;exact this
abbrev zsB (C:ak×Sl bz×Int->ae (Sl aj×Bool)):Prop:=∀ s l x,Ev s l x->∃ w,C (s,l,x)=.ok (w,decide ((Td s l x).length<=2000))/\Aq w=Td s l x/\wV x w/\w.len<=2001
theorem zML {E:zan}(hm:QW 30 E.Js):zsB (zjZ E):=λ s l x he=>by
 have qB:=he.l24;obtain⟨w',a,b,d⟩:=hm s l x ⟨x,⟨0,λ _=>default⟩,⟨0,λ _=>default⟩⟩ [] 0 ⟨0,λ _=>⟨0,⟨0,λ _=>default⟩,⟨0,λ _=>default⟩⟩⟩ he (YC s l x) rfl ⟨rfl,rfl⟩ (by omega) (λ i hi=>absurd hi (O0 i)) (Nat.zero_le _);have hb:Aq w'=Td s l x:=b;refine⟨w',ae.ext λ k=>?_,hb,d,?_⟩
 ·rw [e153];show (E.Js ((_,_,_,((0:Nat):Int)),_)).T _=_;rw[a,bi,bi];have:decide ((w'.len:Int)<=2000)=decide ((Td s l x).length<=2000):=by rw[<- hb,jy];exact decide_eq_decide.2 (by omega)
  rw[this]
 ·rw[<- jy,hb];exact OG (Nat.zero_le _)
abbrev zsC (C:Int->ae Bool):Prop:=∀ x,C x=.ok false
theorem zMM {E:zaZ} : zsC (zkR E):=λ x=>ae.ext λ k=>by rw[e237,bi,show (x != x)=false by simp]
abbrev zsD (C:Int×Int->ae Bool):Prop:=∀ a b,C (a,b)=.ok (decide (a < b))
theorem zMN {E:zaY}(Ry:zla E.Jq):zsD (zkQ E):=λ a b=>ae.ext λ k=>by rw[zK8,Ry,bi,bi];rfl
theorem zsE {a:Int}(h:0<=a/\a<=1000000):aO (yE .u64 (IntKind.u64.wrap (aO a)) 1)=a / 2:=by
 have e1:aO a=a:=aY (by omega) (by omega);have e2:IntKind.u64.wrap a=a:=by
  have hb:IntKind.u64.bits=64:=rfl;have hs:IntKind.u64.signed=false:=rfl;unfold IntKind.wrap;rw[hb,hs];simp only[Bool.false_and,Bool.false_eq_true,if_false];omega
 have e3:yE .u64 a 1=a / 2:=by
  show a.fdiv (2 ^ (min (1:Int).toNat 64))=_;rw[Int.fdiv_eq_ediv_of_nonneg _ (by decide)];rfl
 rw[e1,e2,e3,aY (by omega) (by omega)]
def hasB (w:Sl Int) (x:Int):Bool:=!dS (λ j=>!decide (w.get j=x)) w.len
theorem IE {w:Sl Int}{x:Int} : hasB w x=true↔∃ j,j < w.len/\w.get j=x:=by
 unfold hasB;rw[Bool.not_eq_true',<- Bool.not_eq_true,dA];constructor
 ·intro h;apply Classical.byContradiction;intro hc;exact h λ i hi=>by simpa using λ e=>hc ⟨i,hi,e⟩
 ·rintro ⟨j, hj, e⟩ h;have:=h j hj;simp[e] at this
def zlt (w:Sl Int):Prop:=∀ i j,i < j->j < w.len->w.get i < w.get j
abbrev zsF (C:Sl Int×Int->ae (Int×Bool)):Prop:=∀ w x,zlt w->w.len<=1000->∃ r,C (w,x)=.ok (r,hasB w x)
theorem zMO {E:VW}(N:Big E.N) (zru:zsD E.c236) (zrv:zsC E.zg7):zsF (zkA E):=λ w x hw hl=>by
 have key:∀ (d i j n:Nat),i+d=j->j<=w.len->d < n->(∀ p,p < i->w.get p < x)->(∀ p,j<=p->p < w.len->x<=w.get p)->∃ r,∀ (A:Type) (k:Int×Bool->Option A),vU E n w x (i:Int) (j:Int) k=k (r,hasB w x):=by
  intro d
  induction d using Nat.strongRecOn with
  | _ d ih =>
   intro i j n hd hj hn h1 h2;obtain⟨n,rfl⟩:∃ n',n=n'+1:=⟨n - 1,by omega⟩;by_cases h0:d=0
   ·have e : i = j := by omega
    subst e;have no:(i < w.len->w.get i ≠ x)->hasB w x=false:=λ hn=>by
     cases hb:hasB w x with
     | false=>rfl
     | true =>
      obtain⟨p,hp,e⟩:=IE.1 hb;rcases Nat.lt_trichotomy p i with q | q | q
      ·have:=h1 p q;omega
      ·subst q;exact absurd e (hn hp)
      ·have a := hw i p q hp;have:=h2 i (iM _) (by omega);omega
    by_cases hi:i < w.len
    ·by_cases hx : w.get i = x
     ·refine ⟨(i : Int), fun A k => ?_⟩;rw[NZ,decide_eq_false (by omega),cond_false,decide_eq_true (by omega),cond_true,bC (by omega),Int.toNat_natCast,show (w.get i == x)=true by simpa using hx,cond_true,IE.2 ⟨i,hi,hx⟩]
     ·refine ⟨(i : Int), fun A k => ?_⟩;rw[NZ,decide_eq_false (by omega),cond_false,decide_eq_true (by omega),cond_true,bC (by omega),Int.toNat_natCast,show (w.get i == x)=false by simpa using hx,cond_false,bC (by omega),zrv,bi,no λ _=>hx];rfl
    ·refine ⟨(i : Int), fun A k => ?_⟩;rw[NZ,decide_eq_false (by omega),cond_false,decide_eq_false (by omega),cond_false,no λ h=>absurd h hi]
   ·have em : aO (yE .u64 (IntKind.u64.wrap (aO ((i : Int) + (j : Int)))) 1) = (((i + j) / 2 : Nat) : Int) := by rw [zsE (by omega)]; omega
    generalize hm:(i+j) / 2=m at em;have m1:i<=m/\m < j:=by omega
    have st:∀ (A:Type) (k:Int×Bool->Option A),vU E (n+1) w x (i:Int) (j:Int) k=cond (decide (w.get m < x)) (vU E n w x ((m+1:Nat):Int) (j:Int) k) (vU E n w x (i:Int) (m:Int) k):=λ A k=>by
     rw[NZ,em,decide_eq_true (by omega),cond_true,bC (by omega),Int.toNat_natCast,zru,bi,bQ (by omega)]
    by_cases c:w.get m < x
    ·obtain⟨r,hr⟩:=ih (j - (m+1)) (by omega) (m+1) j n (by omega) hj (by omega) (λ p hp=>by
      by_cases e:p=m
      ·rw[e];exact c
      ·have:=hw p m (by omega) (by omega);omega) h2
     exact⟨r,λ A k=>by rw[st,decide_eq_true c];exact hr A k⟩
    ·obtain⟨r,hr⟩:=ih (m - i) (by omega) i m n (by omega) (by omega) (by omega) h1 (λ p hp hp2=>by
      by_cases e:p=m
      ·rw[e];omega
      ·have:=hw m p (by omega) hp2;omega)
     exact⟨r,λ A k=>by rw[st,decide_eq_false c];exact hr A k⟩
 obtain⟨r,hr⟩:=key w.len 0 w.len E.N (by omega) (iM _) (by have:=N;omega) (λ p hp=>absurd hp (O0 p)) (λ p h1 h2=>by omega);exact⟨r,ae.ext λ k=>by rw[zKx,bi];exact hr _ k⟩
def jh (p:ai):Int:=cond (p.Kind == 2) (aO (p.aT.tdiv 2)) 0
def zMP (p:ai) (c:Nat):bV:=⟨aO (aO (p.First+aO ((c:Int) * p.aT)) - jh p),aO (aO (aO (aO (p.First+aO ((c:Int) * p.aT)) - jh p)+p.aT) - 1)⟩
def OH (p : ai) : Nat → Nat → List (Int × bV)
  | 0,_=>[]
  | m+1,c=>cond (hasB p.Dead (c:Int)) (OH p m (c+1)) (((c:Int),zMP p c) :: OH p m (c+1))
abbrev zsG (I:Pt placed->ae (List (Int×bV))):Prop:=∀ q:Pt placed,Q4 q.v.ai->zlt q.v.ai.Dead->q.v.ai.Dead.len<=1000->I q=.ok (OH q.v.ai q.v.ai.bM.toNat 0)
theorem zMQ {E:Rx}(N:Big E.N) (zrt:zsF E.zml):zsG (zrr E):=λ q hp hi hl=>by
 refine zx ?_ (λ _=>rfl) (λ _=>rfl);obtain⟨_,_,_,_,_,hst,_⟩:=hp;have key:∀ (m c n:Nat),c+m=q.v.ai.bM.toNat->m < n->BL E n q (jh q.v.ai) (c:Int)=some ((OH q.v.ai m c).map dC.enc):=by
  intro m
  induction m with
  | zero =>
   intro c n hc hn;obtain⟨n,rfl⟩:∃ n',n=n'+1:=⟨n - 1,by omega⟩;rw[zfb,decide_eq_false (by omega)];rfl
  | succ m ih =>
   intro c n hc hn;obtain⟨n,rfl⟩:∃ n',n=n'+1:=⟨n - 1,by omega⟩;obtain⟨r,hr⟩:=zrt q.v.ai.Dead (c:Int) hi hl;rw[zfb,decide_eq_true (by omega),cond_true,hr,bi,bQ (by omega),ih (c+1) n (by omega) (by omega)];show cond (hasB q.v.ai.Dead (c:Int)) _ _=_;simp only[OH];cases hasB q.v.ai.Dead (c:Int) <;> rfl
 have h0:=key q.v.ai.bM.toNat 0 E.N (by omega) (by have:=N;omega);rw[e204];unfold jh at h0;revert h0;cases q.v.ai.Kind == 2 <;> exact id
def nxt : List (Int × bV) → Int → Int
  | [],n=>n
  | y :: r,n=>nxt r (cond (decide (y.2.Low<=n) && decide (n<=y.2.High)) (aO (y.2.High+1)) n)
def zgl (x:bV):Bool:=decide (-1000000<=x.Low/\x.Low<=x.High/\x.High<=1000000)
def IG (p:ai) (x:bV):Bool:=decide (nxt (OH p p.bM.toNat 0) (aO (x.Low - p.bn.High)) > aO (x.High - p.bn.Low))
theorem zlu {p:ai}(h:ZX p=true):zlt p.Dead/\p.Dead.len<=100:=by
 simp only[ZX,fA,decide_eq_true_eq,dA] at h;obtain⟨⟨_,h1⟩,h2⟩:=h;refine⟨λ i j=>?_,h1⟩;have step:∀ j,j+1 < p.Dead.len->p.Dead.get j < p.Dead.get (j+1):=λ j hj=>by
  have:=h2 (j+1) hj;simp only[dB,fA,Bool.or_eq_true,decide_eq_true_eq,Nat.add_sub_cancel] at this;exact this.2.resolve_left (by omega)
 intro hij hj
 induction j with
 | zero=>omega
 | succ j ih =>
  have:=step j hj;by_cases e:i=j
  ·rw[e];exact this
  ·have:=ih (by omega) (by omega);omega
abbrev zsH (C:ak×Int×bV->ae (Bool×Bool×Int)):Prop:=∀ s (i:Nat) x,qy s->dW s=true->i < s.af.len->∃ b,C (s,(i:Int),x)=.ok (cond (zgl x) (IG (s.af.get i) x,b,0) (false,false,2))
theorem zMR {E:Q9}(xY:QSe E.c160) (jH:yA E.fP) (QX:zjg E.c164) (zb5:zsG E.zb5):zsH (zjx E):=λ s i x hs hb hi=>by
 have hl:=nN hb;obtain⟨d1,d2⟩:=zlu (Hl hb hi);have key:∀ (l:List (Int×bV)) (lo hg nx:Int) (cn:Bool),∃ b,∀ (A:Type) (k:Bool×Bool×Int->Option A),qC E l s (i:Int) lo hg cn nx k=k (decide (nxt l nx > hg),b,0):=by
  intro l
  induction l with
  | nil=>intro lo hg nx cn;exact⟨cn,λ A k=>zjy ..⟩
  | cons y l ih =>
   intro lo hg nx cn;have st:∃ cn',∀ (A:Type) (k:Bool×Bool×Int->Option A),qC E (y :: l) s (i:Int) lo hg cn nx k=qC E l s (i:Int) lo hg cn' (cond (decide (y.2.Low<=nx) && decide (nx<=y.2.High)) (aO (y.2.High+1)) nx) k:=by
    have e2:∀ cn' (A:Type) (k:Bool×Bool×Int->Option A),Hr E l s (i:Int) lo hg cn' nx y.2 k=qC E l s (i:Int) lo hg cn' (cond (decide (y.2.Low<=nx) && decide (nx<=y.2.High)) (aO (y.2.High+1)) nx) k:=λ cn' A k=>by
     rw[zqP];cases decide (y.2.Low<=nx) <;> cases decide (nx<=y.2.High) <;> rfl
    cases cn with
    | true=>exact⟨true,λ A k=>by rw[Vm];exact e2 _ A k⟩
    | false =>
     cases hd:decide (aO (y.2.Low - (s.af.get (i:Int).toNat).dE)<=hg) with
     | true=>exact⟨_,λ A k=>by rw[Vm,hd];exact e2 _ A k⟩
     | false=>exact⟨false,λ A k=>by rw[Vm,hd];exact e2 _ A k⟩
   obtain⟨cn',h⟩:=st;obtain⟨b,h2⟩:=ih lo hg (cond (decide (y.2.Low<=nx) && decide (nx<=y.2.High)) (aO (y.2.High+1)) nx) cn';exact⟨b,λ A k=>by rw[h,h2];rfl⟩
 obtain⟨b,hk⟩:=key (OH (s.af.get i) (s.af.get i).bM.toNat 0) (aO (x.Low - (s.af.get i).bn.High)) (aO (x.High - (s.af.get i).bn.Low)) (aO (x.Low - (s.af.get i).bn.High)) false;refine⟨b,ae.ext λ k=>?_⟩;rw[e115,xY s hs,bi,hb,jH,bi,bi,BI (by omega),show inB (i:Int) 0 ((s.af.len:Int) - 1)=true from decide_eq_true (by omega),QX _ _ (by omega),bi,bC (by omega),Int.toNat_natCast,zb5 ⟨⟨s.af.get i,(i:Int)⟩⟩ (ni hb hi) d1 (by show (s.af.get i).Dead.len<=1000;omega),bi];show cond (!decide (-1000000<=x.Low/\x.Low<=x.High/\x.High<=1000000)) _ _=_;rw[show decide (-1000000<=x.Low/\x.Low<=x.High/\x.High<=1000000)=zgl x from rfl];cases zgl x with
 | false=>rfl
 | true=>exact hk _ k
/-! Fractions, rounded. -/
def FlK (f:aQ):Prop:=(-100000000000000000<=f.Num/\f.Num<=100000000000000000)/\0 < f.bI/\f.bI<=100000000000000000
abbrev zlv (C:aQ->ae Int):Prop:=∀ f,FlK f->C f=.ok (f.Num / f.bI)
theorem zgm {a b:Int}(h1 : -100000000000000000<=a/\a<=100000000000000000) (h2:0 < b) : -100000000000000000<=a / b/\a / b<=100000000000000000:=by
 refine⟨Int.le_ediv_of_mul_le h2 ?_,?_⟩
 ·have := Int.mul_le_mul_of_nonneg_left (show (1 : Int) ≤ b by omega) (show (0 : Int) ≤ 100000000000000000 by omega);omega
 ·rcases Int.lt_or_le a 0 with h | h
  ·have:=Int.ediv_neg_of_neg_of_pos h h2;omega
  ·have:=Int.ediv_le_self b h;omega
theorem zMS {E:zaH} : zlv (zkp E):=λ f h=>ae.ext λ k=>by
 obtain⟨h1,h2,h3⟩:=h;have q:=zgm h1 h2;rw[zJ0,bi];by_cases hn:f.Num < 0
 ·have e1:(-f.Num+f.bI - 1) / f.bI = -(f.Num / f.bI):=by
   have a:=Int.emod_add_mul_ediv f.Num f.bI;have b:=Int.emod_nonneg f.Num (show f.bI ≠ 0 by omega);have c:=Int.emod_lt_of_pos f.Num h2;refine ((Int.ediv_emod_unique (r:=f.bI - 1 - f.Num % f.bI) h2).2 ⟨?_,by omega,by omega⟩).1;rw[Int.mul_neg];omega
  rw[decide_eq_true hn,cond_true,bC (by omega),aY (x:=0 - f.Num) (by omega) (by omega),aY (x:=0 - f.Num+f.bI) (by omega) (by omega),aY (x:=0 - f.Num+f.bI - 1) (by omega) (by omega),Int.tdiv_eq_ediv_of_nonneg (by omega),show 0 - f.Num+f.bI - 1 = -f.Num+f.bI - 1 by omega,e1,aY (x:=-(f.Num / f.bI)) (by omega) (by omega),show 0 - -(f.Num / f.bI)=f.Num / f.bI by omega,aY (by omega) (by omega)]
 ·rw[decide_eq_false hn,cond_false,bC (by omega),Int.tdiv_eq_ediv_of_nonneg (by omega),aY (by omega) (by omega)]
abbrev zsJ (C:aQ->ae Int):Prop:=∀ f,FlK f->C f=.ok (-(-f.Num / f.bI))
theorem zMT {E:zaI}(Vz:zlv E.JR):zsJ (zkq E):=λ f h=>ae.ext λ k=>by
 obtain⟨h1,h2,h3⟩:=h;have q:=zgm (a:=-f.Num) (by omega) h2;rw[zJ4,aY (x:=0 - f.Num) (by omega) (by omega),show 0 - f.Num = -f.Num by omega,Vz ⟨-f.Num,f.bI⟩ ⟨by show _<=-f.Num/\-f.Num<=_;omega,h2,h3⟩,bi,bi];show k (aO (0 - -f.Num / f.bI))=_;rw[aY (by omega) (by omega),show 0 - -f.Num / f.bI = -(-f.Num / f.bI) by omega]
def ls {α:Type}(w:Sl α):List α:=(List.range w.len).map w.get
theorem qF {α:Type}(w:Sl α):(ls w).length=w.len:=by simp[ls]
theorem zgn {α:Type}{w:Sl α}{i:Nat}(h:i < w.len):(ls w)[i]? = some (w.get i):=by simp[ls,List.getElem?_range h]
theorem kG {α:Type}{w:Sl α}{x:α} : x∈ls w↔∃ i,i < w.len/\w.get i=x:=by simp[ls]
theorem zgo {α:Type} [bG α] [qp α] (w:Sl α) (x:α):ls (nO w x)=ls w ++ [x]:=by
 unfold ls;show (List.range (w.len+1)).map _=_;rw[List.range_succ,List.map_append];congr 1
 ·exact List.map_congr_left λ i hi=>by
   show jf w.len w.get (λ _=>x) i=_;rw[gJ,if_neg (by have:=List.mem_range.1 hi;omega)]
 ·show [jf w.len w.get (fun _ => x) w.len] = _;rw[gJ,if_pos (iM _)]
theorem zsK {α:Type} [bG α] [qp α] (a b:Sl α):ls (⟨a.len+b.len,jf a.len a.get b.get⟩:Sl α)=ls a ++ ls b:=by
 unfold ls;show (List.range (a.len+b.len)).map (jf a.len a.get b.get)=_;rw[List.range_add,List.map_append,List.map_map];congr 1
 ·exact List.map_congr_left λ i hi=>by rw[gJ,if_neg (by have:=List.mem_range.1 hi;omega)]
 ·exact List.map_congr_left λ i _=>by
   show jf a.len a.get b.get (a.len+i)=_;rw[gJ,if_pos (by omega),Nat.add_sub_cancel_left]
theorem Wl (w:Sl aj):Aq w=(ls w).map iy:=by unfold Aq ls;rw[List.map_map];rfl
theorem zlw {x:Int}{w:Sl aj} : wV x w↔∀ t∈ls w,O6 x t:=by
 constructor
 ·intro h t ht;obtain⟨i,hi,rfl⟩:=kG.1 ht;exact h i hi
 ·intro h i hi;exact h _ (kG.2 ⟨i,hi,rfl⟩)
def OI {α : Type} [bG α] (z : Nat → α) (p : α → Bool) (w : Sl α) : Nat → Sl α
  | 0=>⟨0,z⟩
  | i+1=>cond (p (w.get i)) (nO (OI z p w i) (w.get i)) (OI z p w i)
theorem wL {α : Type} [bG α] (z : Nat → α) (p : α → Bool) (w : Sl α) : ∀ n, (OI z p w n).len ≤ n
  | 0=>iM _
  | n+1=>by
    have:=wL z p w n;simp only[OI];cases p (w.get n) with
    | true=>show (OI z p w n).len+1<=n+1;omega
    | false=>show (OI z p w n).len<=n+1;omega
theorem OJ {α : Type} [bG α] [qp α] (z : Nat → α) (p : α → Bool) (w : Sl α) : ∀ n, ls (OI z p w n) = ((List.range n).map w.get).filter p
  | 0=>rfl
  | n+1=>by
    rw[List.range_succ,List.map_append,List.filter_append,<- OJ z p w n];simp only[OI,nR,List.map_nil];cases h:p (w.get n) with
    | true=>rw[cond_true,zgo];simp[h]
    | false=>rw[cond_false];simp[h]
def usP (l:Sl bz) (c:jd) (i:Nat):Bool:=c.any λ q=>(l.get q.1.toNat).ai == (i:Int)
def atB (g : Sl aB) (p : ai) : Bool := cond ((opn' g p).2 != 0) false (cond (decide ((yB g p.Z).1.Num / (yB g p.Z).1.bI < -1000000)) false (cond (decide (-(-(yB g p.Z).2.Num / (yB g p.Z).2.bI) > 1000000)) false
  (zgl ⟨(yB g p.Z).1.Num / (yB g p.Z).1.bI,-(-(yB g p.Z).2.Num / (yB g p.Z).2.bI)⟩ && IG p ⟨(yB g p.Z).1.Num / (yB g p.Z).1.bI,-(-(yB g p.Z).2.Num / (yB g p.Z).2.bI)⟩)))
where opn' (g:Sl aB) (p:ai):set×Int:=BR g ((g.get 0).Z == p.Z)
def Tf (s:ak) (l:Sl bz) (x:Int) (c:jd) (i:Nat):Bool:=cond ((s.af.get i).View != x) false (cond (usP l c i) false (atB (wU s l c) (s.af.get i)))
def zsL (s:ak) (l:Sl bz) (x:Int) (c:jd):List Int:=((List.range' 0 s.af.len).filter (Tf s l x c)).map Int.ofNat
theorem Et {a b:Int}(h1 : -100000000000000000<=a) (h2:a<=100000000000000000) (hb:0 < b) (hb2:b<=100000000000000000):FlK (red a b):=by
 have r1:=wI (num:=a) hb;have r2:=BP (num:=a) hb;have r3:=gW (num:=a) hb;exact⟨by omega,by omega,by omega⟩
theorem zsM {g:Sl aB}(G:df g){z:Int}(hz:JM z) (hc:eX g=false->0 < (kH g).length):FlK (yB g z).1/\FlK (yB g z).2:=by
 have hg:=G.2;unfold yB;cases hf:eX g with
 | true =>
  obtain⟨a,b⟩:=Es G.1 (by omega) g.len (iM _);exact⟨Et (by omega) (by omega) (by omega) (by omega),Et (by omega) (by omega) (by omega) (by omega)⟩
 | false =>
  obtain⟨⟨s,s1,s2⟩,_⟩:=zf7 G z (hc hf);obtain⟨⟨t,t1,t2⟩,_⟩:=zf8 G z (hc hf);have a:=OB (ny G s1) hz;have b:=OB (ny G t1) hz;rw[<- s2] at a;rw[<- t2] at b;exact⟨Et (by omega) (by omega) (by omega) (by omega),Et (by omega) (by omega) (by omega) (by omega)⟩
theorem zgp {p:ai}(h:Q4 p):JM p.Z:=by
 obtain⟨_,_,hz,_⟩:=h;exact⟨by omega,by omega⟩
theorem znC {g:Sl aB}(G:df g){b:Bool}(h:(BR g b).2=0):iC g=true/\(eX g=false->0 < (kH g).length):=by
 unfold BR at h;rw[lH.2 G] at h;cases hs:iC g with
 | false=>rw[hs] at h;cases h
 | true =>
  refine⟨rfl,λ hf=>?_⟩;unfold iC at hs;rw[hf,cond_false,decide_eq_true_eq] at hs;omega
abbrev zsN (C:Pt aX×aj->ae (Sl Int)):Prop:=∀ s l r x t c j,Ev s l x->O6 x t->iy t=c->Val s l x c j->c ≠ []->∃ w:Sl Int,C (iR s r l,t)=.ok w/\ls w=zsL s l x c
theorem zMU {E:Vu}(N:Big E.N) (Vx:zjm E.c105) (Vy:zlq E.Jp) (zq2:zso E.zg0) (Vz:zlv E.JR) (zq3:zsJ E.zmi) (zq4:zsH E.zg1):zsN (zjO E):=λ s l r x t c j he ht hc hv hn=>by
 have hl:=pK hc hv;have qB:=he.l24;have G:=BU he.toEvt he.l24 hv hn;have hp:=nN he.se;have key:∀ (m i n:Nat) (w:Sl Int),i+m=s.af.len->m < n->w.len<=i->∃ w':Sl Int,(∀ (A:Type) (k:Sl Int->Option A),kD E n (iR s r l) t (wU s l c) (i:Int) w k=k w')/\ls w'=ls w ++ ((List.range' i m).filter (Tf s l x c)).map Int.ofNat:=by
  intro m
  induction m with
  | zero =>
   intro i n w hi hn hw;obtain⟨n,rfl⟩:∃ n',n=n'+1:=⟨n - 1,by omega⟩;exact⟨w,λ A k=>by rw[zeH,decide_eq_false (by show ¬ (i:Int) < (s.af.len:Int);omega)];rfl,by simp⟩
  | succ m ih =>
   intro i n w hi hn hw;obtain⟨n,rfl⟩:∃ n',n=n'+1:=⟨n - 1,by omega⟩;have hpl:=ni he.se (i:=i) (by omega);have hz:=zgp hpl;rw[List.range'_succ];have st:∀ (A:Type) (k:Sl Int->Option A),kD E (n+1) (iR s r l) t (wU s l c) (i:Int) w k=cond (Tf s l x c i) (kD E n (iR s r l) t (wU s l c) ((i+1:Nat):Int) (nO w (i:Int)) k) (kD E n (iR s r l) t (wU s l c) ((i+1:Nat):Int) w k):=λ A k=>by
    have u:E.Jp (t.Hits,.inr ⟨(),⟨iR s r l⟩,⟨(i:Int)⟩⟩)=.ok (usP l c i):=by
     rw[Vy s l r t.Hits (.inr ⟨(),⟨iR s r l⟩,⟨(i:Int)⟩⟩) (Cc hc hv) (by omega) rfl];exact congrArg ae.ok (zgj (l:=l) hc λ h=>(l.get h.toNat).ai == (i:Int))
    rw[zeH,decide_eq_true (show (i:Int) < ((iR s r l).v.ak.af.len:Int) by show (i:Int) < (s.af.len:Int);omega),cond_true,bC (show 0<=(i:Int)/\(i:Int) < ((iR s r l).v.ak.af.len:Int) by show _/\(i:Int) < (s.af.len:Int);omega),Int.toNat_natCast,u,bi,bQ (by omega),ht.1];show cond ((s.af.get i).View != x) _ _=_;unfold Tf;cases (s.af.get i).View != x with
    | true=>rfl
    | false =>
     simp only[cond_false];cases usP l c i with
     | true=>rfl
     | false =>
      simp only[cond_false];show (E.zg0 (wU s l c,(s.af.get i).Z)).T _=_;rw[zq2 _ _ G hz,bi];unfold atB atB.opn';cases ho:(BR (wU s l c) (((wU s l c).get 0).Z == (s.af.get i).Z)).2 != 0 with
      | true =>
       simp only[cond_true];show cond ((BR (wU s l c) (((wU s l c).get 0).Z == (s.af.get i).Z)).2 != 0) _ _=_;rw[ho];rfl
      | false =>
       obtain⟨_,hco⟩:=znC G (by simpa using ho);obtain⟨b1,b2⟩:=zsM G hz hco;simp only[cond_false];show (E.JR (yB (wU s l c) (s.af.get i).Z).1).T _=_;rw[Vz _ b1,bi,zq3 _ b2,bi];generalize (yB (wU s l c) (s.af.get i).Z).1.Num / (yB (wU s l c) (s.af.get i).Z).1.bI=fa;generalize -(-(yB (wU s l c) (s.af.get i).Z).2.Num / (yB (wU s l c) (s.af.get i).Z).2.bI)=fb;cases decide (fa < -1000000) with
       | true=>rfl
       | false =>
        cases decide (fb > 1000000) with
        | true=>rfl
        | false =>
         simp only[cond_false];obtain⟨b,hb⟩:=zq4 s i ⟨fa,fb⟩ he.sh he.se (by omega);show (E.zg1 (s,(i:Int),⟨fa,fb⟩)).T _=_;rw[hb,bi];cases zgl ⟨fa,fb⟩ with
         | false=>rfl
         | true =>
          show cond (IG (s.af.get i) ⟨fa,fb⟩) (aZ (room (w.len+1) 8) _) _=cond (true && IG (s.af.get i) ⟨fa,fb⟩) _ _;rw[jl (by omega) (by omega)];cases IG (s.af.get i) ⟨fa,fb⟩ <;> rfl
   cases hb:Tf s l x c i with
   | true =>
    rw[hb] at st;obtain⟨w',a,b⟩:=ih (i+1) n (nO w (i:Int)) (by omega) (by omega) (by show w.len+1<=i+1;omega);exact⟨w',λ A k=>by rw[st];exact a A k,by rw[b,zgo];simp[hb]⟩
   | false =>
    rw[hb] at st;obtain⟨w',a,b⟩:=ih (i+1) n w (by omega) (by omega) (by omega);exact⟨w',λ A k=>by rw[st];exact a A k,by rw[b];simp[hb]⟩
 obtain⟨w',a,b⟩:=key s.af.len 0 E.N ⟨0,λ _=>0⟩ (by omega) (by have:=N;omega) (iM _);refine⟨w',ae.ext λ k=>?_,b⟩;rw[zIr,Vx s l r t he.toEvt (by omega) (Eo he.vw ht hc hv hn),bi,Ox hc,bi];exact a _ k
def rP (s:ak) (l:Sl bz) (x:Int) (r:bF) (c:jd):Bool:=decide ((c.length:Int) >= r.oW) && decide (((zsL s l x c).length:Int)<=r.rU)
abbrev zsO (C:Pt aX×aj->ae Bool):Prop:=∀ s l r x t c j,Ev s l x->O6 x t->iy t=c->Val s l x c j->c ≠ []->C (iR s r l,t)=.ok (rP s l x r c)
theorem zMV {E:zad}(zqY:zsN E.c141):zsO (zjH E):=λ s l r x t c j he ht hc hv hn=>ae.ext λ k=>by
 obtain⟨w,h1,h2⟩:=zqY s l r x t c j he ht hc hv hn;rw[e129,h1,bi,bi];unfold rP;rw[<- h2,qF,<- hc,nC];show cond (decide ((t.Hits.len:Int) >= r.oW)) (k (decide ((w.len:Int)<=r.rU))) (k false)=_;cases decide ((t.Hits.len:Int) >= r.oW) <;> rfl
/-! Choices that contain others. -/
abbrev zsP (C:Sl Int×Int->ae Int):Prop:=∀ (w:Sl Int) x,w.len<=1000->C (w,x)=.ok (fst (λ j=>x == w.get j) w.len 0)
theorem zMW {E:VG}(N:Big E.N):zsP (zjY E):=λ w x hw=>ae.ext λ k=>by
 rw[e152,bi];refine Dv (L:=λ n i=>NT E n w x i k) (p:=λ j=>x == w.get j) (m:=w.len) (k:=k) (by omega) (λ n i hi=>?_) (λ n=>?_) _ (by have:=N;omega)
 ·rw[zeM,decide_eq_true (by omega),cond_true,bC (by omega),Int.toNat_natCast]
 ·rw[zeM,decide_eq_false (by omega)];rfl
theorem zgq (p : Nat → Bool) : ∀ m i, 0 ≤ fst p m i → ∃ j : Nat, fst p m i = (j : Int) ∧ i ≤ j ∧ j < i + m ∧ p j = true
  | 0,i,h=>by simp[fst] at h
  | m+1,i,h=>by
    simp only[fst] at h ⊢;cases hp:p i with
    | true=>exact⟨i,rfl,iM _,by omega,hp⟩
    | false =>
      rw[hp,cond_false] at h;obtain⟨j,a,b,c,d⟩:=zgq p m (i+1) h;exact⟨j,a,by omega,by omega,d⟩
structure One (t : aj) : Prop where
  le:t.Hits.len<=100
  sd:t.bD.len=t.Hits.len
  un:∀ i j,i < t.Hits.len->j < t.Hits.len->t.Hits.get i=t.Hits.get j->i=j
theorem lS {t:aj}{p:Int×Int} : p∈iy t↔∃ i,i < t.Hits.len/\t.Hits.get i=p.1/\t.bD.get i=p.2:=by
 unfold iy;simp only[uF,List.mem_range];constructor
 ·rintro⟨i,hi,rfl⟩;exact⟨i,hi,rfl,rfl⟩
 ·rintro⟨i,hi,h1,h2⟩;exact⟨i,hi,by rw[h1,h2]⟩
abbrev Q92 (C:aj×aj->ae Bool):Prop:=∀ a b,One a->One b->C (a,b)=.ok (Ac a b)
theorem s92 {E:E92}(N:Big E.N) (zqE:zsP E.c152):Q92 (F92 E):=λ a b ha hb=>ae.ext λ k=>by
 have la:=ha.le;have lb:=hb.le;rw[e92,bi,loopA (L:=λ n i=>Ya E n a b i k) (p:=λ i=>(iy a).contains (b.Hits.get i,b.bD.get i)) (m:=b.Hits.len) (fin:=k (a.View == b.View)) (stop:=k false) (by omega) (λ n i hi=>?_) (λ n=>?_) _ (by have:=N;omega)]
 ·have e:Ac a b=(dS (λ i=>(iy a).contains (b.Hits.get i,b.bD.get i)) b.Hits.len && (a.View == b.View)):=by
   unfold Ac;congr 1
   ·rw [Bool.eq_iff_iff, dA, List.all_eq_true];constructor
    ·intro h i hi;exact h _ (lS.2 ⟨i,hi,rfl,rfl⟩)
    ·intro h p hp;obtain⟨i,hi,h1,h2⟩:=lS.1 hp;have:=h i hi;rw[h1,h2] at this;exact this
   ·rw[Bool.eq_iff_iff,beq_iff_eq,beq_iff_eq];exact eq_comm
  rw[e];cases dS (λ i=>(iy a).contains (b.Hits.get i,b.bD.get i)) b.Hits.len <;> rfl
 ·rw [zns, decide_eq_true (by omega), cond_true, bC (by omega), Int.toNat_natCast, zqE _ _ (by omega), bi];by_cases h0:fst (λ j=>b.Hits.get i == a.Hits.get j) a.Hits.len 0 < 0
  ·have:(iy a).contains (b.Hits.get i,b.bD.get i)=false:=by
    cases hc:(iy a).contains (b.Hits.get i,b.bD.get i) with
    | false=>rfl
    | true =>
     obtain⟨j,hj,h1,_⟩:=lS.1 (List.contains_iff_mem.1 hc);have:=(Yf (λ j=>b.Hits.get i == a.Hits.get j) a.Hits.len 0).2 ⟨j,Nat.zero_le _,by omega,by simp[h1]⟩;omega
   rw[decide_eq_true h0,this];rfl
  ·obtain ⟨j, e, _, hj, hp⟩ := zgq (fun j => b.Hits.get i == a.Hits.get j) a.Hits.len 0 (by omega);have sa:=ha.sd;have sb:=hb.sd;have hp:b.Hits.get i=a.Hits.get j:=eq_of_beq hp;rw[decide_eq_false h0,cond_false,e,bC (by omega),bC (by omega),Int.toNat_natCast];have:(iy a).contains (b.Hits.get i,b.bD.get i)=(a.bD.get j == b.bD.get i):=by
    rw[Bool.eq_iff_iff,List.contains_iff_mem,lS,beq_iff_eq];constructor
    ·rintro ⟨q, hq, h1, h2⟩;have:=ha.un q j hq (by omega) (h1.trans hp);rw[this] at h2;exact h2
    ·intro h;exact⟨j,by omega,hp.symm,h⟩
   rw[this,bne];cases a.bD.get j == b.bD.get i <;> rfl
 ·rw[zns,decide_eq_false (by omega)];rfl
theorem zlx {s:ak}{l:Sl bz}{x:Int}{t:aj}{c:jd}{j:Nat}(qB:l.len<=24) (ht:O6 x t) (hc:iy t=c) (h:Val s l x c j):One t:=by
 have hl:=pK hc h;have lc:c.length=t.Hits.len:=by rw[<- hc,nC]
 refine⟨by omega,ht.2,λ a b ha hb e=>?_⟩;have pw:=List.pairwise_iff_getElem.1 h.pw;have ge:∀ i (hi:i < t.Hits.len),c[i]'(by omega)=(t.Hits.get i,t.bD.get i):=λ i hi=>by
  have:=wK hc hi;rw[yz (by omega)] at this;exact Option.some.inj this
 rcases Nat.lt_trichotomy a b with q | q | q
 ·have := (pw a b (by omega) (by omega) q).1;rw[ge a ha,ge b hb] at this;simp only at this;omega
 ·exact q
 ·have := (pw b a (by omega) (by omega) q).1;rw[ge a ha,ge b hb] at this;simp only at this;omega
def TQ (a b:aj):Bool:=decide ((a.Hits.len:Int) > (b.Hits.len:Int)) && Ac a b
abbrev zsQ (C:aj×Pt aj->ae Bool):Prop:=∀ a (b:Pt aj),One a->One b.v->C (a,b)=.ok (TQ a b.v)
theorem zMY {E:zah}(h92:Q92 E.c92):zsQ (zjK E):=λ a b ha hb=>ae.ext λ k=>by
 rw[zIg,h92 _ _ ha hb,bi,bi];unfold TQ;cases decide ((a.Hits.len:Int) > (b.v.Hits.len:Int)) <;> rfl
abbrev Q97 (C:Sl aj×dN 132 Unit (Pt aj)->ae Int):Prop:=∀ (w:Sl aj) (c:dN 132 Unit (Pt aj)),(∀ t∈ls w,One t)->w.len<=10000->One c.v.v->C (w,c)=.ok (fst (λ j=>TQ (w.get j) c.v.v) w.len 0)
theorem s97 {E:E97}(N:Big E.N) (zqK:zsQ E.zl7):Q97 (F97 E):=λ w c hw hl hc=>ae.ext λ k=>by
 rw[e97,bi];refine Dv (L:=λ n i=>Yc E n w c i k) (p:=λ j=>TQ (w.get j) c.v.v) (m:=w.len) (k:=k) (by omega) (λ n i hi=>?_) (λ n=>?_) _ (by have:=N;omega)
 ·rw[znw,decide_eq_true (by omega),cond_true,bC (by omega),Int.toNat_natCast,zqK _ _ (hw _ (kG.2 ⟨i,hi,rfl⟩)) hc,bi]
 ·rw[znw,decide_eq_false (by omega)];rfl
theorem zgr {α:Type}{w:Sl α}{p:α->Bool} : (!dS (λ j=>!p (w.get j)) w.len)=(ls w).any p:=by
 rw[Bool.eq_iff_iff,Bool.not_eq_true',<- Bool.not_eq_true,dA,List.any_eq_true];constructor
 ·intro h;apply Classical.byContradiction;intro hn;refine h λ j hj=>?_;cases e:p (w.get j) with
  | false=>rfl
  | true=>exact (hn ⟨_,kG.2 ⟨j,hj,rfl⟩,e⟩).elim
 ·rintro ⟨q, hq, e⟩ h;obtain⟨j,hj,rfl⟩:=kG.1 hq;have:=h j hj;rw[e] at this;cases this
abbrev zsR (C:Sl aj×dN 132 Unit (Pt aj)->ae Bool):Prop:=∀ (w:Sl aj) (c:dN 132 Unit (Pt aj)),(∀ t∈ls w,One t)->w.len<=10000->One c.v.v->C (w,c)=.ok ((ls w).any λ x=>TQ x c.v.v)
theorem zM0 {E:zaf}(h97:Q97 E.c97):zsR (zjJ E):=λ w c hw hl hc=>ae.ext λ k=>by
 rw[zIc,h97 w c hw hl hc,bi,bi,ug (λ j=>TQ (w.get j) c.v.v),zgr (p:=λ x=>TQ x c.v.v)]
abbrev zsS (C:aj×Pt (Pt found)->ae Bool):Prop:=∀ t (f:Pt (Pt found)),(∀ t∈ls f.v.v.fits,One t)->f.v.v.fits.len<=10000->One t->C (t,f)=.ok (!(ls f.v.v.fits).any λ x=>TQ x t)
theorem zM1 {E:zae}(zqZ:zsR E.c131):zsS (zjI E):=λ t f hf hl ht=>ae.ext λ k=>by
 rw[zH8,zqZ f.v.v.fits _ hf hl ht,bi,bi]
/-! Those that are as wanted. -/
abbrev Ti:Nat->aj:=λ _=>⟨0,⟨0,λ _=>0⟩,⟨0,λ _=>0⟩⟩
abbrev zly:=dN 129 (Pt aX) Unit ⊕ dN 130 Unit (Pt (Pt found))
def wW : zly → aj → Bool
  | .inl c,t=>rP c.a.v.ak c.a.v.hits t.View c.a.v.rules (iy t)
  | .inr c,t=>!(ls c.v.v.v.fits).any λ x=>TQ x t
structure lJ (s : ak) (l : Sl bz) (t : aj) : Prop where
  ev:Ev s l t.View
  tv:O6 t.View t
  vl:∃ j,Val s l t.View (iy t) j
  ne:iy t ≠ []
theorem lJ.one {s:ak}{l:Sl bz}{t:aj}(h:lJ s l t):One t:=by
 obtain⟨j,hj⟩:=h.vl;exact zlx h.ev.l24 h.tv rfl hj
def okF : zly → Sl aj → Prop
  | .inl c,w=>∃ s l r,c.a=iR s r l/\∀ t∈ls w,lJ s l t
  | .inr c,w=>(∀ t∈ls w,One t)/\(∀ t∈ls c.v.v.v.fits,One t)/\c.v.v.v.fits.len<=10000
abbrev QFi {γ:Type}(i:γ->zly) (C:Sl aj×γ->ae (Sl aj×Unit)):Prop:=∀ (w:Sl aj) (c:γ),okF (i c) w->w.len<=10000->C (w,c)=.ok (OI Ti (wW (i c)) w w.len,())
abbrev zsV (C:Sl aj×zly->ae (Sl aj×Unit)):Prop:=QFi id C
theorem zgs {E:oz}(N:Big E.N) (zqW:zsO E.zl6):QFi .inl (zD E):=λ w c ho hl=>ae.ext λ k=>by
 obtain⟨s,l,r,e,hc⟩:=ho;rw[zeD,bi];refine kz (X:=λ n i=>oC E n w c (i:Int) (OI Ti (wW (.inl c)) w i) k) (m:=w.len) (λ n i hi=>?_) (λ n=>?_) _ (by have:=N;omega)
 ·have h := hc _ (kG.2 ⟨i, hi, rfl⟩);obtain⟨j,hj⟩:=h.vl;have:=wL Ti (wW (.inl c)) w i;have e2:wW (.inl c) (w.get i)=rP s l (w.get i).View r (iy (w.get i)):=by show rP c.a.v.ak c.a.v.hits (w.get i).View c.a.v.rules (iy (w.get i))=_;rw[e];rfl
  rw[Ht,decide_eq_true (by omega),cond_true,bC (by omega),Int.toNat_natCast,e,zqW s l r _ _ _ j h.ev h.tv rfl hj h.ne,bi,jl (by omega) (by omega),bQ (by omega)];simp only[OI,e2];cases rP s l (w.get i).View r (iy (w.get i)) <;> rfl
 ·rw[Ht,decide_eq_false (by omega)];rfl
theorem zgt {E:oD}(N:Big E.N) (zqX:zsS E.c130):QFi .inr (zF E):=λ w c ho hl=>ae.ext λ k=>by
 obtain⟨h1,h2,h3⟩:=ho;rw[zeF,bi];refine kz (X:=λ n i=>oG E n w c (i:Int) (OI Ti (wW (.inr c)) w i) k) (m:=w.len) (λ n i hi=>?_) (λ n=>?_) _ (by have:=N;omega)
 ·have := wL Ti (wW (.inr c)) w i;have e2:wW (.inr c) (w.get i) = !(ls c.v.v.v.fits).any λ x=>TQ x (w.get i):=rfl;rw[Hu,decide_eq_true (by omega),cond_true,bC (by omega),Int.toNat_natCast,zqX _ c.v h2 h3 (h1 _ (kG.2 ⟨i,hi,rfl⟩)),bi,jl (by omega) (by omega),bQ (by omega)];simp only[OI,e2];cases !(ls c.v.v.v.fits).any λ x=>TQ x (w.get i) <;> rfl
 ·rw[Hu,decide_eq_false (by omega)];rfl
theorem zM2 {f:Sl aj×dN 129 (Pt aX) Unit->ae (Sl aj×Unit)}{g:Sl aj×dN 130 Unit (Pt (Pt found))->ae (Sl aj×Unit)}(a:QFi .inl f) (b:QFi .inr g):zsV (ae.two f g):=λ w c ho hl=>by
 rcases c with c | c
 ·exact a w c ho hl
 ·exact b w c ho hl
/-! The order. -/
abbrev zsW (C:Int->ae Bool):Prop:=∀ x,C x=.ok false
theorem zM3 {E:zaR} : zsW (zkF E):=λ x=>ae.ext λ k=>by rw[e222,bi,show (x != x)=false by simp]
theorem zM4 {E:zaF}(zkm:zsW E.c222):V8 (zkl E):=λ a b=>ae.ext λ k=>by
 rw[zJS,zkm,bi,zkm,bi,bi];unfold nz;cases decide (a < b) <;> cases decide (a > b) <;> rfl
abbrev zbe (C:Sl Int×Sl Int->ae Int):Prop:=∀ a b:Sl Int,a.len<=1000->b.len<=1000->C (a,b)=.ok (cmpL (uk a) (uk b))
theorem zM5 {E:VQ}(N:Big E.N) (VM:V8 E.c208):zbe (zkn E):=λ a b ha hb=>ae.ext λ k=>by
 have key:∀ (m i n:Nat),i+m=a.len->m < n->NV E n a b (i:Int) k=k (cmpL ((List.range' i m).map a.get) ((List.range' i (b.len - i)).map b.get)):=by
  intro m
  induction m with
  | zero =>
   intro i n hi hn;obtain⟨n,rfl⟩:∃ n',n=n'+1:=⟨n - 1,by omega⟩;rw[ze2,decide_eq_false (by omega),cond_false,kc k];congr 1;cases h:b.len - i with
   | zero=>rw[decide_eq_false (by omega)];rfl
   | succ q=>rw[decide_eq_true (by omega)];rfl
  | succ m ih =>
   intro i n hi hn;obtain⟨n,rfl⟩:∃ n',n=n'+1:=⟨n - 1,by omega⟩;rw[ze2,decide_eq_true (by omega),cond_true,bC (by omega),List.range'_succ,nR];cases h:b.len - i with
   | zero=>rw[decide_eq_true (by omega)];rfl
   | succ q =>
    rw[decide_eq_false (by omega),cond_false,bC (by omega),Int.toNat_natCast,VM,bi,bQ (by omega),ih (i+1) n (by omega) (by omega),List.range'_succ,nR,kc k,show b.len - (i+1)=q by omega];rfl
 rw[e187,bi];have:=key a.len 0 E.N (by omega) (by have:=N;omega);unfold uk;rw[List.range_eq_range',List.range_eq_range'];exact this
theorem zM6 (a b c:Int):QR [a,b,c] 0=a/\QR [a,b,c] 1=b/\QR [a,b,c] 2=c:=by
 refine⟨?_,?_,?_⟩
 ·show (bG.dec (DD (shp 8) (bG.enc a) (bG.enc a))).1 = a;rw[jT (pY 8) (bG.sm _ _),qp.de]
 ·show (bG.dec (DD (shp 8) (bG.enc a) (bG.enc b))).1 = b;rw[jT (pY 8) (bG.sm _ _),qp.de]
 ·show (bG.dec (DD (shp 8) (bG.enc a) (bG.enc c))).1 = c;rw[jT (pY 8) (bG.sm _ _),qp.de]
abbrev zsX (C:Sl Int->ae Int):Prop:=∀ a b c:Int,C ⟨3,QR [a,b,c]⟩=.ok (cond (a != 0) a (cond (b != 0) b c))
theorem zM7 {E:VP}(N:Big E.N):zsX (zkk E):=λ a b c=>ae.ext λ k=>by
 obtain⟨n,hn⟩:∃ n,E.N=n+1+1+1+1:=⟨E.N - 4,by have:=N;omega⟩;obtain⟨g0,g1,g2⟩:=zM6 a b c;have st:∀ n (i:Nat),i < 3->BK E (n+1) ⟨3,QR [a,b,c]⟩ (i:Int) k=cond (QR [a,b,c] i != 0) (k (QR [a,b,c] i)) (BK E n ⟨3,QR [a,b,c]⟩ ((i+1:Nat):Int) k):=λ n i hi=>by
  rw[ze1,decide_eq_true (show (i:Int) < ((3:Nat):Int) by omega),cond_true,bC (show 0<=(i:Int)/\(i:Int) < ((3:Nat):Int) by omega),bQ (by omega)];rfl
 have en:∀ n,BK E (n+1) ⟨3,QR [a,b,c]⟩ ((3:Nat):Int) k=k 0:=λ n=>by
  rw[ze1,decide_eq_false (show ¬ ((3:Nat):Int) < ((3:Nat):Int) by omega)];rfl
 rw[e185,bi,hn];refine (st _ 0 (by omega)).trans ?_;rw[st _ 1 (by omega),st _ 2 (by omega),en,g0,g1,g2];by_cases h:c=0
 ·subst h;cases a != 0 <;> cases b != 0 <;> rfl
 ·rw [show (c != 0) = true by simpa using h];cases a != 0 <;> cases b != 0 <;> rfl
abbrev zsY (C:aj×aj->ae Int):Prop:=∀ a b:aj,One a->One b->C (a,b)=.ok (zli a b)
theorem zM8 {E:zai}(zq0:V8 E.zmg) (zjM:zbe E.zg5) (zq1:zsX E.zmf):zsY (zjL E):=λ a b ha hb=>ae.ext λ k=>by
 have a1:=ha.le;have a2:=ha.sd;have b1:=hb.le;have b2:=hb.sd;rw[zIl,zq0,bi,zjM _ _ (by omega) (by omega),bi,zjM _ _ (by omega) (by omega),bi,zq1,bi,bi];rfl
abbrev zsZ (C:Sl Bool×Bool->ae Int):Prop:=∀ (w:Sl Bool) x,w.len<=1000->C (w,x)=.ok (fst (λ j=>x == w.get j) w.len 0)
theorem zM9 {E:VN}(N:Big E.N):zsZ (zke E):=λ w x hw=>ae.ext λ k=>by
 rw[zJA,bi];refine Dv (L:=λ n i=>NU E n w x i k) (p:=λ j=>x == w.get j) (m:=w.len) (k:=k) (by omega) (λ n i hi=>?_) (λ n=>?_) _ (by have:=N;omega)
 ·rw[zeR,decide_eq_true (by omega),cond_true,bC (by omega),Int.toNat_natCast]
 ·rw[zeR,decide_eq_false (by omega)];rfl
abbrev zs3 (C:Sl Bool×Bool->ae Bool):Prop:=∀ (w:Sl Bool) x,w.len<=1000->C (w,x)=.ok ((ls w).any λ b=>x == b)
theorem zNa {E:zab}(zqU:zsZ E.zme):zs3 (zjF E):=λ w x hw=>ae.ext λ k=>by
 rw[e126,zqU w x hw,bi,bi,ug (λ j=>x == w.get j),zgr (p:=λ b=>x == b)]
structure Wn (s : ak) (r : bF) (l : Sl bz) (f : found) : Prop where
  ev:f.aX=iR s r l
  fx:∃ X Y:List aj,ls f.fits=X ++ Y/\(∀ t∈X,O6 1 t)/\(∀ t∈Y,O6 2 t)/\X.map iy=(nD s l 1).filter (rP s l 1 r)/\Y.map iy=(nD s l 2).filter (rP s l 2 r)
  tr:(ls f.fZ).Perm ((ls f.fits).filter λ t=>!(ls f.fits).any λ x=>TQ x t)
  st:(ls f.fZ).Pairwise ltT
theorem Tj {s:ak}{l:Sl bz}{x:Int}{c:jd}(h:c∈nD s l x):(∃ j,Ch (yu s l) (vW l) (En s l x) c j)/\c ≠ []:=by
 refine⟨znA .nil h,?_⟩;obtain⟨p,e,_,h⟩:=Oq h;rw[h];simp
theorem Ls (s:ak) (l:Sl bz) (x:Int) (i:Nat):(En s l x i).Nodup:=Lm s l x _ _
theorem yw {P : Int → jd → Bool} {x : Int} : ∀ {L : List aj}, (∀ t ∈ L, t.View = x) → (L.filter fun t => P t.View (iy t)).map iy = (L.map iy).filter (P x)
  | [],_=>rfl
  | t :: L,h=>by
    have ih:=yw (P:=P) (L:=L) λ u hu=>h u (jc _ hu);have e:=h t jS;rw[nR,List.filter_cons,List.filter_cons,e];by_cases hp:P x (iy t)=true
    · rw[if_pos hp,if_pos hp,nR,ih]
    · rw[if_neg hp,if_neg hp,ih]
def Df (a b:aj):Prop:=¬ (a.View=b.View/\iy a=iy b)
theorem zs4 {a b:aj}(h:Df a b):Df b a:=λ k=>h ⟨k.1.symm,k.2.symm⟩
theorem znD {X:List aj}(h:(X.map iy).Nodup):X.Pairwise Df:=by
 unfold List.Nodup at h;rw[List.pairwise_map] at h;exact h.imp λ hn k=>hn k.2
abbrev Q72 (C:ak×bF×Sl bz×Sl Bool->ae (Int ⊕ (Pt found×Int))):Prop:=∀ s r l (w:Sl Bool),qy s->l.len<=40->uC s r l=0->(nD s l 1).length<=2000->(nD s l 2).length<=2000->w.len<=10->(∀ b∈ls w,b=true)->∃ f:Pt found,C (s,r,l,w)=.ok (.inr (f,0))/\Wn s r l f.v
theorem s72 {E:E72}(h78:Q78 E.c78) (zqv:zs3 E.zb0) (h127:zsz E.c127) (h128:zsV E.DU) (zNc:zsY E.TF):Q72 (F72 E):=λ s r l w hs hl h0 n1 n2 hw hb=>by
  obtain⟨he,_,qB⟩:=NI hs h0;have ev1:Ev s l 1:={ toEvt:=he,l24:=qB,vw:=rfl };have ev2:Ev s l 2:={ toEvt:=he,l24:=qB,vw:=rfl };obtain⟨w1,a1,b1,c1⟩:=h127 s l r 1 ev1 n1;obtain⟨w2,a2,b2,c2⟩:=h127 s l r 2 ev2 n2;have ln1:w1.len<=2000:=by rw[<- jy,b1];exact n1
  have ln2:w2.len<=2000:=by rw[<- jy,b2];exact n2
  have cs:∀ {x:Int} {w:Sl aj},Ev s l x->Aq w=nD s l x->wV x w->∀ t∈ls w,t.View=x/\lJ s l t:=fun {x w} ev hb hc t ht=>by
    have hv:=zlw.1 hc t ht;have hm:iy t∈nD s l x:=by rw[<- hb,Wl];exact List.mem_map_of_mem ht
    obtain⟨⟨j,hj⟩,hne⟩:=Tj hm;have e:=hv.1;subst e;exact⟨rfl,ev,hv,⟨j,Ir hj⟩,hne⟩
  have k1:=cs ev1 b1 c1;have k2:=cs ev2 b2 c2;have f1:=h128 w1 (.inl ⟨iR s r l,()⟩) ⟨s,l,r,rfl,λ t ht=>(k1 t ht).2⟩ (by omega);have f2:=h128 w2 (.inl ⟨iR s r l,()⟩) ⟨s,l,r,rfl,λ t ht=>(k2 t ht).2⟩ (by omega);have g1:ls (OI Ti (wW (id (.inl ⟨iR s r l,()⟩))) w1 w1.len)=(ls w1).filter λ t=>rP s l t.View r (iy t):=OJ _ _ _ _;have g2:ls (OI Ti (wW (id (.inl ⟨iR s r l,()⟩))) w2 w2.len)=(ls w2).filter λ t=>rP s l t.View r (iy t):=OJ _ _ _ _;have m1:=wL Ti (wW (id (.inl ⟨iR s r l,()⟩))) w1 w1.len;have m2:=wL Ti (wW (id (.inl ⟨iR s r l,()⟩))) w2 w2.len;generalize hu1:OI Ti (wW (id (.inl ⟨iR s r l,()⟩))) w1 w1.len=u1 at f1 g1 m1;generalize hu2:OI Ti (wW (id (.inl ⟨iR s r l,()⟩))) w2 w2.len=u2 at f2 g2 m2;have hX:(ls u1).map iy=(nD s l 1).filter (rP s l 1 r):=by
    rw[g1,yw (P:=λ x c=>rP s l x r c) (x:=1) λ t ht=>(k1 t ht).1,<- b1,Wl]
  have hY:(ls u2).map iy=(nD s l 2).filter (rP s l 2 r):=by
    rw[g2,yw (P:=λ x c=>rP s l x r c) (x:=2) λ t ht=>(k2 t ht).1,<- b2,Wl]
  have q1:∀ t∈ls u1,t.View=1/\lJ s l t:=λ t ht=>by rw[g1] at ht;exact k1 t (List.mem_filter.1 ht).1
  have q2:∀ t∈ls u2,t.View=2/\lJ s l t:=λ t ht=>by rw[g2] at ht;exact k2 t (List.mem_filter.1 ht).1
  let ft:Sl aj:=⟨u1.len+u2.len,jf u1.len u1.get u2.get⟩;have hf:ls ft=ls u1 ++ ls u2:=zsK u1 u2;have qf:∀ t∈ls ft,lJ s l t:=λ t ht=>by
    rw[hf] at ht;rcases dL.1 ht with h | h
    · exact (q1 t h).2
    · exact (q2 t h).2
  have dff:(ls ft).Pairwise Df:=by
    rw[hf,List.pairwise_append];refine⟨znD ?_,znD ?_,λ a ha b hb=>λ k=>?_⟩
    · rw[hX];exact (Iq (Ls s l 1) _ _ _).filter _
    · rw[hY];exact (Iq (Ls s l 2) _ _ _).filter _
    · have:=(q1 a ha).1;have:=(q2 b hb).1;have:=k.1;omega
  let cl:dN 130 Unit (Pt (Pt found)):=⟨(),⟨⟨⟨iR s r l,ft,⟨0,Ti⟩⟩⟩⟩⟩;have lf:ft.len<=4000:=by show u1.len+u2.len<=4000;omega
  have f3:=h128 ft (.inr cl) ⟨λ t ht=>(qf t ht).one,λ t ht=>(qf t ht).one,by show ft.len<=10000;omega⟩ (by omega);have g3:ls (OI Ti (wW (id (.inr cl))) ft ft.len)=(ls ft).filter λ t=>!(ls ft).any λ x=>TQ x t:=OJ _ _ _ _;have m3:=wL Ti (wW (id (.inr cl))) ft ft.len;generalize hu3:OI Ti (wW (id (.inr cl))) ft ft.len=u3 at f3 g3 m3;have q3:∀ t∈ls u3,lJ s l t:=λ t ht=>by rw[g3] at ht;exact qf t (List.mem_filter.1 ht).1
  have df3:(ls u3).Pairwise Df:=by rw[g3];exact dff.sublist List.filter_sublist
  have in3:∀ i,i < u3.len->lJ s l (u3.get i):=λ i hi=>q3 _ (kG.2 ⟨i,hi,rfl⟩);have ne3:∀ i j,i < u3.len->j < u3.len->i ≠ j->Df (u3.get i) (u3.get j):=λ i j hi hj hij=>by
    have P:=List.pairwise_iff_getElem.1 df3;have ge:∀ i (hi:i < u3.len),(ls u3)[i]'(by rw[qF];exact hi)=u3.get i:=λ i hi=>by
      have:=zgn hi;rw[yz (by rw[qF];exact hi)] at this;exact Option.some.inj this
    rcases Nat.lt_or_ge i j with h | h
    · have := P i j (by rw [qF]; exact hi) (by rw [qF]; exact hj) h;rwa[ge i hi,ge j hj] at this
    · have := P j i (by rw [qF]; exact hj) (by rw [qF]; exact hi) (by omega);rw[ge i hi,ge j hj] at this;exact zs4 this
  obtain ⟨hp, p, p1, p2, p3⟩ := znz (C := ae.un E.TF) (caps := []) (ag := true) (w := u3) (cmp := zli) (R := ltT) (by omega)
    (λ i j hi hj=>by
      show (E.TF (u3.get i,u3.get j)).T _=_;rw[zNc _ _ (in3 i hi).one (in3 j hj).one];rfl)
    (λ i j hi hj=>zlj) (λ i hi=>Yw _) (λ i j hi hj hij=>zlk λ h=>ne3 i j hi hj hij ⟨h.1,zsa h.2.1 h.2.2 (in3 i hi).tv.2 (in3 j hj).tv.2⟩) (λ i j _ _ h=>zga h)
    (λ i j k _ _ _ a b=>zf9 a b)
  have pl:p.length=u3.len:=by rw[p1.length_eq,List.length_range]
  let tr:Sl aj:=⟨u3.len,soG (ae.un E.TF) [] true u3⟩;have ht:ls tr=p.map u3.get:=by
    refine List.ext_getElem (by rw[qF,List.length_map,pl]) λ i h1 h2=>?_;have hi:i < u3.len:=by rw[qF] at h1;exact h1
    have:=zgn (w:=tr) (i:=i) hi;rw[yz h1] at this;rw[Option.some.inj this,List.getElem_map];exact p3 i (by omega)
  refine⟨⟨⟨iR s r l,ft,tr⟩⟩,ae.ext λ k=>?_,rfl,⟨ls u1,ls u2,hf,λ t h=>?_,λ t h=>?_,hX,hY⟩,?_,?_⟩
  · have no:((ls w).any λ b=>false == b)=false:=by
      rw[List.any_eq_false];intro b hb2;rw[hb b hb2];simp
    rw[e72,h78 s r l hs hl,bi];have eo:opn s r l=.inr (iR s r l,0):=by unfold opn;rw[h0];rfl
    rw[eo];show (E.zb0 (w,false)).T _=_;rw[zqv w false (by omega),bi,no];show (E.c127 (iR s r l,1)).T _=_;rw[a1,bi];show (E.DU (w1,.inl ⟨iR s r l,()⟩)).T _=_;rw[f1,bi];show aZ (room u1.len 56) ((E.c127 (iR s r l,2)).T _)=_;rw[jl (by omega) (by omega),a2,bi];show (E.DU (w2,.inl ⟨iR s r l,()⟩)).T _=_;rw[f2,bi];show aZ (room (u1.len+u2.len) 56) ((E.DU (ft,.inr cl)).T _)=_;rw[jl (by omega) (by omega),f3,bi];show X6 E (iR s r l) ft u3 k=_;rw[zyM,hp];rfl
  · have:=q1 t h;exact⟨this.1,this.2.tv.2⟩
  · have:=q2 t h;exact⟨this.1,this.2.tv.2⟩
  · show (ls tr).Perm _;rw[ht];show (p.map u3.get).Perm ((ls ft).filter λ t=>!(ls ft).any λ x=>TQ x t);rw[<- g3];exact p1.map _
  · show (ls tr).Pairwise ltT;rw[ht,List.pairwise_map];exact p2
abbrev Q20 (C:ak×bF×Sl bz->ae (Sl aj×Int)):Prop:=∀ s r l,qy s->l.len<=40->uC s r l=0->(nD s l 1).length<=2000->(nD s l 2).length<=2000->∃ f:found,C (s,r,l)=.ok (f.fZ,0)/\Wn s r l f
theorem s20 {E:E20}(h72:Q72 E.c72):Q20 (F20 E):=λ s r l hs hl h0 n1 n2=>by
 obtain⟨f,h1,h2⟩:=h72 s r l ⟨0,λ _=>default⟩ hs hl h0 n1 n2 (Nat.zero_le _) (λ b hb=>by cases hb);exact⟨f.v,ae.ext λ k=>by rw[e20,h1,bi,bi];rfl,h2⟩
theorem zs5 {s:straight}(S:rV s):(dQ s).Start.Num * s.den=s.start * (dQ s).Start.bI/\(dQ s).dM.Num * s.den=s.bT * (dQ s).dM.bI:=by
 have p:0 < s.den:=by have:=S.2.2;omega
 have key:∀ a,(red a s.den).Num * s.den=a * (red a s.den).bI:=λ a=>by
  have h1:=lM (num:=a) p;have h2:=kF (num:=a) p;generalize (Int.gcd a s.den:Int)=G at h1 h2;generalize (red a s.den).Num=x at *;generalize (red a s.den).bI=y at *;rw[<- h1,<- h2];ac_rfl
 exact⟨key _,key _⟩
abbrev Q76 (C:Line×Int->ae aQ):Prop:=∀ s z,rV s->JM z->C (dQ s,z)=.ok (red (fH s z) s.den)
theorem s76 {E:E76}(Vh:V5 E.OT) (Vg:Ij E.O7):Q76 (F76 E):=λ s z S hz=>ae.ext λ k=>by
  obtain⟨h1,h2,h3,h4⟩:=Yo S;obtain⟨x1,x2⟩:=zs5 S;have pd:0 < s.den:=by have:=S.2.2;omega
  rw[e76,Vh _ _ (by omega) (by omega) (by omega),bi,bi];have hr:=jw (num:=(dQ s).Start.bI) (den:=(dQ s).dM.bI) h3.1;obtain⟨a,ha⟩:=zzy (dQ s).Start.bI (dQ s).dM.bI;obtain⟨b,hb⟩:=zzz (dQ s).Start.bI (dQ s).dM.bI;generalize (Int.gcd (dQ s).Start.bI (dQ s).dM.bI:Int)=r at hr ha hb ⊢;generalize (dQ s).Start.bI=A at *;generalize (dQ s).dM.bI=B at *;generalize (dQ s).Start.Num=u at *;generalize (dQ s).dM.Num=v at *;have pa:0 < a:=by
    rcases Int.lt_or_le 0 a with h | h
    · exact h
    · have:=Int.mul_le_mul_of_nonneg_left h (Int.le_of_lt hr);rw[Int.mul_zero] at this;omega
  have pb:0 < b:=by
    rcases Int.lt_or_le 0 b with h | h
    · exact h
    · have:=Int.mul_le_mul_of_nonneg_left h (Int.le_of_lt hr);rw[Int.mul_zero] at this;omega
  have aA:a<=A:=by
    have:=Int.mul_le_mul_of_nonneg_right (show (1:Int)<=r by omega) (Int.le_of_lt pa);omega
  have bB:b<=B:=by
    have:=Int.mul_le_mul_of_nonneg_right (show (1:Int)<=r by omega) (Int.le_of_lt pb);omega
  have e1:A.tdiv r=a:=by rw[ha,Int.mul_tdiv_cancel_left _ (by omega)]
  have e2:(a * B).tdiv A=b:=by
    have:a * B=A * b:=by rw[ha,hb];ac_rfl
    rw[this,Int.mul_tdiv_cancel_left _ (by omega)]
  have e3:(a * B).tdiv B=a:=by rw[Int.mul_comm,Int.mul_tdiv_cancel_left _ (by omega)]
  have m0:=l9 (x:=a) (X:=100000) (by omega) (by omega) (Int.le_of_lt h3.1) h3.2;have m1:=l9 h2.1 h2.2 (y:=b) (Y:=100000) (by omega) (by omega);have m2:=l9 h1.1 h1.2 (y:=a) (Y:=100000) (by omega) (by omega);have m3 : -40000000000000000<=v * a * z/\v * a * z<=40000000000000000:=by
    have hz1:=hz.1;have hz2:=hz.2;rcases Int.lt_or_le z 0 with h | h
    · have := l9 (y := -z) (Y := 200000) m2.1 m2.2 (by omega) (by omega);rw[Int.mul_neg] at this;omega
    · have := l9 (y := z) (Y := 200000) m2.1 m2.2 h (by omega);omega
  have pos:0 < a * B:=Int.mul_pos pa h3.1
  rw[aY (x:=A.tdiv r) (by rw[e1];omega) (by rw[e1];omega),e1,aY (x:=a * B) (by omega) (by omega),aY (x:=(a * B).tdiv A) (by rw[e2];omega) (by rw[e2];omega),aY (x:=(a * B).tdiv B) (by rw[e3];omega) (by rw[e3];omega),e2,e3,
    aY (x:=u * b) (by omega) (by omega),aY (x:=v * a) (by omega) (by omega),aY (x:=v * a * z) (by omega) (by omega),aY (x:=u * b+v * a * z) (by omega) (by omega),bC (by omega),bC (by omega),bC (by omega),Vg _ _ (by omega) (by omega) pos (by omega),bi]
  congr 1;refine (V4 pos pd).2 ?_;unfold fH;have f1:u * b * s.den=s.start * (a * B):=by
    calc u * b * s.den = u * s.den * b := by ac_rfl
      _=s.start * A * b:=by rw[x1]
      _=s.start * (a * B):=by rw[ha,hb];ac_rfl
  have f2:v * a * z * s.den=s.bT * z * (a * B):=by
    calc v * a * z * s.den = v * s.den * (a * z) := by ac_rfl
      _=s.bT * B * (a * z):=by rw[x2]
      _=s.bT * z * (a * B):=by ac_rfl
  rw[Int.add_mul,Int.add_mul,f1,f2]
def PlQ (g:Sl aB) (z:Int) (f:aQ):Prop:=∃ t∈cst g,f=red (fH t z) t.den
theorem PlQ.pos {g:Sl aB}(G:df g){z:Int}{f:aQ}(h:PlQ g z f):0 < f.bI:=by
 obtain⟨t,ht,rfl⟩:=h;exact gW (by have:=(oU G ht).2.2;omega)
abbrev zs7 (C:Sl aB×Int->ae (aQ×aQ)):Prop:=∀ g z,df g->JM z->iC g=true->∃ a b,C (g,z)=.ok (a,b)/\0 < a.bI/\0 < b.bI
theorem zNe {E:Rk}(N:Big E.N) (DN:zf2 E.Ak) (VA:zld E.c193) (Vg:Ij E.O7) (VB:zlm E.c194) (h76:Q76 E.c76) (h56:Q56 E.c56):zs7 (zjV E):=λ g z G hz hs=>by
 have hg:=G.2;cases hf:eX g with
 | true =>
  obtain⟨a,b⟩:=Es G.1 (by omega) g.len (iM _);refine⟨red (dZ g g.len).Low 1,red (dZ g g.len).High 1,ae.ext λ k=>?_,gW (by omega),gW (by omega)⟩;rw[zy7,DN g (by omega) (by omega),bi,hf,cond_true,VA g (by omega) (by omega),bi,bi];show (E.O7 ((dZ g g.len).Low,1)).T (λ r3=>(E.O7 ((dZ g g.len).High,1)).T λ r4=>k (r3,r4))=_;rw[Vg _ _ (by omega) (by omega) (by omega) (by omega),bi,Vg _ _ (by omega) (by omega) (by omega) (by omega),bi]
 | false =>
  obtain⟨L,l1,l2,l3,l4⟩:=VB g G;have l0:0 < L.len:=l2.2 ((BZ G hf).1 hs);have pc:∀ i,i < L.len->∃ f,PlQ g z f/\E.c76 (L.get i,z)=.ok f:=λ i hi=>by
   obtain⟨t,ht,e⟩:=l4 i hi;exact⟨_,⟨t,ht,rfl⟩,by rw[e];exact h76 t z (oU G ht) hz⟩
  have key:∀ (m i n:Nat) (x y:aQ),i+m=L.len->m < n->PlQ g z x->PlQ g z y->∃ a b,(∀ (A:Type) (k:aQ×aQ->Option A),yf E n z L (i:Int) x y k=k (a,b))/\PlQ g z a/\PlQ g z b:=by
   intro m
   induction m with
   | zero =>
    intro i n x y hi hn hx hy;obtain⟨n,rfl⟩:∃ n',n=n'+1:=⟨n - 1,by omega⟩;exact⟨x,y,λ A k=>by rw[zeL,decide_eq_false (by omega)];rfl,hx,hy⟩
   | succ m ih =>
    intro i n x y hi hn hx hy;obtain⟨n,rfl⟩:∃ n',n=n'+1:=⟨n - 1,by omega⟩;obtain⟨f,hf,ef⟩:=pc i (by omega);have st:∀ (A:Type) (k:aQ×aQ->Option A),yf E (n+1) z L (i:Int) x y k=yf E n z L ((i+1:Nat):Int) (cond (leB f x) f x) (cond (leB y f) f y) k:=λ A k=>by
     rw[zeL,decide_eq_true (by omega),cond_true,bC (by omega),Int.toNat_natCast,ef,bi,h56,bi];cases leB f x <;> simp only[cond_true,cond_false] <;> rw[zq7,h56,bi,bQ (by omega)] <;> cases leB y f <;> rfl
    obtain⟨a,b,h1,h2,h3⟩:=ih (i+1) n (cond (leB f x) f x) (cond (leB y f) f y) (by omega) (by omega) (by cases leB f x <;> assumption) (by cases leB y f <;> assumption);exact⟨a,b,λ A k=>by rw[st];exact h1 A k,h2,h3⟩
  obtain⟨f,hf0,ef⟩:=pc 0 l0;obtain⟨a,b,h1,h2,h3⟩:=key (L.len - 1) 1 E.N f f (by omega) (by have:=N;omega) hf0 hf0;refine⟨a,b,ae.ext λ k=>?_,h2.pos G,h3.pos G⟩;rw[zy7,DN g (by omega) (by omega),bi,hf,cond_false,l1,bi,bC (by omega),ef,bi,bC (by omega),bi,bi];exact h1 _ k
abbrev zs8 (C:aQ->ae Int):Prop:=∀ f:aQ,0 < f.bI->∃ n,C f=.ok n
theorem zNf {E:zam} : zs8 (zjX E):=λ f h=>by
 exact⟨_,ae.ext λ k=>by rw[zIK,bC (by omega),kc k,bi]⟩
/-! What a plane sees. -/
def mf (p:ai) (c:Int):bV:=⟨aO (aO (p.First+aO (c * p.aT)) - jh p),aO (aO (aO (aO (p.First+aO (c * p.aT)) - jh p)+p.aT) - 1)⟩
abbrev zs9 (C:ai×Int->ae (Int×Int)):Prop:=∀ p c,C (p,c)=.ok ((mf p c).Low,(mf p c).High)
theorem zNg {E:zaj} : zs9 (zjN E):=λ p c=>ae.ext λ k=>by
 rw[zIp,bi];unfold mf jh;cases p.Kind == 2 <;> rfl
def Dy (p:ai) (lo hi:Int) (c:Nat):Bool:=hasB p.Dead (c:Int) && (decide ((mf p (c:Int)).Low<=hi) && decide ((mf p (c:Int)).High >= lo))
def Lt (p:ai) (x:bV):Bool:=(decide (aO (x.Low - p.bn.High) >= (mf p 0).Low) && decide (aO (x.High - p.bn.Low)<=(mf p (aO (p.bM - 1))).High)) && dS (λ c=>!Dy p (aO (x.Low - p.bn.High)) (aO (x.High - p.bn.Low)) c) p.bM.toNat
abbrev Q77 (C:ai×bV->ae (Bool×Bool)):Prop:=∀ p x,Q4 p->Few p->∃ b,C (p,x)=.ok (Lt p x,b)
theorem s77 {E:E77}(N:Big E.N) (zer:zs9 E.zb1) (U6:zjh E.JP):Q77 (F77 E):=λ p x hp hf=>by
  obtain⟨_,_,_,_,_,hst,_⟩:=hp;have key:∀ (m c n:Nat) (lo hi:Int) (mu ca:Bool),c+m=p.bM.toNat->m < n->∃ b,∀ (A:Type) (k:Bool×Bool->Option A),kC E n p lo hi mu ca (c:Int) k=k (mu && (List.range' c m).all (λ c=>!Dy p lo hi c),b):=by
    intro m
    induction m with
    | zero =>
      intro c n lo hi mu ca hc hn;obtain⟨n,rfl⟩:∃ n',n=n'+1:=⟨n - 1,by omega⟩;exact⟨ca,λ A k=>by rw[zno,decide_eq_false (by omega)];simp⟩
    | succ m ih =>
      intro c n lo hi mu ca hc hn;obtain⟨n,rfl⟩:∃ n',n=n'+1:=⟨n - 1,by omega⟩;rw[List.range'_succ];have st:∃ ca',∀ (A:Type) (k:Bool×Bool->Option A),kC E (n+1) p lo hi mu ca (c:Int) k=kC E n p lo hi (mu && !Dy p lo hi c) ca' ((c+1:Nat):Int) k:=by
        have hd:E.JP (p,(c:Int))=.ok (hasB p.Dead (c:Int)):=U6 p _ hf
        have e0 : ∀ (A : Type) (k : Bool × Bool → Option A), kC E (n + 1) p lo hi mu ca (c : Int) k = cond (hasB p.Dead (c : Int)) (cond (decide ((mf p (c : Int)).Low ≤ hi)) (cond (decide ((mf p (c : Int)).High ≥ lo)) (kC E n p lo hi false ca ((c + 1 : Nat) : Int) k) (kC E n p lo hi mu ca ((c + 1 : Nat) : Int) k)) (kC E n p lo hi mu ca ((c + 1 : Nat) : Int) k))
            (kC E n p lo hi mu (cond (decide (aO ((mf p (c:Int)).Low - p.dE)<=hi)) (cond (decide (aO ((mf p (c:Int)).High+p.dE) >= lo)) true ca) ca) ((c+1:Nat):Int) k):=λ A k=>by
          rw[zno,decide_eq_true (by omega),cond_true,zer,bi,hd,bi,bQ (by omega)];cases hasB p.Dead (c:Int) with
          | true=>rfl
          | false =>
            simp only[cond_false];cases decide (aO ((mf p (c:Int)).Low - p.dE)<=hi) with
            | false=>rfl
            | true =>
              simp only[cond_true];cases decide (aO ((mf p (c:Int)).High+p.dE) >= lo) <;> rfl
        cases h1:hasB p.Dead (c:Int) with
        | false =>
          rw[h1] at e0;exact⟨_,λ A k=>by rw[e0];simp only[Dy,h1,Bool.false_and,Bool.not_false,Bool.and_true];rfl⟩
        | true =>
          rw[h1] at e0;refine⟨ca,λ A k=>?_⟩;rw[e0];simp only[Dy,h1,Bool.true_and,cond_true];cases decide ((mf p (c:Int)).Low<=hi) <;> cases decide ((mf p (c:Int)).High >= lo) <;> simp
      obtain⟨ca',h⟩:=st;obtain⟨b,h2⟩:=ih (c+1) n lo hi (mu && !Dy p lo hi c) ca' (by omega) (by omega);exact⟨b,λ A k=>by rw[h,h2,List.all_cons,Bool.and_assoc]⟩
  have al:∀ (q:Nat->Bool) n,(List.range' 0 n).all q=dS q n:=λ q n=>by
    rw[Bool.eq_iff_iff,dA,List.all_eq_true];exact⟨λ h i hi=>h i (by simp;omega),λ h i hi=>h i (by simp at hi;omega)⟩
  obtain⟨b,hb⟩:=key p.bM.toNat 0 E.N (aO (x.Low - p.bn.High)) (aO (x.High - p.bn.Low)) (decide (aO (x.Low - p.bn.High) >= (mf p 0).Low) && decide (aO (x.High - p.bn.Low)<=(mf p (aO (p.bM - 1))).High)) false (by omega) (by have:=N;omega);refine⟨b,ae.ext λ k=>?_⟩;rw[e77,zer,bi,zer,bi,bi];have hb:=hb _ k;rw[al] at hb;refine Eq.trans ?_ hb;show cond (decide (aO (x.Low - p.bn.High) >= (mf p 0).Low)) (kC E E.N p _ _ (decide (aO (x.High - p.bn.Low)<=(mf p (aO (p.bM - 1))).High)) false 0 k) (kC E E.N p _ _ false false 0 k)=_;cases decide (aO (x.Low - p.bn.High) >= (mf p 0).Low) <;> rfl
structure mO (s : ak) (l : Sl bz) (t : aj) : Prop extends lJ s l t where
  ag:yu s l (iy t)=true
abbrev Q91 (C:ak×Sl bz×aj->ae (Sl Int)):Prop:=∀ s l t,mO s l t->∃ w:Sl Int,C (s,l,t)=.ok w
theorem s91 {E:E91}(N:Big E.N) (h65:Q65 E.c65) (h87:Q87 E.c87) (DN:zf2 E.Ak) (zqB:zs7 E.zmb) (zjr:zs8 E.Wx) (h86:yA E.c86) (h77:Q77 E.c77):Q91 (F91 E):=λ s l t ha=>by
 obtain⟨j,hv⟩:=ha.vl;have he:=ha.ev;have hl:=pK rfl hv;have qB:=he.l24;have G:=BU he.toEvt he.l24 hv ha.ne;have hG:=G.2;have hp:=nN he.se;have so:iC (wU s l (iy t))=true:=by
  have:=ha.ag;unfold yu at this;rw[fA] at this;exact this.2
 have key:∀ (m i n:Nat) (w:Sl Int),i+m=s.af.len->m < n->w.len<=i->∃ w':Sl Int,∀ (A:Type) (k:Sl Int->Option A),uw E n s l t (wU s l (iy t)) (i:Int) w k=k w':=by
  intro m
  induction m with
  | zero =>
   intro i n w hi hn hw;obtain⟨n,rfl⟩:∃ n',n=n'+1:=⟨n - 1,by omega⟩;exact⟨w,λ A k=>by rw[znr,decide_eq_false (by omega)];rfl⟩
  | succ m ih =>
   intro i n w hi hn hw;obtain⟨n,rfl⟩:∃ n',n=n'+1:=⟨n - 1,by omega⟩;have hpl:=ni he.se (i:=i) (by omega);have hz:=zgp hpl;obtain⟨wa,ya⟩:=ih (i+1) n (nO w (i:Int)) (by omega) (by omega) (by show w.len+1<=i+1;omega);obtain⟨wb,yb⟩:=ih (i+1) n w (by omega) (by omega) (by omega);obtain⟨a,b,e1,e2,e3⟩:=zqB _ _ G hz so;obtain⟨x,ex⟩:=zjr a e2;obtain⟨y,ey⟩:=zjr ⟨aO (0 - b.Num),b.bI⟩ e3;obtain⟨c,ec⟩:=h77 (s.af.get i) ⟨x,aO (0 - y)⟩ hpl (he.sh.2 i (by omega));have st:∀ (A:Type) (k:Sl Int->Option A),uw E (n+1) s l t (wU s l (iy t)) (i:Int) w k=cond ((s.af.get i).View != t.View) (k wb) (cond (!usB l t.Hits t.Hits.len (i:Int)) (k wb) (cond (eX (wU s l (iy t))) (k wb) (cond (!inB x (-1000000) 1000000) (k wb) (cond (!inB (aO (0 - y)) (-1000000) 1000000) (k wb) (cond (Lt (s.af.get i) ⟨x,aO (0 - y)⟩) (k wa) (k wb)))))):=λ A k=>by
    rw[znr,decide_eq_true (by omega),cond_true,bC (by omega),Int.toNat_natCast,bQ (by omega),yb,h87 l t.Hits _ (by omega) (Cc rfl hv),bi,DN _ (by omega) (by omega),bi,bC (by omega),e1,bi];show cond _ _ (cond _ _ (cond _ _ ((E.Wx a).T λ r4=>(E.Wx ⟨aO (0 - b.Num),b.bI⟩).T _)))=_;rw[ex,bi,ey,bi,h86,bi,h86,bi,bC (by omega),ec,bi,jl (by omega) (by omega)];show cond _ _ (cond _ _ (cond _ _ (cond _ _ (cond _ _ (cond (Lt (s.af.get i) ⟨x,aO (0 - y)⟩) (uw E n s l t (wU s l (iy t)) ((i+1:Nat):Int) (nO w (i:Int)) k) _)))))=_;rw[ya]
   exact⟨_,λ A k=>by rw[st,kc k,kc k,kc k,kc k,kc k,kc k]⟩
 obtain⟨w',h⟩:=key s.af.len 0 E.N ⟨0,λ _=>0⟩ (by omega) (by have:=N;omega) (iM _);refine⟨w',ae.ext λ k=>?_⟩;rw[e91,h65 s l t he.toEvt (by omega) (Eo he.vw ha.tv rfl hv ha.ne),bi,Ox rfl,bi];exact h _ k
abbrev zta (C:ak×bF×Sl bz×aj->ae Bool):Prop:=∀ s r l t,mO s l t->∃ b,C (s,r,l,t)=.ok b
theorem zNi {E:zao}(VH:zln E.c196) (h91:Q91 E.c91):zta (zj0 E):=λ s r l t ha=>by
 obtain⟨j,hv⟩:=ha.vl;obtain⟨w,hw⟩:=h91 s l t ha;exact⟨_,ae.ext λ k=>by rw[e154,VH s l _ t _ j ha.ev ha.tv rfl hv ha.ne,bi,ha.ag,cond_true,hw,bi,kc k,bi]⟩
/-! Choices that contain others: hits in their order. -/
structure zgu (t : aj) : Prop where
  le:t.Hits.len<=100
  sd:t.bD.len=t.Hits.len
  inc:zlt t.Hits
theorem zlz {s:ak}{l:Sl bz}{x:Int}{t:aj}{c:jd}{j:Nat}(qB:l.len<=24) (ht:O6 x t) (hc:iy t=c) (h:Val s l x c j):zgu t:=by
 have hl:=pK hc h;have lc:c.length=t.Hits.len:=by rw[<- hc,nC]
 refine⟨by omega,ht.2,λ a b hab hb=>?_⟩;have pw:=List.pairwise_iff_getElem.1 h.pw;have ge:∀ i (hi:i < t.Hits.len),c[i]'(by omega)=(t.Hits.get i,t.bD.get i):=λ i hi=>by
  have:=wK hc hi;rw[yz (by omega)] at this;exact Option.some.inj this
 have:=(pw a b (by omega) (by omega) hab).1;rw[ge a (by omega),ge b hb] at this;exact this
theorem lJ.inc {s:ak}{l:Sl bz}{t:aj}(h:lJ s l t):zgu t:=by
 obtain⟨j,hj⟩:=h.vl;exact zlz h.ev.l24 h.tv rfl hj
abbrev Q53 (C:aj×aj->ae Bool):Prop:=∀ a b,zgu a->zgu b->C (a,b)=.ok (Ac a b)
theorem s53 {E:E53}(N:Big E.N):Q53 (F53 E):=λ a b ha hb=>ae.ext λ k=>by
 have la:=ha.le;have lb:=hb.le;have sa:=ha.sd;have sb:=hb.sd;have ia:=ha.inc;have ib:=hb.inc;have hN:=N;have key:∀ (m i n q:Nat),i+m=b.Hits.len->m < n->q<=a.Hits.len->(∀ p,p < q->i < b.Hits.len->a.Hits.get p < b.Hits.get i)->X5 E n a b (q:Int) (i:Int) k=k ((List.range' i m).all (λ i=>(iy a).contains (b.Hits.get i,b.bD.get i)) && (a.View == b.View)):=by
  intro m
  induction m with
  | zero =>
   intro i n q hi hn hq hlt;obtain⟨n,rfl⟩:∃ n',n=n'+1:=⟨n - 1,by omega⟩;rw[znk,decide_eq_false (by omega)];rfl
  | succ m ih =>
   intro i n q hi hn hq hlt;obtain⟨n,rfl⟩:∃ n',n=n'+1:=⟨n - 1,by omega⟩;have hib:i < b.Hits.len:=by omega
   rw[znk,decide_eq_true (by omega),cond_true,List.range'_succ,List.all_cons]
   -- the place where the hit can stand
   have adv:∀ (d q n1:Nat),q+d=a.Hits.len->d < n1->(∀ p,p < q->a.Hits.get p < b.Hits.get i)->∃ q',q'<=a.Hits.len/\(∀ p,p < q'->a.Hits.get p < b.Hits.get i)/\(q' < a.Hits.len->b.Hits.get i<=a.Hits.get q')/\Le E n n1 a b (q:Int) (i:Int) k=Q7 E n a b (q':Int) (i:Int) k:=by
    intro d
    induction d with
    | zero =>
     intro q n1 hq hn1 hlt;obtain⟨n1,rfl⟩:∃ n',n1=n'+1:=⟨n1 - 1,by omega⟩;exact⟨q,by omega,hlt,λ h=>by omega,by rw[znl,decide_eq_false (by omega)];rfl⟩
    | succ d ih2 =>
     intro q n1 hq hn1 hlt;obtain⟨n1,rfl⟩:∃ n',n1=n'+1:=⟨n1 - 1,by omega⟩;have st:Le E n (n1+1) a b (q:Int) (i:Int) k=cond (decide (a.Hits.get q < b.Hits.get i)) (Le E n n1 a b ((q+1:Nat):Int) (i:Int) k) (Q7 E n a b (q:Int) (i:Int) k):=by
      rw[znl,decide_eq_true (by omega),cond_true,bC (by omega),bC (by omega),Int.toNat_natCast,Int.toNat_natCast,bQ (by omega)]
     by_cases h:a.Hits.get q < b.Hits.get i
     ·obtain⟨q',h1,h2,h3,h4⟩:=ih2 (q+1) n1 (by omega) (by omega) (λ p hp=>by
       by_cases e:p=q
       ·rw[e];exact h
       ·exact hlt p (by omega))
      exact⟨q',h1,h2,h3,by rw[st,decide_eq_true h];exact h4⟩
     ·exact⟨q,by omega,hlt,λ _=>by omega,by rw[st,decide_eq_false h];rfl⟩
   obtain⟨q',h1,h2,h3,h4⟩:=adv (a.Hits.len - q) q E.N (by omega) (by omega) (λ p hp=>hlt p hp hib);rw[h4];have only:∀ p,p < a.Hits.len->a.Hits.get p=b.Hits.get i->p=q':=λ p hp e=>by
    rcases Nat.lt_trichotomy p q' with h | h | h
    ·have:=h2 p h;omega
    ·exact h
    ·have := ia q' p h hp;have:=h3 (by omega);omega
   rw[zyK];by_cases c1:q'=a.Hits.len
   ·have:(iy a).contains (b.Hits.get i,b.bD.get i)=false:=by
     cases hc:(iy a).contains (b.Hits.get i,b.bD.get i) with
     | false=>rfl
     | true =>
      obtain⟨p,hp,e,_⟩:=lS.1 (List.contains_iff_mem.1 hc);have:=only p hp e;omega
    rw[show ((q':Int) == (a.Hits.len:Int))=true by rw[beq_iff_eq];omega,this];rfl
   ·rw [show ((q' : Int) == (a.Hits.len : Int)) = false by rw [dqU]; omega, cond_false, bC (by omega), bC (by omega), Int.toNat_natCast, Int.toNat_natCast];by_cases c2:a.Hits.get q'=b.Hits.get i
    ·have:(iy a).contains (b.Hits.get i,b.bD.get i)=(a.bD.get q' == b.bD.get i):=by
      rw[Bool.eq_iff_iff,List.contains_iff_mem,lS,beq_iff_eq];constructor
      ·rintro ⟨p, hp, e, e2⟩;rw[only p hp e] at e2;exact e2
      ·intro h;exact⟨q',by omega,c2,h⟩
     rw[show (a.Hits.get q' != b.Hits.get i)=false by simp[c2],cond_false,bC (by omega),bC (by omega),this,bQ (by omega),bne];cases a.bD.get q' == b.bD.get i with
     | false=>rfl
     | true =>
      rw[Bool.true_and];refine ih (i+1) n q' (by omega) (by omega) h1 (λ p hp hi2=>?_);have:=h2 p hp;have:=ib i (i+1) (by omega) hi2;omega
    ·have:(iy a).contains (b.Hits.get i,b.bD.get i)=false:=by
      cases hc:(iy a).contains (b.Hits.get i,b.bD.get i) with
      | false=>rfl
      | true =>
       obtain⟨p,hp,e,_⟩:=lS.1 (List.contains_iff_mem.1 hc);rw[only p hp e] at e;exact absurd e c2
     rw[show (a.Hits.get q' != b.Hits.get i)=true by simpa using c2,this];rfl
 rw[e53,bi];refine (key b.Hits.len 0 E.N 0 (by omega) (by omega) (Nat.zero_le _) (λ p hp=>absurd hp (O0 p))).trans ?_;congr 1;unfold Ac;congr 1
 ·rw [Bool.eq_iff_iff, List.all_eq_true, List.all_eq_true];constructor
  ·intro h p hp;obtain⟨i,hi,e1,e2⟩:=lS.1 hp;have:=h i (by simp;omega);rw[e1,e2] at this;exact this
  ·intro h i hi;exact h _ (lS.2 ⟨i,by simp at hi;omega,rfl,rfl⟩)
 ·rw[Bool.eq_iff_iff,beq_iff_eq,beq_iff_eq];exact eq_comm
theorem s38 {E:E38}(N:Big E.N):zbe (F38 E):=λ a b ha hb=>ae.ext λ k=>by
 have key:∀ (m i n:Nat),i+m=a.len->i<=b.len->m < n->X0 E n a b (i:Int) k=k (cmpL ((List.range' i m).map a.get) ((List.range' i (b.len - i)).map b.get)):=by
  intro m
  induction m with
  | zero =>
   intro i n hi hb hn;obtain⟨n,rfl⟩:∃ n',n=n'+1:=⟨n - 1,by omega⟩;rw[znf,decide_eq_false (by omega),cond_false,zng,znh,decide_eq_false (show ¬ (a.len:Int) > (b.len:Int) by omega),cond_false,kc k];congr 1;cases h:b.len - i with
   | zero=>rw[decide_eq_false (by omega)];rfl
   | succ q=>rw[decide_eq_true (by omega)];rfl
  | succ m ih =>
   intro i n hi hb hn;obtain⟨n,rfl⟩:∃ n',n=n'+1:=⟨n - 1,by omega⟩;rw[znf,decide_eq_true (by omega),cond_true,List.range'_succ,nR];cases h:b.len - i with
   | zero=>rw[decide_eq_false (by omega),cond_false,zng,znh,decide_eq_false (by omega),decide_eq_true (show (a.len:Int) > (b.len:Int) by omega)];rfl
   | succ q =>
    rw[decide_eq_true (by omega),cond_true,bC (by omega),bC (by omega),bC (by omega),bC (by omega),Int.toNat_natCast,bQ (by omega),ih (i+1) n (by omega) (by omega) (by omega),List.range'_succ,nR,show b.len - (i+1)=q by omega];show _=k (cond (nz (a.get i) (b.get i) != 0) (nz (a.get i) (b.get i)) _);unfold nz;cases decide (a.get i < b.get i) <;> cases decide (a.get i > b.get i) <;> rfl
 rw[e38,bi];have:=key a.len 0 E.N (by omega) (Nat.zero_le _) (by have:=N;omega);unfold uk;rw[List.range_eq_range',List.range_eq_range'];exact this
abbrev ztb (C:aj×aj->ae Bool):Prop:=∀ a b,One a->One b->∃ r,C (a,b)=.ok r
theorem zNk {E:zak}(h38:zbe E.c38):ztb (zjP E):=λ a b ha hb=>by
 have a1:=ha.le;have a2:=ha.sd;have b1:=hb.le;have b2:=hb.sd;exact⟨_,ae.ext λ k=>by rw[zIv,h38 _ _ (by omega) (by omega),bi,h38 _ _ (by omega) (by omega),bi,kc k,kc k,bi]⟩
structure E17 where
  N:Nat
  c23:ak×(Sl bz)×Int->ae (Bool)
  c26:ak×bF×(Sl bz)->ae (Int)
  c28:ak×bF×(Sl bz)->ae ((Sl aj)×Bool)
abbrev G17 (E:E17):bf:=dw (((Tabs.nil.addF 23 (ae.un E.c23)).addF 26 (ae.un E.c26)).addF 28 (ae.un E.c28)) []
def A17:bW:=aU ax 17 [] {}
def F17 (E:E17):ak×bF×(Sl bz)×Int->ae ((Sl aj)×Bool):=ae.ty (aF ax E.N (G17 E) A17 17)
section
variable (E:E17){A:Type}(k:((Sl aj)×Bool)->Option A)
theorem e17 (a0:ak) (a1:bF) (a2:(Sl bz)) (a3:Int):(F17 E (a0,a1,a2,a3)).T k =
  (E.c23 (a0,a2,a3)).T λ r1 =>
  cond (!r1)
  (k ((⟨0,λ _=>default⟩:(Sl aj)),false))
  (cond (decide ((a2.len:Int) > a3))
 (k ((⟨0,λ _=>default⟩:(Sl aj)),false))
 ((E.c26 (a0,a1,a2)).T λ r2 =>
 cond (r2 != 0)
 (k ((⟨0,λ _=>default⟩:(Sl aj)),false))
 ((E.c28 (a0,a1,a2)).T λ r3 =>
 k (r3.1,r3.2)))):=bJ.trans (by kernel_rfl)
end
theorem o17 [aJ] (E:E17) (h23:Ok ax 23 (ae.un E.c23)) (h26:Ok ax 26 (ae.un E.c26)) (h28:Ok ax 28 (ae.un E.c28)):Ok ax 17 (ae.un (F17 E)):=bg (aP (((ay.nil.addF h23).addF h26).addF h28) (au (by kernel_rfl)))
end Go.Proofs

namespace Go.Proofs
open Go Go.Pm
set_option maxRecDepth 100000
theorem zzN {ag:jd->Bool}{us:jd->Int->Bool}{sd:Nat->jd}{c:jd}{j:Nat}(h:Ch ag us sd c j):c=[]\/ag c=true:=by
 cases h with
 | nil=>exact .inl rfl
 | snoc _ _ _ h=>exact .inr h
theorem zgv {ag : jd → Bool} {us : jd → Int → Bool} {sd : Nat → jd} : ∀ {f out c i}, (∀ x ∈ out, x ≠ []) → ∀ x ∈ Oo ag us sd f out c i, x ≠ []
  | 0,out,c,i,h=>h
  | f+1,out,c,i,h=>by
    simp only[Oo];generalize sd i=l
    induction l generalizing out with
    | nil=>exact h
    | cons p l ih =>
      rw[List.foldl_cons];refine ih _ ?_;cases us c p.1 || (decide (2000 < out.length) || !ag (c ++ [p])) with
      | true=>exact h
      | false =>
        refine zgv λ x hx=>?_;rcases dL.1 hx with hx | hx
        · exact h x hx
        · rw[jQ.1 hx];simp
theorem Tm {s:ak}{l:Sl bz}{x:Int}(he:Ev s l x){t:aj}(ht:O6 x t) (hc:iy t∈Td s l x):mO s l t:=by
 have ne:=zgv (f:=30) (out:=[]) (λ x h=>by cases h) _ hc;rcases Yp .nil hc with h | ⟨j,hj⟩
 ·cases h
 ·have e := ht.1;subst e;exact { ev:=he,tv:=ht,vl:=⟨j,Ir hj⟩,ne:=ne,ag:=(zzN hj).resolve_left ne }
theorem ztc {P:aj->Prop}{w:Sl aj}{t:aj}(h:∀ t∈ls w,P t) (ht:P t):∀ u∈ls (nO w t),P u:=λ u hu=>by
 rw[zgo] at hu;rcases dL.1 hu with hu | hu
 ·exact h u hu
 ·rw[jQ.1 hu];exact ht
def Af (s:ak) (l:Sl bz) (x:Int):Bool:=decide ((Td s l x).length<=2000)
abbrev Q94 (C:ak×bF×Sl bz×Int->ae (Sl aj×Bool)):Prop:=∀ s r l x,Ev s l x->∃ w:Sl aj,C (s,r,l,x)=.ok (w,Af s l x)/\w.len<=2001/\∀ t∈ls w,mO s l t
theorem s94 {E:E94}(N:Big E.N) (zqH:zsB E.zmc) (zqI:zta E.c154):Q94 (F94 E):=λ s r l x he=>by
 obtain⟨v,h1,h2,h3,h4⟩:=zqH s l x he;have ha:∀ i,i < v.len->mO s l (v.get i):=λ i hi=>Tm he (h3 i hi) (by rw[<- h2];exact Ez (zlr hi));cases hb:Af s l x with
 | false=>exact⟨⟨0,λ _=>default⟩,ae.ext λ k=>by rw[e94,h1,bi];show cond (!Af s l x) _ _=_;rw[hb];rfl,Nat.zero_le _,λ t h=>by cases h⟩
 | true =>
  have key:∀ (m i n:Nat) (w:Sl aj),i+m=v.len->m < n->w.len<=i->(∀ t∈ls w,mO s l t)->∃ w':Sl aj,(∀ (A:Type) (k:Sl aj×Bool->Option A),Dt E n s r l v (i:Int) w k=k (w',true))/\w'.len<=v.len/\∀ t∈ls w',mO s l t:=by
   intro m
   induction m with
   | zero =>
    intro i n w hi hn hw hq;obtain⟨n,rfl⟩:∃ n',n=n'+1:=⟨n - 1,by omega⟩;exact⟨w,λ A k=>by rw[znv,decide_eq_false (by omega)];rfl,by omega,hq⟩
   | succ m ih =>
    intro i n w hi hn hw hq;obtain⟨n,rfl⟩:∃ n',n=n'+1:=⟨n - 1,by omega⟩;obtain⟨b,eb⟩:=zqI s r l _ (ha i (by omega));have st:∀ (A:Type) (k:Sl aj×Bool->Option A),Dt E (n+1) s r l v (i:Int) w k=cond b (Dt E n s r l v ((i+1:Nat):Int) (nO w (v.get i)) k) (Dt E n s r l v ((i+1:Nat):Int) w k):=λ A k=>by
     rw[znv,decide_eq_true (by omega),cond_true,bC (by omega),Int.toNat_natCast,eb,bi,bQ (by omega),bC (by omega),jl (by omega) (by omega)];rfl
    cases b with
    | true =>
     obtain⟨w',a,c,d⟩:=ih (i+1) n (nO w (v.get i)) (by omega) (by omega) (by show w.len+1<=i+1;omega) (ztc hq (ha i (by omega)));exact⟨w',λ A k=>by rw[st];exact a A k,c,d⟩
    | false =>
     obtain⟨w',a,c,d⟩:=ih (i+1) n w (by omega) (by omega) (by omega) hq;exact⟨w',λ A k=>by rw[st];exact a A k,c,d⟩
  obtain⟨w',a,c,d⟩:=key v.len 0 E.N ⟨0,Ti⟩ (by omega) (by have:=N;omega) (iM _) (λ t h=>by cases h);refine⟨w',ae.ext λ k=>?_,by omega,d⟩;rw[e94,h1,bi];show cond (!Af s l x) _ _=_;rw[hb];exact a _ k
abbrev Q88 (C:ak×bF×Sl bz×Int->ae (Sl aj×Bool)):Prop:=∀ s r l x,Ev s l x->∃ w:Sl aj,C (s,r,l,x)=.ok (w,Af s l x)/\w.len<=2001
theorem s88 {E:E88}(N:Big E.N) (h94:Q94 E.c94) (h53:Q53 E.c53) (zqx:ztb E.zl9):Q88 (F88 E):=λ s r l x he=>by
 have hN:=N;obtain⟨v,h1,h2,h3⟩:=h94 s r l x he;have ha:∀ i,i < v.len->mO s l (v.get i):=λ i hi=>h3 _ (kG.2 ⟨i,hi,rfl⟩);cases hb:Af s l x with
 | false=>exact⟨_,ae.ext λ k=>by rw[e88,h1,bi];show cond (!Af s l x) _ _=_;rw[hb];rfl,Nat.zero_le _⟩
 | true =>
  have mo:∀ n0 (i:Nat),i < v.len->∀ (m j n1:Nat) (w:Sl aj) (f:Bool),j+m=v.len->m < n1->∃ B:Bool,∀ (A:Type) (k:Sl aj×Bool->Option A),Dq E n0 n1 v (i:Int) f (j:Int) w k=cond B (xu E n0 v ((i+1:Nat):Int) w k) (Hq E n0 E.N v w (i:Int) 0 k):=by
   intro n0 i hi m
   induction m with
   | zero =>
    intro j n1 w f hj hn;obtain⟨n1,rfl⟩:∃ n',n1=n'+1:=⟨n1 - 1,by omega⟩;exact⟨!f,λ A k=>by rw[X8,decide_eq_false (by omega),cond_false,bQ (by omega)]⟩
   | succ m ih =>
    intro j n1 w f hj hn;obtain⟨n1,rfl⟩:∃ n',n1=n'+1:=⟨n1 - 1,by omega⟩;have st:∃ f':Bool,∀ (A:Type) (k:Sl aj×Bool->Option A),Dq E n0 (n1+1) v (i:Int) f (j:Int) w k=Dq E n0 n1 v (i:Int) f' ((j+1:Nat):Int) w k:=by
     cases f with
     | false=>exact⟨false,λ A k=>by rw[X8,decide_eq_true (by omega),bQ (by omega)];rfl⟩
     | true =>
      by_cases e:i=j
      ·exact⟨true,λ A k=>by rw[X8,decide_eq_true (by omega),bQ (by omega),show ((i:Int) == (j:Int))=true by rw[beq_iff_eq];omega];rfl⟩
      ·exact⟨_,λ A k=>by
        rw[X8,decide_eq_true (by omega),bQ (by omega),show ((i:Int) == (j:Int))=false by rw[dqU];omega,cond_true,cond_true,cond_false,bC (by omega),bC (by omega),Int.toNat_natCast,Int.toNat_natCast,h53 _ _ (ha j (by omega)).inc (ha i hi).inc,bi]⟩
    obtain⟨f',h⟩:=st;obtain⟨B,h2⟩:=ih (j+1) n1 w f' (by omega) (by omega);exact⟨B,λ A k=>by rw[h,h2]⟩
  have pos:∀ n0 (i:Nat),i < v.len->∀ (w:Sl aj),(∀ t∈ls w,mO s l t)->∀ (m j n1:Nat),j+m=w.len->w.len<=2001->m < n1->∃ a,a<=w.len/\∀ (A:Type) (k:Sl aj×Bool->Option A),Hq E n0 n1 v w (i:Int) (j:Int) k=Lh E n0 v w (i:Int) (a:Int) k:=by
   intro n0 i hi w hw m
   induction m with
   | zero =>
    intro j n1 hj hl hn;obtain⟨n1,rfl⟩:∃ n',n1=n'+1:=⟨n1 - 1,by omega⟩;exact⟨j,by omega,λ A k=>by rw[znq,decide_eq_false (by omega)];rfl⟩
   | succ m ih =>
    intro j n1 hj hl hn;obtain⟨n1,rfl⟩:∃ n',n1=n'+1:=⟨n1 - 1,by omega⟩;obtain⟨b,eb⟩:=zqx (w.get j) (v.get i) (hw _ (kG.2 ⟨j,by omega,rfl⟩)).one (ha i hi).one;have st:∀ (A:Type) (k:Sl aj×Bool->Option A),Hq E n0 (n1+1) v w (i:Int) (j:Int) k=cond b (Hq E n0 n1 v w (i:Int) ((j+1:Nat):Int) k) (Lh E n0 v w (i:Int) (j:Int) k):=λ A k=>by
     rw[znq,decide_eq_true (by omega),cond_true,bC (by omega),bC (by omega),Int.toNat_natCast,Int.toNat_natCast,eb,bi,bQ (by omega)]
    cases b with
    | true =>
     obtain⟨a,a1,a2⟩:=ih (j+1) n1 (by omega) hl (by omega);exact⟨a,a1,λ A k=>by rw[st];exact a2 A k⟩
    | false=>exact⟨j,by omega,λ A k=>by rw[st];rfl⟩
  have key:∀ (m i n:Nat) (w:Sl aj),i+m=v.len->m < n->w.len<=i->(∀ t∈ls w,mO s l t)->∃ w':Sl aj,(∀ (A:Type) (k:Sl aj×Bool->Option A),xu E n v (i:Int) w k=k (w',true))/\w'.len<=v.len:=by
   intro m
   induction m with
   | zero =>
    intro i n w hi hn hw hq;obtain⟨n,rfl⟩:∃ n',n=n'+1:=⟨n - 1,by omega⟩;exact⟨w,λ A k=>by rw[znp,decide_eq_false (by omega)];rfl,by omega⟩
   | succ m ih =>
    intro i n w hi hn hw hq;obtain⟨n,rfl⟩:∃ n',n=n'+1:=⟨n - 1,by omega⟩;have hi':i < v.len:=by omega
    obtain⟨B,hB⟩:=mo n i hi' v.len 0 E.N w true (by omega) (by omega);obtain⟨a,a1,a2⟩:=pos n i hi' w hq w.len 0 E.N (by omega) (by omega) (by omega);have ins:∃ w':Sl aj,(∀ (A:Type) (k:Sl aj×Bool->Option A),Lh E n v w (i:Int) (a:Int) k=xu E n v ((i+1:Nat):Int) w' k)/\w'.len=w.len+1/\∀ t∈ls w',mO s l t:=by
     refine⟨_,λ A k=>by
      rw[zyP,bC (by omega),jl (by omega) (by omega),bC (by omega),jl (by omega) (by omega),bC (by omega),jl (by omega) (by omega),bQ (by omega)],?_,?_⟩
     ·show ((((a:Int) - 0).toNat+1)+((w.len:Int) - (a:Int)).toNat)=_;omega
     ·intro t ht;obtain⟨q,hq',rfl⟩:=kG.1 ht;have hq':q < ((((a:Int) - 0).toNat+1)+((w.len:Int) - (a:Int)).toNat):=hq';show mO s l (jf (((a:Int) - 0).toNat+1) (jf ((a:Int) - 0).toNat (JF w.get 0) (λ _=>v.get (i:Int).toNat)) (JF w.get (a:Int).toNat) q);rw[gJ];split
      ·exact hq _ (kG.2 ⟨q - (((a:Int) - 0).toNat+1)+(a:Int).toNat,by omega,rfl⟩)
      ·rw [gJ];split
       ·rw[Int.toNat_natCast];exact ha i hi'
       ·exact hq _ (kG.2 ⟨q+0,by omega,rfl⟩)
    obtain⟨w1,i1,i2,i3⟩:=ins;have st:∀ (A:Type) (k:Sl aj×Bool->Option A),xu E (n+1) v (i:Int) w k=cond B (xu E n v ((i+1:Nat):Int) w k) (xu E n v ((i+1:Nat):Int) w1 k):=λ A k=>by
     rw[znp,decide_eq_true (by omega),cond_true];have h0:=hB A k;have h1:=a2 A k;rw[show ((0:Nat):Int)=0 from rfl] at h0 h1;rw[h0,h1,i1]
    cases B with
    | true =>
     obtain⟨w',x1,x2⟩:=ih (i+1) n w (by omega) (by omega) (by omega) hq;exact⟨w',λ A k=>by rw[st];exact x1 A k,x2⟩
    | false =>
     obtain⟨w',x1,x2⟩:=ih (i+1) n w1 (by omega) (by omega) (by omega) i3;exact⟨w',λ A k=>by rw[st];exact x1 A k,x2⟩
  obtain⟨w',a,c⟩:=key v.len 0 E.N ⟨0,Ti⟩ (by omega) (by omega) (iM _) (λ t h=>by cases h);refine⟨w',ae.ext λ k=>?_,by omega⟩;rw[e88,h1,bi];show cond (!Af s l x) _ _=_;rw[hb];exact a _ k
abbrev Q28 (C:ak×bF×Sl bz->ae (Sl aj×Bool)):Prop:=∀ s r l,Ev s l 1->Ev s l 2->∃ w:Sl aj,C (s,r,l)=.ok (w,Af s l 1 && Af s l 2)
theorem s28 {E:E28}(h88:Q88 E.v88):Q28 (F28 E):=λ s r l h1 h2=>by
 obtain⟨a,a1,a2⟩:=h88 s r l 1 h1;obtain⟨b,b1,b2⟩:=h88 s r l 2 h2;refine⟨⟨a.len+b.len,jf a.len a.get b.get⟩,ae.ext λ k=>?_⟩;rw[e28,a1,bi,b1,bi,jl (show a.len+b.len<=1000000 by omega) (by omega)];show cond (Af s l 1) _ _=_;cases Af s l 1 <;> rfl
structure Fair (s : ak) (r : bF) (l : Sl bz) (m : Int) : Prop where
  sh:qy s
  le:l.len<=40
  lm:(l.len:Int)<=m
  rf:uC s r l=0
  n1:(nD s l 1).length<=2000
  n2:(nD s l 2).length<=2000
abbrev Q17 (C:ak×bF×Sl bz×Int->ae (Sl aj×Bool)):Prop:=∀ s r l m,∃ w b,C (s,r,l,m)=.ok (w,b)/\(b=true->Fair s r l m)
theorem s17 {E:E17}(h23:Q23 E.c23) (h26:Q26 E.c26) (h28:Q28 E.c28):Q17 (F17 E):=λ s r l m=>by
 cases hsh:Z5 s l m with
 | false=>exact⟨⟨0,λ _=>default⟩,false,ae.ext λ k=>by rw[e17,h23,bi,hsh];rfl,λ h=>by cases h⟩
 | true =>
  obtain⟨hs,hl,_⟩:=zqm hsh;by_cases hm:(l.len:Int) > m
  ·exact⟨⟨0,λ _=>default⟩,false,ae.ext λ k=>by rw[e17,h23,bi,hsh,decide_eq_true hm];rfl,λ h=>by cases h⟩
  ·by_cases h0 : uC s r l = 0
   ·obtain ⟨he, _, qB⟩ := NI hs h0;obtain⟨w,hw⟩:=h28 s r l { toEvt:=he,l24:=qB,vw:=rfl } { toEvt:=he,l24:=qB,vw:=rfl };refine⟨w,Af s l 1 && Af s l 2,ae.ext λ k=>by rw[e17,h23,bi,hsh,decide_eq_false hm,h26 s r l hs hl,bi,h0];show (E.c28 (s,r,l)).T _=_;rw[hw,bi],λ h=>?_⟩;rw[fA] at h;have a:=of_decide_eq_true h.1;have b:=of_decide_eq_true h.2;refine⟨hs,hl,by omega,h0,?_,?_⟩
    ·rw[<- YD a];exact a
    ·rw[<- YD b];exact b
   ·exact⟨⟨0,λ _=>default⟩,false,ae.ext λ k=>by rw[e17,h23,bi,hsh,decide_eq_false hm,h26 s r l hs hl,bi,show (uC s r l != 0)=true by simpa using h0];rfl,λ h=>by cases h⟩
end Go.Proofs

namespace Go.Proofs
open Go Go.Pm
set_option maxRecDepth 100000
theorem zbf (t:aj):Ac t t=true:=IB.2 ⟨λ _ h=>h,rfl⟩
theorem zlA {a b c:aj}(h1:Ac b a=true) (h2:Ac c b=true):Ac c a=true:=by
 rw[IB] at *;exact⟨λ p hp=>h2.1 p (h1.1 p hp),h1.2.trans h2.2⟩
theorem Wn.fit {s:ak}{r:bF}{l:Sl bz}{f:found}(h:Wn s r l f){t:aj}(ht:t∈ls f.fits):(t.View=1\/t.View=2)/\O6 t.View t/\iy t∈(nD s l t.View).filter (rP s l t.View r):=by
 obtain⟨X,Y,e,x1,y1,x2,y2⟩:=h.fx;rw[e] at ht;rcases dL.1 ht with h | h
 ·have a := (x1 t h).1;exact⟨.inl a,⟨rfl,(x1 t h).2⟩,by rw[a,<- x2];exact List.mem_map_of_mem h⟩
 ·have a := (y1 t h).1;exact⟨.inr a,⟨rfl,(y1 t h).2⟩,by rw[a,<- y2];exact List.mem_map_of_mem h⟩
theorem Wn.has {s:ak}{r:bF}{l:Sl bz}{f:found}(h:Wn s r l f){x:Int}(hx:x=1\/x=2){c:jd}(hc:c∈(nD s l x).filter (rP s l x r)):∃ t∈ls f.fits,t.View=x/\iy t=c:=by
 obtain⟨X,Y,e,x1,y1,x2,y2⟩:=h.fx;rcases hx with rfl | rfl
 ·rw [← x2] at hc;obtain⟨t,ht,he⟩:=uF.1 hc;exact⟨t,by rw[e];exact List.mem_append_left _ ht,(x1 t ht).1,he⟩
 ·rw [← y2] at hc;obtain⟨t,ht,he⟩:=uF.1 hc;exact⟨t,by rw[e];exact List.mem_append_right _ ht,(y1 t ht).1,he⟩
theorem Wn.chosen {s:ak}{r:bF}{l:Sl bz}{f:found}(h:Wn s r l f) (he:Evt s l) (qB:l.len<=24){t:aj}(ht:t∈ls f.fits):lJ s l t:=by
 obtain⟨v,tv,m⟩:=h.fit ht;obtain⟨⟨j,hj⟩,ne⟩:=Tj (List.mem_filter.1 m).1;exact { ev:={ toEvt:=he,l24:=qB,vw:=decide_eq_true v },tv:=tv,vl:=⟨j,Ir hj⟩,ne:=ne }
theorem Wn.sub {s:ak}{r:bF}{l:Sl bz}{f:found}(h:Wn s r l f){t:aj}(ht:t∈ls f.fZ):t∈ls f.fits:=(List.mem_filter.1 (h.tr.mem_iff.1 ht)).1
theorem Wn.max {s:ak}{r:bF}{l:Sl bz}{f:found}(h:Wn s r l f) (he:Evt s l) (qB:l.len<=24){t:aj}(ht:t∈ls f.fits):∃ m∈ls f.fZ,Ac m t=true:=by
 obtain⟨m,hm,h1,h2⟩:=zr7 (F:=ls f.fits) (λ t=>t.Hits.len) (λ a b=>Ac b a=true) zbf (λ a b c h1 h2=>zlA h1 h2) 100 (λ a ha=>(h.chosen he qB ha).one.le) t ht;refine⟨m,h.tr.mem_iff.2 (List.mem_filter.2 ⟨hm,?_⟩),h1⟩;rw[Bool.not_eq_true',List.any_eq_false];intro x hx hg;unfold TQ at hg;rw[fA,decide_eq_true_eq] at hg;exact h2 x hx ⟨by have:=hg.1;omega,hg.2⟩
theorem Wn.len {s:ak}{r:bF}{l:Sl bz}{f:found}(h:Wn s r l f) (n1:(nD s l 1).length<=2000) (n2:(nD s l 2).length<=2000):f.fZ.len<=4000:=by
 obtain⟨X,Y,e,x1,y1,x2,y2⟩:=h.fx;have a:=h.tr.length_eq;rw[qF] at a;have b:=List.length_filter_le (λ t=>!(ls f.fits).any λ x=>TQ x t) (ls f.fits);rw[e,O8] at b;have c:=congrArg List.length x2;have d:=congrArg List.length y2;rw[List.length_map] at c d;have:=List.length_filter_le (rP s l 1 r) (nD s l 1);have:=List.length_filter_le (rP s l 2 r) (nD s l 2);rw[e] at a;omega
theorem Fair.evt {s:ak}{r:bF}{l:Sl bz}{m:Int}(h:Fair s r l m):Evt s l/\l.len<=24/\lD r=true:=by
 obtain⟨a,b,c⟩:=NI h.sh h.rf;exact⟨a,c,b⟩
theorem Ag {g : Sl aB} {d x : Int} (hd : 0 ≤ d) (h0 : 0 < g.len) (h : ∀ i, i < g.len → (g.get i).Low * d ≤ x ∧ x ≤ (g.get i).High * d) : ∀ n, n ≤ g.len → (dZ g n).Low * d ≤ x ∧ x ≤ (dZ g n).High * d
  | 0,_=>h 0 h0
  | n+1,hn=>by
    obtain⟨a,b⟩:=Ag hd h0 h n (by omega);obtain⟨c,e⟩:=h n (by omega);simp only[dZ];constructor
    · split <;> assumption
    · split <;> assumption
theorem zbg {a b x d:Int}(hd:0 < d) (h1:a * d<=x) (h2:x<=b * d):a<=b:=Int.le_of_mul_le_mul_right (Int.le_trans h1 h2) hd
theorem Tn {g:Sl aB}(hf:eX g=true){s:straight}(ha:vV g s){z:Int}(hz:(g.get 0).Z=z):∀ i,i < g.len->(g.get i).Low * s.den<=fH s z/\fH s z<=(g.get i).High * s.den:=λ i hi=>by
 have:=uh ha hi;rw[BV.1 hf i hi,hz] at this;exact this
theorem zlB {g:Sl aB}(G:df g){s:straight}(hd:0 < s.den) (ha:vV g s):iC g=true:=by
 have hg:=G.2;cases hf:eX g with
 | true =>
  obtain⟨a,b⟩:=Ag (Int.le_of_lt hd) (by omega) (Tn hf ha rfl) g.len (iM _);unfold iC;rw[hf,cond_true,decide_eq_true_eq];exact zbg hd a b
 | false =>
  obtain⟨_,⟨c,c1,_⟩,_⟩:=lp (by omega) (λ h=>by rw[BV.2 h] at hf;cases hf) hd ha;exact (BZ G hf).2 ⟨c,c1.1,c1.2⟩
def Tq (a b:aQ):Prop:=a.Num * b.bI<=b.Num * a.bI
theorem zgw {a b:aQ}(h : ¬ yh b a):Tq a b:=by unfold yh at h;unfold Tq;omega
theorem qG {a b c:aQ}(ha:0 < a.bI) (hb:0 < b.bI) (hc:0 < c.bI) (h1:Tq a b) (h2:Tq b c):Tq a c:=by
 unfold Tq at *;have y1:=Int.mul_le_mul_of_nonneg_right h1 (Int.le_of_lt hc);have y2:=Int.mul_le_mul_of_nonneg_right h2 (Int.le_of_lt ha);have z1:b.Num * a.bI * c.bI=b.Num * c.bI * a.bI:=by ac_rfl
 have z2:c.Num * b.bI * a.bI=c.Num * a.bI * b.bI:=by ac_rfl
 have z3:a.Num * b.bI * c.bI=a.Num * c.bI * b.bI:=by ac_rfl
 have:a.Num * c.bI * b.bI<=c.Num * a.bI * b.bI:=by omega
 exact Int.le_of_mul_le_mul_right this hb
theorem Tt {a b:aQ}(ha:0 < a.bI) (hb:0 < b.bI) (h:Tq a b):a.Num / a.bI<=b.Num / b.bI:=by
 rw[Int.le_ediv_iff_mul_le hb];have h1:=Int.ediv_mul_le a.Num (show a.bI ≠ 0 by omega);unfold Tq at h;refine Int.le_of_mul_le_mul_right (?_:_ * a.bI<=_ * a.bI) ha;have h2:=Int.mul_le_mul_of_nonneg_right h1 (Int.le_of_lt hb);have e:a.Num / a.bI * b.bI * a.bI=a.Num / a.bI * a.bI * b.bI:=by ac_rfl
 omega
theorem zgx {a b:aQ}(ha:0 < a.bI) (hb:0 < b.bI) (h:Tq a b) : -(-a.Num / a.bI)<=-(-b.Num / b.bI):=by
 have:=Tt (a:=⟨-b.Num,b.bI⟩) (b:=⟨-a.Num,a.bI⟩) hb ha (by unfold Tq at *;show -b.Num * a.bI<=-a.Num * b.bI;rw[Int.neg_mul,Int.neg_mul];omega);have : -b.Num / b.bI<=-a.Num / a.bI:=this;omega
theorem Ah {a b:Int}(hb:0 < b):Tq (red a b) ⟨a,b⟩/\Tq ⟨a,b⟩ (red a b):=by
 have h1:=lM (num:=a) hb;have h2:=kF (num:=a) hb;unfold Tq;generalize (Int.gcd a b:Int)=G at h1 h2;have e:(red a b).Num * b=a * (red a b).bI:=by
  generalize (red a b).Num=x at *;generalize (red a b).bI=y at *;rw[<- h1,<- h2];ac_rfl
 show (red a b).Num * b<=a * (red a b).bI/\a * (red a b).bI<=(red a b).Num * b;omega
theorem zgy {x y:straight}(X:rV x) (Y:rV y) (h:dQ x=dQ y) (z:Int):Tq (xx z x) (xx z y):=by
  have a:=Ip X z;have b:=Ip Y z;rw[h] at a;have px:=Oj Y;unfold Tq;show fH x z * y.den<=fH y z * x.den;have e:fH x z * y.den * Ju (dQ y)=fH y z * x.den * Ju (dQ y):=by
    calc fH x z * y.den * Ju (dQ y) = fH x z * Ju (dQ y) * y.den := by ac_rfl
      _=Yn (dQ y) z * x.den * y.den:=by rw[a]
      _=Yn (dQ y) z * y.den * x.den:=by ac_rfl
      _=fH y z * Ju (dQ y) * x.den:=by rw[b]
      _=fH y z * x.den * Ju (dQ y):=by ac_rfl
  have:=Int.eq_of_mul_eq_mul_right (by omega) e;omega
theorem ztd {g:Sl aB}(G:df g){s:straight}(S:rV s) (ha:vV g s){z:Int}(ho:(BR g ((g.get 0).Z == z)).2=0):Tq (yB g z).1 (xx z s)/\Tq (xx z s) (yB g z).2/\0 < (yB g z).1.bI/\0 < (yB g z).2.bI:=by
 have hg:=G.2;have hd:0 < s.den:=by have:=S.2.2;omega
 obtain⟨so,hc⟩:=znC G ho;unfold yB;cases hf:eX g with
 | true =>
  have hz:(g.get 0).Z=z:=by
   unfold BR at ho;rw[lH.2 G,so,hf] at ho;cases h:(g.get 0).Z == z with
   | true=>exact eq_of_beq h
   | false=>rw[h] at ho;cases ho
  obtain⟨a,b⟩:=Ag (Int.le_of_lt hd) (by omega) (Tn hf ha hz) g.len (iM _);rw[cond_true];have r1:=Ah (a:=(dZ g g.len).Low) (b:=1) (by omega);have r2:=Ah (a:=(dZ g g.len).High) (b:=1) (by omega);have p1:=gW (num:=(dZ g g.len).Low) (den:=1) (by omega);have p2:=gW (num:=(dZ g g.len).High) (den:=1) (by omega);refine⟨qG p1 (b:=⟨_,1⟩) (show (0:Int) < 1 by omega) hd r1.1 ?_,qG hd (b:=⟨_,1⟩) (show (0:Int) < 1 by omega) p2 ?_ r2.2,p1,p2⟩
  ·show (dZ g g.len).Low * s.den<=fH s z * 1;omega
  ·show fH s z * 1<=(dZ g g.len).High * s.den;omega
 | false =>
  have nf : ¬ SK g:=λ h=>by rw[BV.2 h] at hf;cases hf
  obtain⟨hl,_,_⟩:=lp (by omega) nf hd ha;obtain⟨⟨c,c1,c2⟩,e,e1,e2⟩:=hl z;have C:=ny G c1;have D:=ny G e1;have pc:0 < c.den:=by have:=C.2.2;omega
  have pe:0 < e.den:=by have:=D.2.2;omega
  have XZ:∀ {c:straight},Dx g c->∃ x∈kH g,dQ x=dQ c:=fun {c} hc=>(Oe hf).2.1 c hc.1 ((zW G (oU G hc.1)).2 hc.2);obtain⟨x,x1,x2⟩:=XZ c1;obtain⟨y,y1,y2⟩:=XZ e1;have X:=ny G (Em G x1);have Y:=ny G (Em G y1);have px:0 < x.den:=by have:=X.2.2;omega
  have py:0 < y.den:=by have:=Y.2.2;omega
  obtain⟨⟨u,u1,u2⟩,u3⟩:=zf7 G z (hc hf);obtain⟨⟨v,v1,v2⟩,v3⟩:=zf8 G z (hc hf);have pu:0 < (Wi g z).bI:=by rw[u2];have:=(ny G u1).2.2;show 0 < u.den;omega
  have pv:0 < (Wj g z).bI:=by rw[v2];have:=(ny G v1).2.2;show 0 < v.den;omega
  have r1:=Ah (a:=(Wi g z).Num) pu;have r2:=Ah (a:=(Wj g z).Num) pv;have p1:=gW (num:=(Wi g z).Num) pu;have p2:=gW (num:=(Wj g z).Num) pv;rw[cond_false];refine⟨qG p1 pu hd r1.1 ?_,qG hd pv p2 ?_ r2.2,p1,p2⟩
  ·refine qG pu (b := xx z x) px hd (zgw (u3 x x1)) (qG (b := xx z c) px pc hd (zgy X C x2 z) ?_);exact c2
  ·refine qG hd (b := xx z y) py pv (qG (b := xx z e) hd pe py ?_ (zgy D Y y2.symm z)) (zgw (v3 y y1));exact e2
/-! What a plane must see. -/
theorem OL : ∀ {l : List (Int × bV)} {n h : Int}, (∀ t ∈ l, -1000000000000 ≤ t.2.High ∧ t.2.High ≤ 1000000000000) → nxt l n > h → ∀ y, n ≤ y → y ≤ h → ∃ t ∈ l, t.2.Low ≤ y ∧ y ≤ t.2.High
  | [],n,h,_,hn,y,h1,h2=>by have:n > h:=hn;omega
  | t :: l,n,h,hb,hn,y,h1,h2=>by
    have hb':=λ u hu=>hb u (jc _ hu);have ht:=hb t jS;by_cases c:t.2.Low<=n/\n<=t.2.High
    · have e:nxt (t :: l) n=nxt l (t.2.High+1):=by
        show nxt l (cond (decide (t.2.Low<=n) && decide (n<=t.2.High)) (aO (t.2.High+1)) n)=_;rw[decide_eq_true c.1,decide_eq_true c.2,aY (by omega) (by omega)];rfl
      rw[e] at hn;by_cases hy:y<=t.2.High
      · exact⟨t,jS,by omega,hy⟩
      · obtain ⟨u, a, b⟩ := OL hb' hn y (by omega) h2;exact⟨u,jc _ a,b⟩
    · have e:nxt (t :: l) n=nxt l n:=by
        show nxt l (cond (decide (t.2.Low<=n) && decide (n<=t.2.High)) (aO (t.2.High+1)) n)=_;by_cases h1:t.2.Low<=n
        · rw[decide_eq_false (show ¬ n<=t.2.High from λ h2=>c ⟨h1,h2⟩),Bool.and_false];rfl
        · rw[decide_eq_false h1];rfl
      rw[e] at hn;obtain⟨u,a,b⟩:=OL hb' hn y h1 h2;exact⟨u,jc _ a,b⟩
theorem YE {p:ai}(hp:Q4 p):0<=jh p/\jh p<=p.aT:=by
 obtain⟨_,_,_,_,hpi,_⟩:=hp;have:0<=p.aT.tdiv 2/\p.aT.tdiv 2<=p.aT:=by rw[Int.tdiv_eq_ediv_of_nonneg (by omega)];omega
 unfold jh;cases p.Kind == 2 with
 | true=>rw[cond_true,aY (by omega) (by omega)];exact this
 | false=>rw[cond_false];omega
theorem Eu {p:ai}(hp:Q4 p){c:Int}(h1:0<=c) (h2:c<=2000):mf p c=⟨p.First+c * p.aT - jh p,p.First+c * p.aT - jh p+p.aT - 1⟩/\0<=c * p.aT/\c * p.aT<=1000000000:=by
 have hh:=YE hp;obtain⟨_,_,_,hf,hpi,_⟩:=hp;obtain⟨q1,q2⟩:=tq (a:=c) (b:=p.aT) (by omega) (by omega);refine⟨?_,q1,q2⟩;unfold mf;rw[aY (x:=c * p.aT) (by omega) (by omega),aY (x:=p.First+c * p.aT) (by omega) (by omega),aY (x:=p.First+c * p.aT - jh p) (by omega) (by omega),aY (x:=p.First+c * p.aT - jh p+p.aT) (by omega) (by omega),aY (by omega) (by omega)]
theorem Ai {p : ai} {t : Int × bV} : ∀ {m c : Nat}, t ∈ OH p m c → ∃ q : Nat, c ≤ q ∧ q < c + m ∧ hasB p.Dead (q : Int) = false ∧ t.2 = mf p (q : Int)
  | m+1,c,h=>by
    simp only[OH] at h;cases hd:hasB p.Dead (c:Int) with
    | true =>
      rw[hd] at h;obtain⟨q,a,b,d⟩:=Ai h;exact⟨q,by omega,by omega,d⟩
    | false =>
      rw[hd] at h;rcases jm.1 h with h | h
      · exact⟨c,iM _,by omega,hd,by rw[h];rfl⟩
      · obtain ⟨q, a, b, d⟩ := Ai h;exact⟨q,by omega,by omega,d⟩
theorem zgz {p:ai}(hp:Q4 p){X x:bV}(h:IG p X=true) (hX : -1000000<=X.Low/\X.High<=1000000) (h1:X.Low<=x.Low) (h2:x.Low<=x.High) (h3:x.High<=X.High):Lt p x=true:=by
 have hh:=YE hp;have hp':=hp;obtain⟨_,_,_,hf,hpi,hst,hsp,ho,_⟩:=hp;unfold IG at h;rw[decide_eq_true_eq,aY (x:=X.Low - p.bn.High) (by omega) (by omega),aY (x:=X.High - p.bn.Low) (by omega) (by omega)] at h;have cov:∀ y,X.Low - p.bn.High<=y->y<=X.High - p.bn.Low->∃ q:Nat,(q:Int) < p.bM/\hasB p.Dead (q:Int)=false/\(mf p (q:Int)).Low<=y/\y<=(mf p (q:Int)).High:=λ y y1 y2=>by
  obtain⟨t,ht,a,b⟩:=OL (λ t ht=>by
   obtain⟨q,_,q2,_,e⟩:=Ai ht;obtain⟨e2,e3,e4⟩:=Eu hp' (c:=(q:Int)) (by omega) (by omega);rw[e,e2];show _<=p.First+q * p.aT - jh p+p.aT - 1/\p.First+q * p.aT - jh p+p.aT - 1<=_;omega) h y y1 y2
  obtain⟨q,_,q2,q3,e⟩:=Ai ht;rw[e] at a b;exact⟨q,by omega,q3,a,b⟩
 have ge:∀ q:Nat,(q:Int) < p.bM->mf p (q:Int)=⟨p.First+q * p.aT - jh p,p.First+q * p.aT - jh p+p.aT - 1⟩:=λ q hq=>(Eu hp' (c:=(q:Int)) (by omega) (by omega)).1;have mono:∀ a b:Int,a < b->a * p.aT+p.aT<=b * p.aT:=λ a b hab=>by
  have:=Int.mul_le_mul_of_nonneg_right (show a+1<=b by omega) (show 0<=p.aT by omega);rw[Int.add_mul,Int.one_mul] at this;exact this
 have nn:∀ q:Nat,0<=(q:Int) * p.aT:=λ q=>Int.mul_nonneg (by omega) (by omega);unfold Lt;rw[aY (x:=x.Low - p.bn.High) (by omega) (by omega),aY (x:=x.High - p.bn.Low) (by omega) (by omega),aY (x:=p.bM - 1) (by omega) (by omega)];simp only[fA,decide_eq_true_eq,dA,Bool.not_eq_true'];refine⟨⟨?_,?_⟩,λ c hc=>?_⟩
 ·obtain ⟨q, q1, _, q3, _⟩ := cov (x.Low - p.bn.High) (by omega) (by omega);rw[ge q q1] at q3;rw[(Eu hp' (c:=0) (by omega) (by omega)).1];have:=nn q;show p.First+0 * p.aT - jh p<=_;simp only at q3;omega
 ·obtain ⟨q, q1, _, _, q4⟩ := cov (x.High - p.bn.Low) (by omega) (by omega);rw[ge q q1] at q4;rw[(Eu hp' (c:=p.bM - 1) (by omega) (by omega)).1];show _<=p.First+(p.bM - 1) * p.aT - jh p+p.aT - 1;simp only at q4;by_cases e:(q:Int)=p.bM - 1
  ·rw[<- e];exact q4
  ·have:=mono q (p.bM - 1) (by omega);omega
 ·cases hd:Dy p (x.Low - p.bn.High) (x.High - p.bn.Low) c with
  | false=>rfl
  | true =>
   simp only[Dy,fA,decide_eq_true_eq] at hd;obtain⟨d1,d2,d3⟩:=hd;have gc:=ge c (by omega);rw[gc] at d2 d3;simp only at d2 d3;obtain⟨q,q1,q2,q3,q4⟩:=cov (if p.First+c * p.aT - jh p >= x.Low - p.bn.High then p.First+c * p.aT - jh p else x.Low - p.bn.High) (by split <;> omega) (by split <;> omega);rw[ge q q1] at q3 q4;simp only at q3 q4;rcases Int.lt_trichotomy (q:Int) (c:Int) with e | e | e
   ·have := mono q c e;split at q4 <;> omega
   ·have : q = c := by omega
    rw[this,d1] at q2;cases q2
   ·have := mono c q e;split at q3 <;> omega
structure YF where
  N:Nat
  c55:Int×Int×Int×Int->ae (Line)
  c74:ak×bz->ae (bV)
  oZ:Int×Int×Int->ae (Bool)
  c75:ak×bz->ae ((Sl aB))
  c57:Line×(Sl aB)->ae ((Sl Int))
  c76:Line×Int->ae (aQ)
  c77:ai×bV->ae (Bool×Bool)
abbrev G21 (E:YF):bf:=dw (((((((Tabs.nil.addF 55 (ae.un E.c55)).addF 74 (ae.un E.c74)).addF 73 (ae.un E.oZ)).addF 75 (ae.un E.c75)).addF 57 (ae.un E.c57)).addF 76 (ae.un E.c76)).addF 77 (ae.un E.c77)) []
def A21:bW:=aU ax 21 [] { ks:=[(1,4,⟨[],[(17,122,3)],[],[],[],[],[]⟩)],cut:=[29,31,32,33] }
def F21 (E:YF):ak×bF×(Sl bz)×Int×iY×Int×Int->ae ((Sl Int)×Bool):=ae.ty (aF ax E.N (G21 E) A21 21)
section
variable (E:YF){A:Type}(k:((Sl Int)×Bool)->Option A)
def rQ (E:YF) (n:Nat) (a0:ak) (a1:bF) (a2:(Sl bz)) (a3:Int) (a5:Int) (a6:Int) (v18:Int) (x16:Line) (dO:Sl Int){A:Type}(k:((Sl Int)×Bool)->Option A):Option A :=
  gV ax (G21 E) E.N A21 21 [1,1,1,0,1,0] [.n n] (gY k)
    ⟨[(2,eP a2),(3,.int a3),(5,.int a5),(6,.int a6),(7,.cl (.ptr 7 0)),(8,.cl (.ptr 8 0)),(16,.cl (.ptr 16 0)),(17,.cl (.vec 122)),(18,.int v18)],[(7,eB 24 a0),(8,eB 26 a1),(16,eB 114 x16),(122,eV 3 1 8 dO)],[]⟩
def Tu (E:YF) (n0:Nat) (n:Nat) (a0:ak) (a1:bF) (a2:(Sl bz)) (a3:Int) (a5:Int) (a6:Int) (v18:Int) (v20:Bool) (v21:Int) (x16:Line) (dO:Sl Int){A:Type}(k:((Sl Int)×Bool)->Option A):Option A :=
  gV ax (G21 E) E.N A21 21 [1,1,1,0,1,0,0,1,0,0,1,1,1,0,1,0] [.n n0,.n n] (gY k)
    ⟨[(2,eP a2),(3,.int a3),(5,.int a5),(6,.int a6),(7,.cl (.ptr 7 0)),(8,.cl (.ptr 8 0)),(16,.cl (.ptr 16 0)),(17,.cl (.vec 122)),(18,.int v18),(20,.bool v20),(21,.int v21)],[(7,eB 24 a0),(8,eB 26 a1),(16,eB 114 x16),(122,eV 3 1 8 dO)],[]⟩
def uy (E:YF) (n:Nat) (a0:ak) (a1:bF) (a2:(Sl bz)) (a3:Int) (v22:Int) (v23:Int) (x16:Line) (dO:Sl Int){A:Type}(k:((Sl Int)×Bool)->Option A):Option A :=
  gV ax (G21 E) E.N A21 21 [1,1,1,1,1,0,1,0] [.n n] (gY k)
    ⟨[(2,eP a2),(3,.int a3),(7,.cl (.ptr 7 0)),(8,.cl (.ptr 8 0)),(16,.cl (.ptr 16 0)),(17,.cl (.vec 122)),(22,.int v22),(23,.int v23)],[(7,eB 24 a0),(8,eB 26 a1),(16,eB 114 x16),(122,eV 3 1 8 dO)],[]⟩
def Tv (E:YF) (n0:Nat) (n:Nat) (a0:ak) (a1:bF) (a2:(Sl bz)) (a3:Int) (v22:Int) (v23:Int) (v24:Bool) (v25:Int) (x16:Line) (dO:Sl Int){A:Type}(k:((Sl Int)×Bool)->Option A):Option A :=
  gV ax (G21 E) E.N A21 21 [1,1,1,1,1,0,1,0,0,1,0,0,1,0,1,0] [.n n0,.n n] (gY k)
    ⟨[(2,eP a2),(3,.int a3),(7,.cl (.ptr 7 0)),(8,.cl (.ptr 8 0)),(16,.cl (.ptr 16 0)),(17,.cl (.vec 122)),(22,.int v22),(23,.int v23),(24,.bool v24),(25,.int v25)],[(7,eB 24 a0),(8,eB 26 a1),(16,eB 114 x16),(122,eV 3 1 8 dO)],[]⟩
def YG (E:YF) (n0:Nat) (a0:ak) (a1:bF) (a2:(Sl bz)) (a3:Int) (v22:Int) (v23:Int) (v24:Bool) (v27:Int) (x16:Line) (dO:Sl Int) (x26:aQ) (x28:bV){A:Type}(k:((Sl Int)×Bool)->Option A):Option A :=
  gV ax (G21 E) E.N A21 21 [1,1,1,1,1,0,1,0,0,1,0,0,1,1,1,1,1,1] [.n n0] (gY k)
    ⟨[(2,eP a2),(3,.int a3),(7,.cl (.ptr 7 0)),(8,.cl (.ptr 8 0)),(16,.cl (.ptr 16 0)),(17,.cl (.vec 122)),(22,.int v22),(23,.int v23),(24,.bool v24),(26,.cl (.ptr 26 0)),(27,.int v27),(28,.cl (.ptr 28 0))],[(7,eB 24 a0),(8,eB 26 a1),(16,eB 114 x16),(122,eV 3 1 8 dO),(26,eB 85 x26),(28,eB 105 x28)],[]⟩
def Tz (E:YF) (n0:Nat) (a0:ak) (a1:bF) (a2:(Sl bz)) (a3:Int) (v22:Int) (v23:Int) (v24:Bool) (x16:Line) (dO:Sl Int) (x28:bV){A:Type}(k:((Sl Int)×Bool)->Option A):Option A :=
  gV ax (G21 E) E.N A21 21 [1,1,1,1,1,0,1,0,0,1,0,0,1,1,1,1,1,1,1] [.n n0] (gY k)
    ⟨[(2,eP a2),(3,.int a3),(7,.cl (.ptr 7 0)),(8,.cl (.ptr 8 0)),(16,.cl (.ptr 16 0)),(17,.cl (.vec 122)),(22,.int v22),(23,.int v23),(24,.bool v24),(28,.cl (.ptr 28 0))],[(7,eB 24 a0),(8,eB 26 a1),(16,eB 114 x16),(122,eV 3 1 8 dO),(28,eB 105 x28)],[]⟩
def znE (E:YF) (n0:Nat) (a0:ak) (a1:bF) (a2:(Sl bz)) (a3:Int) (v22:Int) (v23:Int) (x16:Line) (dO:Sl Int) (x28:bV){A:Type}(k:((Sl Int)×Bool)->Option A):Option A :=
  gV ax (G21 E) E.N A21 21 [1,1,1,1,1,0,1,0,0,1,0,0,1,1,1,1,1,1,1,1] [.n n0] (gY k)
    ⟨[(2,eP a2),(3,.int a3),(7,.cl (.ptr 7 0)),(8,.cl (.ptr 8 0)),(16,.cl (.ptr 16 0)),(17,.cl (.vec 122)),(22,.int v22),(23,.int v23),(28,.cl (.ptr 28 0))],[(7,eB 24 a0),(8,eB 26 a1),(16,eB 114 x16),(122,eV 3 1 8 dO),(28,eB 105 x28)],[]⟩
def znF (E:YF) (n0:Nat) (a0:ak) (a1:bF) (a2:(Sl bz)) (a3:Int) (v22:Int) (v23:Int) (v29:Bool) (x16:Line) (dO:Sl Int){A:Type}(k:((Sl Int)×Bool)->Option A):Option A :=
  gV ax (G21 E) E.N A21 21 [1,1,1,1,1,0,1,0,0,1,0,0,1,1,1,1,1,1,1,1,1] [.n n0] (gY k)
    ⟨[(2,eP a2),(3,.int a3),(7,.cl (.ptr 7 0)),(8,.cl (.ptr 8 0)),(16,.cl (.ptr 16 0)),(17,.cl (.vec 122)),(22,.int v22),(23,.int v23),(29,.bool v29)],[(7,eB 24 a0),(8,eB 26 a1),(16,eB 114 x16),(122,eV 3 1 8 dO)],[]⟩
theorem e21 (a0:ak) (a1:bF) (a2:(Sl bz)) (a3:Int) (a4:iY) (a5:Int) (a6:Int):(F21 E (a0,a1,a2,a3,a4,a5,a6)).T k =
  (E.c55 (a4.Z,a4.X,a4.W,a4.Y)).T λ r1 =>
  rQ E E.N a0 a1 a2 a3 a5 a6 0 r1 (⟨0,(λ _=>0)⟩:(Sl Int)) k:=bJ.trans (by kernel_rfl)
theorem TA (n0:Nat) (a0:ak) (a1:bF) (a2:(Sl bz)) (a3:Int) (a5:Int) (a6:Int) (v18:Int) (x16:Line) (dO:Sl Int):rQ E (n0+1) a0 a1 a2 a3 a5 a6 v18 x16 dO k =
  cond (decide (v18 < (a2.len:Int)))
  (aZ (decide (0<=v18/\v18 < (a2.len:Int))) (aZ (decide (0<=(a2.get v18.toNat).ai/\(a2.get v18.toNat).ai < (a0.af.len:Int))) (aZ (decide (0<=v18)) (cond ((zhw .i64 (yE .i64 a6 v18) 1) == 0)
 (rQ E n0 a0 a1 a2 a3 a5 a6 (aO (v18+1)) x16 dO k)
 (cond ((a0.af.get (a2.get v18.toNat).ai.toNat).View != a3)
 (rQ E n0 a0 a1 a2 a3 a5 a6 (aO (v18+1)) x16 dO k)
 (aZ (decide (0<=v18/\v18 < (a2.len:Int))) ((E.c74 (a0,(a2.get v18.toNat))).T λ r1 =>
 aZ (decide (0<=v18/\v18 < (a2.len:Int))) ((E.c74 (a0,(a2.get v18.toNat))).T λ r2 =>
 (E.oZ (a5,r1.Low,r2.High)).T λ r3 =>
 cond (!r3)
 (rQ E n0 a0 a1 a2 a3 a5 a6 (aO (v18+1)) x16 dO k)
 (aZ (decide (0<=v18/\v18 < (a2.len:Int))) ((E.c75 (a0,(a2.get v18.toNat))).T λ r4 =>
 (E.c57 (x16,r4)).T λ r5 =>
 Tu E n0 E.N a0 a1 a2 a3 a5 a6 v18 (decide ((r5.len:Int) > 0)) 0 x16 dO k))))))))))
  (uy E E.N a0 a1 a2 a3 0 0 x16 dO k):=by kernel_rfl
theorem znG (n0:Nat) (n1:Nat) (a0:ak) (a1:bF) (a2:(Sl bz)) (a3:Int) (a5:Int) (a6:Int) (v18:Int) (v20:Bool) (v21:Int) (x16:Line) (dO:Sl Int):Tu E n0 (n1+1) a0 a1 a2 a3 a5 a6 v18 v20 v21 x16 dO k =
  cond (decide (v21 < (dO.len:Int)))
  (cond v20
 (aZ (decide (0<=v21/\v21 < (dO.len:Int))) (aZ (decide (v21.toNat < dO.len)) (aZ (decide (0<=dO.get v21.toNat/\dO.get v21.toNat < (a2.len:Int))) (aZ (decide (0<=v18/\v18 < (a2.len:Int))) (Tu E n0 n1 a0 a1 a2 a3 a5 a6 v18 ((a2.get (dO.get v21.toNat).toNat).ai != (a2.get v18.toNat).ai) (aO (v21+1)) x16 dO k)))))
 (Tu E n0 n1 a0 a1 a2 a3 a5 a6 v18 false (aO (v21+1)) x16 dO k))
  (cond v20
 (aZ (room (dO.len+1) 8) (rQ E n0 a0 a1 a2 a3 a5 a6 (aO (v18+1)) x16 (⟨(dO.len+1),(jf dO.len dO.get (λ _=>v18))⟩:(Sl Int)) k))
 (rQ E n0 a0 a1 a2 a3 a5 a6 (aO (v18+1)) x16 dO k)):=by kernel_rfl
theorem znH (n0:Nat) (a0:ak) (a1:bF) (a2:(Sl bz)) (a3:Int) (v22:Int) (v23:Int) (x16:Line) (dO:Sl Int):uy E (n0+1) a0 a1 a2 a3 v22 v23 x16 dO k =
  cond (decide (v23 < (a0.af.len:Int)))
  (aZ (decide (0<=v23/\v23 < (a0.af.len:Int))) (Tv E n0 E.N a0 a1 a2 a3 v22 v23 ((a0.af.get v23.toNat).View != a3) 0 x16 dO k))
  (cond (decide ((dO.len:Int) >= a1.oW))
 (k (dO,decide (v22<=a1.rU)))
 (k (dO,false))):=by kernel_rfl
theorem znI (n0:Nat) (n1:Nat) (a0:ak) (a1:bF) (a2:(Sl bz)) (a3:Int) (v22:Int) (v23:Int) (v24:Bool) (v25:Int) (x16:Line) (dO:Sl Int):Tv E n0 (n1+1) a0 a1 a2 a3 v22 v23 v24 v25 x16 dO k =
  cond (decide (v25 < (dO.len:Int)))
  (cond v24
 (Tv E n0 n1 a0 a1 a2 a3 v22 v23 true (aO (v25+1)) x16 dO k)
 (aZ (decide (0≤v25∧v25 < (dO.len:Int))) (aZ (decide (v25.toNat < dO.len)) (aZ (decide (0≤dO.get v25.toNat∧dO.get v25.toNat < (a2.len:Int))) (Tv E n0 n1 a0 a1 a2 a3 v22 v23 ((a2.get (dO.get v25.toNat).toNat).ai == v23) (aO (v25+1)) x16 dO k)))))
  (aZ (decide (0<=v23/\v23 < (a0.af.len:Int))) ((E.c76 (x16,(a0.af.get v23.toNat).Z)).T λ r1 =>
 aZ (decide (r1.bI ≠ 0)) (cond (decide ((aO ((aO (r1.Num.tdiv r1.bI)) * r1.bI)) > r1.Num))
 (YG E n0 a0 a1 a2 a3 v22 v23 v24 (aO ((aO (r1.Num.tdiv r1.bI)) - 1)) x16 dO r1 (⟨(aO ((aO (r1.Num.tdiv r1.bI)) - 1)),(aO ((aO (r1.Num.tdiv r1.bI)) - 1))⟩:bV) k)
 (YG E n0 a0 a1 a2 a3 v22 v23 v24 (aO (r1.Num.tdiv r1.bI)) x16 dO r1 (⟨(aO (r1.Num.tdiv r1.bI)),(aO (r1.Num.tdiv r1.bI))⟩:bV) k)))):=by kernel_rfl
theorem zzQ (n0:Nat) (a0:ak) (a1:bF) (a2:(Sl bz)) (a3:Int) (v22:Int) (v23:Int) (v24:Bool) (v27:Int) (x16:Line) (dO:Sl Int) (x26:aQ) (x28:bV):YG E n0 a0 a1 a2 a3 v22 v23 v24 v27 x16 dO x26 x28 k =
  cond ((aO (v27 * x26.bI)) != x26.Num)
  (Tz E n0 a0 a1 a2 a3 v22 v23 v24 x16 dO (⟨x28.Low,(aO (v27+1))⟩:bV) k)
  (Tz E n0 a0 a1 a2 a3 v22 v23 v24 x16 dO x28 k):=by kernel_rfl
theorem zzR (n0:Nat) (a0:ak) (a1:bF) (a2:(Sl bz)) (a3:Int) (v22:Int) (v23:Int) (v24:Bool) (x16:Line) (dO:Sl Int) (x28:bV):Tz E n0 a0 a1 a2 a3 v22 v23 v24 x16 dO x28 k =
  cond v24
  (uy E n0 a0 a1 a2 a3 v22 (aO (v23+1)) x16 dO k)
  (cond (decide (x28.Low < (-1000000)))
 (uy E n0 a0 a1 a2 a3 v22 (aO (v23+1)) x16 dO k)
 (cond (decide (x28.High > 1000000))
 (uy E n0 a0 a1 a2 a3 v22 (aO (v23+1)) x16 dO k)
 (znE E n0 a0 a1 a2 a3 v22 v23 x16 dO x28 k))):=by kernel_rfl
theorem zzS (n0:Nat) (a0:ak) (a1:bF) (a2:(Sl bz)) (a3:Int) (v22:Int) (v23:Int) (x16:Line) (dO:Sl Int) (x28:bV):znE E n0 a0 a1 a2 a3 v22 v23 x16 dO x28 k =
  aZ (decide (0<=v23/\v23 < (a0.af.len:Int))) ((E.c77 ((a0.af.get v23.toNat),x28)).T λ r1 =>
 znF E n0 a0 a1 a2 a3 v22 v23 r1.1 x16 dO k):=by kernel_rfl
theorem zzT (n0:Nat) (a0:ak) (a1:bF) (a2:(Sl bz)) (a3:Int) (v22:Int) (v23:Int) (v29:Bool) (x16:Line) (dO:Sl Int):znF E n0 a0 a1 a2 a3 v22 v23 v29 x16 dO k =
  cond v29
  (uy E n0 a0 a1 a2 a3 (aO (v22+1)) (aO (v23+1)) x16 dO k)
  (uy E n0 a0 a1 a2 a3 v22 (aO (v23+1)) x16 dO k):=by kernel_rfl
end
theorem o21 [aJ] (E:YF) (h55:Ok ax 55 (ae.un E.c55)) (h74:Ok ax 74 (ae.un E.c74)) (BC:Ok ax 73 (ae.un E.oZ)) (h75:Ok ax 75 (ae.un E.c75)) (h57:Ok ax 57 (ae.un E.c57)) (h76:Ok ax 76 (ae.un E.c76)) (h77:Ok ax 77 (ae.un E.c77)):Ok ax 21 (ae.un (F21 E)):=bg (aP (((((((ay.nil.addF h55).addF h74).addF BC).addF h75).addF h57).addF h76).addF h77) (au (by kernel_rfl)))
structure E18 where
  N:Nat
abbrev G18 (E:E18):bf:=dw Tabs.nil []
def A18:bW:=aU ax 18 [] {}
def F18 (E:E18):iY->ae (Bool):=ae.ty (aF ax E.N (G18 E) A18 18)
section
variable (E:E18){A:Type}(k:Bool->Option A)
theorem e18 (a0:iY):(F18 E (a0)).T k =
  cond (decide (a0.Z >= 0))
  (cond (decide (a0.Z<=100000))
 (cond (decide (a0.W >= 0))
 (cond (decide (a0.W<=100000))
 (cond (a0.Z != a0.W)
 (cond (decide (a0.X >= (-1000000)))
 (cond (decide (a0.X<=1000000))
 (cond (decide (a0.Y >= (-1000000)))
 (k (decide (a0.Y<=1000000)))
 (k false))
 (k false))
 (k false))
 (k false))
 (k false))
 (k false))
 (k false))
  (k false):=bJ.trans (by kernel_rfl)
end
theorem o18 [aJ] (E:E18):Ok ax 18 (ae.un (F18 E)):=bg (aP ay.nil (au (by kernel_rfl)))
structure E22 where
  N:Nat
  c48:(Sl Int)×Int->ae (Bool)
abbrev G22 (E:E22):bf:=dw (Tabs.nil.addF 48 (ae.un E.c48)) []
def A22:bW:=aU ax 22 [] {}
def F22 (E:E22):aj×(Sl Int)->ae (Bool):=ae.ty (aF ax E.N (G22 E) A22 22)
section
variable (E:E22){A:Type}(k:Bool->Option A)
def YJ (E:E22) (n:Nat) (a0:aj) (a1:(Sl Int)) (v5:Int){A:Type}(k:Bool->Option A):Option A :=
  gV ax (G22 E) E.N A22 22 [1,0,1,0] [.n n] (gY k)
    ⟨[(1,eP a1),(2,.cl (.ptr 2 0)),(5,.int v5)],[(2,eB 43 a0)],[]⟩
theorem e22 (a0:aj) (a1:(Sl Int)):(F22 E (a0,a1)).T k =
  YJ E E.N a0 a1 0 k:=bJ.trans (by kernel_rfl)
theorem znJ (n0:Nat) (a0:aj) (a1:(Sl Int)) (v5:Int):YJ E (n0+1) a0 a1 v5 k =
  cond (decide (v5 < (a1.len:Int)))
  (aZ (decide (0<=v5/\v5 < (a1.len:Int))) ((E.c48 (a0.Hits,a1.get v5.toNat)).T λ r1 =>
 cond (!r1)
 (k false)
 (YJ E n0 a0 a1 (aO (v5+1)) k)))
  (k true):=by kernel_rfl
end
theorem o22 [aJ] (E:E22) (h48:Ok ax 48 (ae.un E.c48)):Ok ax 22 (ae.un (F22 E)):=bg (aP (ay.nil.addF h48) (au (by kernel_rfl)))
def ztf (s:ak) (l:Sl bz) (v:Int) (ln:straight) (time:Int) (i:Nat):Prop :=
 O4 s l i=v/\((rO s (l.get i)).Low<=time/\time<=(rO s (l.get i)).High)/\∃ k,k < vP s l i/\jP ln ((tu s (l.get i)).get k)=true
structure Own (s : ak) (l : Sl bz) (v : Int) (ln : straight) (time : Int) (w : Sl Int) (i : Nat) : Prop where
  le:w.len<=i/\i<=l.len
  mem:∀ j,j < w.len->(0<=w.get j/\w.get j < (i:Int))/\ztf s l v ln time (w.get j).toNat
  pw:∀ j k,j < k->k < w.len->w.get j < w.get k/\(l.get (w.get j).toNat).ai ≠ (l.get (w.get k).toNat).ai
theorem Own.up {s:ak}{l:Sl bz}{v:Int}{ln:straight}{time:Int}{w:Sl Int}{i:Nat}(h:Own s l v ln time w i) (hi:i < l.len):Own s l v ln time w (i+1) :=
 ⟨by have:=h.le;omega,λ j hj=>⟨by have:=(h.mem j hj).1;omega,(h.mem j hj).2⟩,h.pw⟩
theorem Own.snoc {s:ak}{l:Sl bz}{v:Int}{ln:straight}{time:Int}{w:Sl Int}{i:Nat}(h:Own s l v ln time w i) (hi:i < l.len) (h1:ztf s l v ln time i) (h2:∀ j,j < w.len->(l.get (w.get j).toNat).ai ≠ (l.get i).ai):Own s l v ln time (nO w (i:Int)) (i+1):=by
 have lo:∀ j,j < w.len->(nO w (i:Int)).get j=w.get j:=λ j hj=>by
  show jf w.len w.get (λ _=>(i:Int)) j=_;rw[gJ,if_neg (by omega)]
 have hi':(nO w (i:Int)).get w.len=(i:Int):=by
  show jf w.len w.get (λ _=>(i:Int)) w.len=_;rw[gJ,if_pos (iM _)]
 refine⟨by have:=h.le;show w.len+1<=i+1/\_;omega,λ j hj=>?_,λ j k hjk hk=>?_⟩
 ·have hj : j < w.len + 1 := hj;by_cases e:j=w.len
  ·rw[e,hi',Int.toNat_natCast];exact⟨by omega,h1⟩
  ·rw[lo j (by omega)];have:=h.mem j (by omega);exact⟨by have:=this.1;omega,this.2⟩
 ·have hk : k < w.len + 1 := hk;by_cases e:k=w.len
  ·subst e;rw[hi',lo j (by omega),Int.toNat_natCast];exact⟨by have:=(h.mem j (by omega)).1;omega,h2 j (by omega)⟩
  ·rw[lo j (by omega),lo k (by omega)];exact h.pw j k hjk (by omega)
def Tru (s:ak) (l:Sl bz) (ln:straight) (time:Int) (c:jd):Prop:=∀ p∈c,jP ln ((tu s (l.get p.1.toNat)).get p.2.toNat)=true/\(rO s (l.get p.1.toNat)).Low<=time/\time<=(rO s (l.get p.1.toNat)).High
theorem YL {s:ak}{l:Sl bz}{ln:straight}{time:Int}{c:jd}(h:Tru s l ln time c):vV (wU s l c) ln:=λ i hi=>by
 have hi:i < c.length:=by rw[show (wU s l c).len=c.length from BJ _ _ _] at hi;exact hi
 show jP ln ((gw z0 _ c.length).get i)=true;rw[NG hi,yz hi];exact (h _ (List.getElem_mem hi)).1
theorem ztg {s:ak}{l:Sl bz}{x:Int}{ln:straight}{time:Int}{c:jd}{j:Nat}(he:Evt s l) (qB:l.len<=24) (hv:Val s l x c j) (hn:c ≠ []) (S:rV ln) (h:Tru s l ln time c):yu s l c=true:=by
 have G:=BU he qB hv hn;have hl:0 < c.length:=List.length_pos_iff.2 hn;unfold yu;rw[zlB G (by have:=S.2.2;omega) (YL h),Bool.and_true];unfold SX OD;rw[decide_eq_true_eq];obtain⟨a,b⟩:=Ag (g:=⟨c.length,λ i=>⟨0,(rO s (l.get ((c[i]?).getD (0,0)).1.toNat)).Low,(rO s (l.get ((c[i]?).getD (0,0)).1.toNat)).High⟩⟩) (d:=1) (x:=time) (by omega) hl (λ i hi=>by
  have hi:i < c.length:=hi;show (rO s (l.get ((c[i]?).getD (0,0)).1.toNat)).Low * 1<=time/\time<=(rO s (l.get ((c[i]?).getD (0,0)).1.toNat)).High * 1;rw[yz hi,Int.mul_one,Int.mul_one];exact (h _ (List.getElem_mem hi)).2) c.length (iM _)
 rw[Int.mul_one] at a b;omega
theorem zlE {s:ak}{l:Sl bz}{v:Int}{ln:straight}{time:Int}{w:Sl Int}(he:Evt s l) (qB:l.len<=24) (S:rV ln) (h:Own s l v ln time w l.len):∃ sd:Nat->Int,∀ n,n<=w.len->∃ j,Ch (yu s l) (vW l) (En s l v) ((List.range n).map λ i=>(w.get i,sd i)) j/\(n < w.len->(j:Int)<=w.get n)/\Tru s l ln time ((List.range n).map λ i=>(w.get i,sd i)):=by
 have ex:∀ i,∃ k:Nat,i < w.len->k < vP s l (w.get i).toNat/\jP ln ((tu s (l.get (w.get i).toNat)).get k)=true:=λ i=>by
  by_cases hi:i < w.len
  ·obtain⟨k,h1,h2⟩:=(h.mem i hi).2.2.2;exact⟨k,λ _=>⟨h1,h2⟩⟩
  ·exact⟨0,λ h=>absurd h hi⟩
 refine⟨λ i=>((ex i).choose:Int),λ n=>?_⟩
 induction n with
 | zero=>intro _;exact⟨0,.nil,λ h0=>by have:=(h.mem 0 h0).1;omega,λ p hp=>by cases hp⟩
 | succ n ih =>
  intro hn;obtain⟨j,h1,h2,h3⟩:=ih (by omega);have m:=h.mem n (by omega);have sp:=(ex n).choose_spec (by omega);rw[List.range_succ,List.map_append];show ∃ j,Ch _ _ _ ((List.range n).map _ ++ [(w.get n,((ex n).choose:Int))]) j/\_/\Tru s l ln time ((List.range n).map _ ++ [(w.get n,((ex n).choose:Int))]);have hv:=Ir h1;have hj:=hv.le;have hp:(w.get n,((ex n).choose:Int))∈En s l v j:=(Ov hj.2).2 ⟨⟨h2 (by omega),m.1.2⟩,m.2.1,by show 0<=((ex n).choose:Int);omega,by show ((ex n).choose:Int) < _;have:=sp.1;show ((ex n).choose:Int) < (vP s l (w.get n).toNat:Int);omega⟩;have hu:vW l ((List.range n).map λ i=>(w.get i,((ex i).choose:Int))) (w.get n)=false:=by
   unfold vW;rw[List.any_eq_false];intro q hq;obtain⟨i,hi,rfl⟩:=uF.1 hq;have:=(h.pw i n (List.mem_range.1 hi) (by omega)).2;simpa using this
  have tr:Tru s l ln time ((List.range n).map (λ i=>(w.get i,((ex i).choose:Int))) ++ [(w.get n,((ex n).choose:Int))]):=λ p hp=>by
   rcases dL.1 hp with hp | hp
   ·exact h3 p hp
   ·rw [jQ.1 hp];exact⟨by show jP ln ((tu s (l.get (w.get n).toNat)).get (((ex n).choose:Int)).toNat)=true;rw[Int.toNat_natCast];exact sp.2,m.2.2.1⟩
  have ag:=ztg he qB (hv.snoc hp hu) (by simp) S tr;exact⟨_,.snoc h1 hp hu ag,λ hn2=>by have:=(h.pw n (n+1) (by omega) hn2).1;show (((w.get n).toNat+1:Nat):Int)<=_;omega,tr⟩
def plX (ln:straight) (z:Int):bV:=⟨(red (fH ln z) ln.den).Num / (red (fH ln z) ln.den).bI,-(-(red (fH ln z) ln.den).Num / (red (fH ln z) ln.den).bI)⟩
def owP (l:Sl bz) (w:Sl Int) (k:Nat):Bool:=(ls w).any λ h=>(l.get h.toNat).ai == (k:Int)
def msR (s:ak) (l:Sl bz) (v:Int) (ln:straight) (w:Sl Int) (k:Nat):Bool :=
 cond ((s.af.get k).View != v || owP l w k) false (cond (decide ((plX ln (s.af.get k).Z).Low < -1000000)) false (cond (decide ((plX ln (s.af.get k).Z).High > 1000000)) false (Lt (s.af.get k) (plX ln (s.af.get k).Z))))
theorem Lu {α : Type} {p q : α → Bool} : ∀ {l : List α}, (∀ x ∈ l, p x = true → q x = true) → (l.filter p).length ≤ (l.filter q).length
  | [],_=>iM _
  | x :: l,h=>by
    have ih:=Lu (p:=p) (q:=q) (l:=l) λ y hy=>h y (jc _ hy);rw[List.filter_cons,List.filter_cons];by_cases hp:p x=true
    · rw[if_pos hp,if_pos (h x jS hp),Ey,Ey];omega
    · rw [if_neg hp];by_cases hq:q x=true
      · rw[if_pos hq,Ey];omega
      · rw[if_neg hq];exact ih
theorem zlF {n d:Int}(hd:0 < d):n / d<=-(-n / d):=by
 have h1:=Int.ediv_mul_le n (show d ≠ 0 by omega);have h2:=Int.ediv_mul_le (-n) (show d ≠ 0 by omega);refine Int.le_of_mul_le_mul_right (?_:_ * d<=_ * d) hd;rw[Int.neg_mul];omega
theorem zlG {s : ak} {l : Sl bz} {v : Int} {ln : straight} {time : Int} {w : Sl Int} {sd : Nat → Int} {j : Nat} (he : Evt s l) (qB : l.len ≤ 24) (S : rV ln) (h0 : 0 < w.len) (hv : Val s l v ((List.range w.len).map fun i => (w.get i, sd i)) j) (ht : Tru s l ln time ((List.range w.len).map fun i => (w.get i, sd i))) {k : Nat} (hk : k < s.af.len)
    (h:Tf s l v ((List.range w.len).map λ i=>(w.get i,sd i)) k=true):msR s l v ln w k=true:=by
  have hn:((List.range w.len).map λ i=>(w.get i,sd i)) ≠ []:=λ e=>by have:=congrArg List.length e;simp at this;omega
  have G:=BU he qB hv hn;have al:=YL ht;have hpl:=ni he.se hk;unfold Tf at h;cases hvw:(s.af.get k).View != v with
  | true=>rw[hvw] at h;cases h
  | false =>
    rw[hvw,cond_false] at h;cases hu:usP l ((List.range w.len).map λ i=>(w.get i,sd i)) k with
    | true=>rw[hu] at h;cases h
    | false =>
      rw[hu,cond_false] at h;have ow:owP l w k=false:=by
        unfold usP at hu;unfold owP ls;rw[List.any_map] at hu ⊢;exact hu
      unfold atB atB.opn' at h;cases ho:(BR (wU s l ((List.range w.len).map λ i=>(w.get i,sd i))) (((wU s l ((List.range w.len).map λ i=>(w.get i,sd i))).get 0).Z == (s.af.get k).Z)).2 != 0 with
      | true=>rw[ho] at h;cases h
      | false =>
        rw[ho,cond_false] at h;obtain⟨b1,b2,b3,b4⟩:=ztd G S al (z:=(s.af.get k).Z) (by simpa using ho);generalize yB (wU s l ((List.range w.len).map λ i=>(w.get i,sd i))) (s.af.get k).Z=B at h b1 b2 b3 b4;by_cases c1:B.1.Num / B.1.bI < -1000000
        · rw[decide_eq_true c1] at h;cases h
        by_cases c2 : -(-B.2.Num / B.2.bI) > 1000000
        · rw[decide_eq_false c1,decide_eq_true c2] at h;cases h
        rw[decide_eq_false c1,decide_eq_false c2,cond_false,cond_false,fA] at h;have pd:0 < ln.den:=by have:=S.2.2;omega
        have pr:=gW (num:=fH ln (s.af.get k).Z) pd;have rl:=Ah (a:=fH ln (s.af.get k).Z) pd;have d1:B.1.Num / B.1.bI<=(plX ln (s.af.get k).Z).Low:=Tt b3 pr (qG b3 (b:=xx (s.af.get k).Z ln) pd pr b1 rl.2);have d2:(plX ln (s.af.get k).Z).High<=-(-B.2.Num / B.2.bI):=zgx pr b4 (qG pr (b:=xx (s.af.get k).Z ln) pd b4 rl.1 b2);have d3:(plX ln (s.af.get k).Z).Low<=(plX ln (s.af.get k).Z).High:=zlF pr;unfold msR;rw[hvw,ow,decide_eq_false (by omega),decide_eq_false (by omega)];exact zgz hpl h.2 ⟨by show -1000000<=B.1.Num / B.1.bI;omega,by show -(-B.2.Num / B.2.bI)<=1000000;omega⟩ d1 d3 d2
def msN (s:ak) (l:Sl bz) (v:Int) (ln:straight) (w:Sl Int):Nat:=((List.range' 0 s.af.len).filter (msR s l v ln w)).length
theorem zbh {s : ak} {r : bF} {l : Sl bz} {v : Int} {ln : straight} {time : Int} {w : Sl Int} {f : found} (hf : Wn s r l f) (he : Evt s l) (qB : l.len ≤ 24) (hr : lD r = true) (hv : v = 1 ∨ v = 2) (S : rV ln) (h : Own s l v ln time w l.len) (h1 : r.oW ≤ (w.len : Int)) (h2 : (msN s l v ln w : Int) ≤ r.rU) :
  ∃ m∈ls f.fZ,m.View=v/\∀ i,i < w.len->∃ j,j < m.Hits.len/\m.Hits.get j=w.get i:=by
 simp only[lD,inB,fA,decide_eq_true_eq] at hr;obtain⟨sd,hc⟩:=zlE he qB S h;obtain⟨j,c1,_,c3⟩:=hc w.len (iM _);have hval:=Ir c1;have hn:((List.range w.len).map λ i=>(w.get i,sd i)) ≠ []:=λ e=>by have:=congrArg List.length e;simp at this;omega
 have hle:=hval.le;have cin:((List.range w.len).map λ i=>(w.get i,sd i))∈nD s l v:=(zzG (f:=30) c1 (by omega)).1.resolve_left hn;have fit:rP s l v r ((List.range w.len).map λ i=>(w.get i,sd i))=true:=by
  simp only[rP,fA,decide_eq_true_eq,List.length_map,List.length_range,zsL];refine⟨by omega,?_⟩;have:=Lu (p:=Tf s l v ((List.range w.len).map λ i=>(w.get i,sd i))) (q:=msR s l v ln w) (l:=List.range' 0 s.af.len) λ k hk hm=>zlG he qB S (by omega) hval c3 (by simp at hk;omega) hm;unfold msN at h2;omega
 obtain⟨t,ht,t1,t2⟩:=hf.has hv (List.mem_filter.2 ⟨cin,fit⟩);obtain⟨m,hm,hcon⟩:=hf.max he qB ht;rw[IB,t2] at hcon;refine⟨m,hm,hcon.2.symm.trans t1,λ i hi=>?_⟩;obtain⟨j,hj,e,_⟩:=lS.1 (hcon.1 (w.get i,sd i) (uF.2 ⟨i,List.mem_range.2 hi,rfl⟩));exact⟨j,hj,e⟩
def Rt (t:iY):Prop:=(0<=t.Z/\t.Z<=100000)/\(0<=t.W/\t.W<=100000)/\t.Z ≠ t.W/\(-1000000<=t.X/\t.X<=1000000)/\-1000000<=t.Y/\t.Y<=1000000
instance (t:iY):Decidable (Rt t):=by unfold Rt;infer_instance
abbrev Q18 (C:iY->ae Bool):Prop:=∀ t,C t=.ok (decide (Rt t))
theorem s18 {E:E18} : Q18 (F18 E):=λ t=>ae.ext λ k=>by
 rw[e18,bi];simp only[kc k];congr 1;unfold Rt
 grind (splits:=60)
def kJ (t:iY):straight:=zU t.Z t.X t.W t.Y
theorem zgB {t:iY}(h:Rt t):rV (kJ t):=zfP h.1 h.2.1 h.2.2.2.1 h.2.2.2.2 h.2.2.1
theorem Aj {n d:Int}(hd:0 < d):(n.tdiv d * d > n/\n.tdiv d - 1=n / d)\/(¬ n.tdiv d * d > n/\n.tdiv d=n / d):=by
 have e:=Int.tmod_add_mul_tdiv n d;have e2:d * n.tdiv d=n.tdiv d * d:=Int.mul_comm _ _;rcases Int.lt_or_le n 0 with hn | hn
 ·have t1:n.tmod d<=0:=by
   have:=Int.tmod_nonneg d (show 0<=-n by omega);rw[Int.neg_tmod] at this;omega
  have t2 : -d < n.tmod d:=by
   have:=Int.tmod_lt_of_pos (-n) hd;rw[Int.neg_tmod] at this;omega
  by_cases h0:n.tmod d=0
  ·refine .inr ⟨by omega, ?_⟩;exact ((Int.ediv_emod_unique (r:=0) hd).2 ⟨by omega,by omega,by omega⟩).1.symm
  ·refine .inl ⟨by omega, ?_⟩;refine ((Int.ediv_emod_unique (r:=d+n.tmod d) hd).2 ⟨?_,by omega,by omega⟩).1.symm;rw[Int.mul_sub,Int.mul_one];omega
 ·have t1 := Int.tmod_nonneg d hn;refine .inr ⟨by omega,Int.tdiv_eq_ediv_of_nonneg hn⟩
theorem zlH {n d:Int}(hd:0 < d):(n / d * d=n/\n / d = -(-n / d))\/(n / d * d ≠ n/\n / d+1 = -(-n / d)):=by
 have a:=Int.emod_add_mul_ediv n d;have b:=Int.emod_nonneg n (show d ≠ 0 by omega);have c:=Int.emod_lt_of_pos n hd;have e2:d * (n / d)=n / d * d:=Int.mul_comm _ _;by_cases h0:n % d=0
 ·refine .inl ⟨by omega, ?_⟩;have:=((Int.ediv_emod_unique (a:=-n) (q:=-(n / d)) (r:=0) hd).2 ⟨by rw[Int.mul_neg];omega,by omega,by omega⟩).1;omega
 ·refine .inr ⟨by omega, ?_⟩;have:=((Int.ediv_emod_unique (a:=-n) (q:=-(n / d) - 1) (r:=d - n % d) hd).2 ⟨by rw[Int.mul_sub,Int.mul_neg,Int.mul_one];omega,by omega,by omega⟩).1;omega
theorem LC {α:Type}{w:Sl α}{p:α->Bool} : (List.range' 0 w.len).any (λ j=>p (w.get j))=(ls w).any p:=by
 unfold ls;rw[List.any_map,List.range_eq_range'];rfl
abbrev Q21 (C:ak×bF×Sl bz×Int×iY×Int×Int->ae (Sl Int×Bool)):Prop:=∀ s r l v t time set,Evt s l->l.len<=24->Rt t->∃ w is,C (s,r,l,v,t,time,set)=.ok (w,is)/\w.len<=24/\(is=true->Own s l v (kJ t) time w l.len/\r.oW<=(w.len:Int)/\(msN s l v (kJ t) w:Int)<=r.rU)
theorem s21 {E:YF}(N:Big E.N) (h55:Q55 E.c55) (h74:Q74 E.c74) (BC:yA E.oZ) (h75:Q75 E.c75) (h57:Q57 E.c57) (h76:Q76 E.c76) (h77:Q77 E.c77):Q21 (F21 E):=λ s r l v t time set he qB ht=>by
 have S:=zgB ht;have hN:=N;have hp:=nN he.se;have XZ:∀ (n i:Nat) (w:Sl Int),i < l.len->w.len<=i->InH l w->∀ (m j n1:Nat) (f:Bool),j+m=w.len->m < n1->∀ (A:Type) (k:Sl Int×Bool->Option A),Tu E n n1 s r l v time set (i:Int) f (j:Int) (dQ (kJ t)) w k=cond (f && (List.range' j m).all λ j=>(l.get (w.get j).toNat).ai != (l.get i).ai) (rQ E n s r l v time set ((i+1:Nat):Int) (dQ (kJ t)) (nO w (i:Int)) k) (rQ E n s r l v time set ((i+1:Nat):Int) (dQ (kJ t)) w k):=by
  intro n i w hi hwl hw m
  induction m with
  | zero =>
   intro j n1 f hj hn A k;obtain⟨n1,rfl⟩:∃ n',n1=n'+1:=⟨n1 - 1,by omega⟩;rw[znG,decide_eq_false (by omega),cond_false,jl (by omega) (by omega),bQ (by omega)];cases f <;> rfl
  | succ m ih =>
   intro j n1 f hj hn A k;obtain⟨n1,rfl⟩:∃ n',n1=n'+1:=⟨n1 - 1,by omega⟩;have hwj:=hw j (by omega);rw[znG,decide_eq_true (by omega),cond_true,bQ (by omega),List.range'_succ,List.all_cons];cases f with
   | false=>rw[cond_false,ih (j+1) n1 false (by omega) (by omega)];rfl
   | true =>
    rw[cond_true,bC (by omega),bC (by omega),Int.toNat_natCast,bC hwj,bC (by omega),Int.toNat_natCast,ih (j+1) n1 _ (by omega) (by omega),Bool.true_and]
 have key:∀ (m i n:Nat) (w:Sl Int),i+m=l.len->m < n->Own s l v (kJ t) time w i->∃ w',(∀ (A:Type) (k:Sl Int×Bool->Option A),rQ E n s r l v time set (i:Int) (dQ (kJ t)) w k=uy E E.N s r l v 0 0 (dQ (kJ t)) w' k)/\Own s l v (kJ t) time w' l.len:=by
  intro m
  induction m with
  | zero =>
   intro i n w hi hn hw;obtain⟨n,rfl⟩:∃ n',n=n'+1:=⟨n - 1,by omega⟩;have e:i=l.len:=by omega
   subst e;exact⟨w,λ A k=>by rw[TA,decide_eq_false (by omega)];rfl,hw⟩
  | succ m ih =>
   intro i n w hi hn hw;obtain⟨n,rfl⟩:∃ n',n=n'+1:=⟨n - 1,by omega⟩;have hwl:=hw.le;have hin:InH l w:=λ j hj=>by have:=(hw.mem j hj).1;omega
   have hh:jR s (l.get i)=true:=dA.1 he.hi i (by omega);have hpl:=he.pl (i:=i) (by omega);have pl:=Ad (kJ t) (tu s (l.get i)) (tu s (l.get i)).len;have gl:(tu s (l.get i)).len<=2:=zA s l i;obtain⟨wa,a1,a2⟩:=ih (i+1) n w (by omega) (by omega) (hw.up (by omega));have st:∃ B:Bool,(∀ (A:Type) (k:Sl Int×Bool->Option A),rQ E (n+1) s r l v time set (i:Int) (dQ (kJ t)) w k=cond B (rQ E n s r l v time set ((i+1:Nat):Int) (dQ (kJ t)) (nO w (i:Int)) k) (rQ E n s r l v time set ((i+1:Nat):Int) (dQ (kJ t)) w k))/\(B=true->ztf s l v (kJ t) time i/\∀ j,j < w.len->(l.get (w.get j).toNat).ai ≠ (l.get i).ai):=by
    cases c1:(zhw .i64 (yE .i64 set (i:Int)) 1) == 0 with
    | true=>exact⟨false,λ A k=>by rw[TA,decide_eq_true (by omega),cond_true,bC (by omega),Int.toNat_natCast,bC hpl,bC (by omega),c1,bQ (by omega)];rfl,λ h=>by cases h⟩
    | false =>
     cases c2:(s.af.get (l.get i).ai.toNat).View != v with
     | true=>exact⟨false,λ A k=>by rw[TA,decide_eq_true (by omega),cond_true,bC (by omega),Int.toNat_natCast,bC hpl,bC (by omega),c1,c2,bQ (by omega)];rfl,λ h=>by cases h⟩
     | false =>
      cases c3:inB time (rO s (l.get i)).Low (rO s (l.get i)).High with
      | false=>exact⟨false,λ A k=>by rw[TA,decide_eq_true (by omega),cond_true,bC (by omega),Int.toNat_natCast,bC hpl,bC (by omega),c1,c2,bQ (by omega),cond_false,cond_false,bC (by omega),h74 _ _ hh,bi,bC (by omega),bi,BC,bi,c3];rfl,λ h=>by cases h⟩
      | true =>
       refine⟨decide (((rJ (kJ t) (tu s (l.get i)) (tu s (l.get i)).len).len:Int) > 0) && (List.range' 0 w.len).all λ j=>(l.get (w.get j).toNat).ai != (l.get i).ai,λ A k=>?_,λ h=>?_⟩
       ·rw [TA, decide_eq_true (by omega), cond_true, bC (by omega), Int.toNat_natCast, bC hpl, bC (by omega), c1, c2, cond_false, cond_false, bC (by omega), h74 _ _ hh, bi, bC (by omega), bi, BC, bi, c3, Bool.not_true, cond_false, bC (by omega), h75 s _ he.sh hpl, bi, h57 _ _ S (by omega) (fun q hq => zf4 he.se hh hq), bi];exact XZ n i w (by omega) (by omega) hin w.len 0 E.N _ (by omega) (by omega) A k
       ·rw [fA, decide_eq_true_eq, List.all_eq_true] at h;refine⟨⟨?_,of_decide_eq_true c3,pl.2.2.1 (by omega)⟩,λ j hj=>?_⟩
        ·show (s.af.get (l.get i).ai.toNat).View = v;simpa using c2
        ·have := h.2 j (by simp; omega);simpa using this
   obtain⟨B,b1,b2⟩:=st;cases B with
   | false=>exact⟨wa,λ A k=>by rw[b1];exact a1 A k,a2⟩
   | true =>
    obtain⟨h1,h2⟩:=b2 rfl;obtain⟨wb,c1,c2⟩:=ih (i+1) n (nO w (i:Int)) (by omega) (by omega) (hw.snoc (by omega) h1 h2);exact⟨wb,λ A k=>by rw[b1];exact c1 A k,c2⟩
 obtain⟨w,k1,k2⟩:=key l.len 0 E.N ⟨0,λ _=>0⟩ (by omega) (by omega) ⟨⟨iM _,Nat.zero_le _⟩,λ j hj=>absurd hj (O0 j),λ j k _ hk=>absurd hk (O0 k)⟩;have wl:=k2.le;have hin:InH l w:=λ j hj=>(k2.mem j hj).1;have seen:∀ (n cn q:Nat),q < s.af.len->∀ (m j n1:Nat) (f:Bool),j+m=w.len->m < n1->∀ (A:Type) (k:Sl Int×Bool->Option A),Tv E n n1 s r l v (cn:Int) (q:Int) f (j:Int) (dQ (kJ t)) w k=Tz E n s r l v (cn:Int) (q:Int) (f || (List.range' j m).any λ j=>(l.get (w.get j).toNat).ai == (q:Int)) (dQ (kJ t)) w (plX (kJ t) (s.af.get q).Z) k:=by
  intro n cn q hq m
  induction m with
  | zero =>
   intro j n1 f hj hn A k;obtain⟨n1,rfl⟩:∃ n',n1=n'+1:=⟨n1 - 1,by omega⟩;have hz:=zgp (ni he.se hq);have pd:0 < (kJ t).den:=by have:=S.2.2;omega
   have pr:=gW (num:=fH (kJ t) (s.af.get q).Z) pd;have fk:=OB S hz;have r1:=wI (num:=fH (kJ t) (s.af.get q).Z) pd;have r2:=BP (num:=fH (kJ t) (s.af.get q).Z) pd;have nb : -600000000000<=(red (fH (kJ t) (s.af.get q).Z) (kJ t).den).Num/\(red (fH (kJ t) (s.af.get q).Z) (kJ t).den).Num<=600000000000:=by
    have : -600000000000<=fH (kJ t) (s.af.get q).Z/\fH (kJ t) (s.af.get q).Z<=600000000000:=fk.1;omega
   have db:(red (fH (kJ t) (s.af.get q).Z) (kJ t).den).bI<=100000:=by have:(kJ t).den<=100000:=fk.2.2;omega
   have pX:plX (kJ t) (s.af.get q).Z=⟨(red (fH (kJ t) (s.af.get q).Z) (kJ t).den).Num / (red (fH (kJ t) (s.af.get q).Z) (kJ t).den).bI,-(-(red (fH (kJ t) (s.af.get q).Z) (kJ t).den).Num / (red (fH (kJ t) (s.af.get q).Z) (kJ t).den).bI)⟩:=rfl;rw[pX,znI,decide_eq_false (by omega),cond_false,bC (by omega),Int.toNat_natCast,h76 _ _ S hz,bi];generalize red (fH (kJ t) (s.af.get q).Z) (kJ t).den=F at pr nb db ⊢;have qb:=zgm (a:=F.Num) (b:=F.bI) (by omega) pr;have td : -600000000000<=F.Num.tdiv F.bI/\F.Num.tdiv F.bI<=600000000001:=by
    have : -600000000000<=F.Num / F.bI/\F.Num / F.bI<=600000000000:=by
     refine⟨Int.le_ediv_of_mul_le pr ?_,?_⟩
     ·have := Int.mul_le_mul_of_nonneg_left (show (1 : Int) ≤ F.bI by omega) (show (0 : Int) ≤ 600000000000 by omega);omega
     ·rcases Int.lt_or_le F.Num 0 with h | h
      ·have:=Int.ediv_neg_of_neg_of_pos h pr;omega
      ·have:=Int.ediv_le_self F.bI h;omega
    rcases Aj (n:=F.Num) pr with ⟨_,h⟩ | ⟨_,h⟩ <;> omega
   have mb:=l9 (x:=F.Num.tdiv F.bI) (X:=600000000001) (by omega) (by omega) (Int.le_of_lt pr) db;have last:∀ (A:Type) (k:Sl Int×Bool->Option A),YG E n s r l v (cn:Int) (q:Int) f (F.Num / F.bI) (dQ (kJ t)) w F ⟨F.Num / F.bI,F.Num / F.bI⟩ k=Tz E n s r l v (cn:Int) (q:Int) f (dQ (kJ t)) w ⟨F.Num / F.bI,-(-F.Num / F.bI)⟩ k:=λ A k=>by
    have mb2:=l9 (x:=F.Num / F.bI) (X:=600000000002) (by rcases Aj (n:=F.Num) pr with ⟨_,h⟩ | ⟨_,h⟩ <;> omega) (by rcases Aj (n:=F.Num) pr with ⟨_,h⟩ | ⟨_,h⟩ <;> omega) (Int.le_of_lt pr) db;rw[zzQ,aY (x:=F.Num / F.bI * F.bI) (by omega) (by omega)];rcases zlH (n:=F.Num) pr with ⟨h1,h2⟩ | ⟨h1,h2⟩
    ·rw[show (F.Num / F.bI * F.bI != F.Num)=false by simpa using h1,cond_false,<- h2]
    ·rw[show (F.Num / F.bI * F.bI != F.Num)=true by simpa using h1,cond_true,aY (x:=F.Num / F.bI+1) (by omega) (by omega),h2]
   rw[bC (by omega),aY (x:=F.Num.tdiv F.bI) (by omega) (by omega),aY (x:=F.Num.tdiv F.bI * F.bI) (by omega) (by omega),aY (x:=F.Num.tdiv F.bI - 1) (by omega) (by omega)];rcases Aj (n:=F.Num) pr with ⟨h1,h2⟩ | ⟨h1,h2⟩
   ·rw[decide_eq_true h1,cond_true,h2,last];simp
   ·rw[decide_eq_false h1,cond_false,h2,last];simp
  | succ m ih =>
   intro j n1 f hj hn A k;obtain⟨n1,rfl⟩:∃ n',n1=n'+1:=⟨n1 - 1,by omega⟩;have hwj:=hin j (by omega);rw[znI,decide_eq_true (by omega),cond_true,bQ (by omega),List.range'_succ,List.any_cons];cases f with
   | true=>rw[cond_true,ih (j+1) n1 true (by omega) (by omega)];rfl
   | false=>rw[cond_false,bC (by omega),bC (by omega),Int.toNat_natCast,bC hwj,ih (j+1) n1 _ (by omega) (by omega),Bool.false_or]
 have cnt:∀ (m q n cn:Nat),q+m=s.af.len->m < n->cn<=q->∀ (A:Type) (k:Sl Int×Bool->Option A),uy E n s r l v (cn:Int) (q:Int) (dQ (kJ t)) w k=k (w,decide ((w.len:Int) >= r.oW) && decide (((cn+((List.range' q m).filter (msR s l v (kJ t) w)).length:Nat):Int)<=r.rU)):=by
  intro m
  induction m with
  | zero =>
   intro q n cn hq hn hc A k;obtain⟨n,rfl⟩:∃ n',n=n'+1:=⟨n - 1,by omega⟩;rw[znH,decide_eq_false (by omega),cond_false];cases decide ((w.len:Int) >= r.oW) <;> rfl
  | succ m ih =>
   intro q n cn hq hn hc A k;obtain⟨n,rfl⟩:∃ n',n=n'+1:=⟨n - 1,by omega⟩;have hq':q < s.af.len:=by omega
   obtain⟨b,hb⟩:=h77 (s.af.get q) (plX (kJ t) (s.af.get q).Z) (ni he.se hq') (he.sh.2 q hq');have step:uy E (n+1) s r l v (cn:Int) (q:Int) (dQ (kJ t)) w k=cond (msR s l v (kJ t) w q) (uy E n s r l v ((cn+1:Nat):Int) ((q+1:Nat):Int) (dQ (kJ t)) w k) (uy E n s r l v (cn:Int) ((q+1:Nat):Int) (dQ (kJ t)) w k):=by
    rw[znH,decide_eq_true (by omega),cond_true,bC (by omega),Int.toNat_natCast];refine (seen n cn q hq' w.len 0 E.N _ (by omega) (by omega) A k).trans ?_;rw[zzR,bQ (by omega),LC (w:=w) (p:=λ h:Int=>(l.get h.toNat).ai == (q:Int))];unfold msR owP;cases (s.af.get q).View != v || (ls w).any λ h=>(l.get h.toNat).ai == (q:Int) with
    | true=>rfl
    | false =>
     simp only[cond_false];cases decide ((plX (kJ t) (s.af.get q).Z).Low < -1000000) with
     | true=>rfl
     | false =>
      cases decide ((plX (kJ t) (s.af.get q).Z).High > 1000000) with
      | true=>rfl
      | false =>
       simp only[cond_false];rw[zzS,bC (by omega),Int.toNat_natCast,hb,bi,zzT,bQ (by omega),bQ (by omega)]
   rw[step,List.range'_succ,List.filter_cons];cases hm:msR s l v (kJ t) w q with
   | true =>
    rw[cond_true,ih (q+1) n (cn+1) (by omega) (by omega) (by omega),if_pos rfl,Ey,show cn+1+((List.range' (q+1) m).filter (msR s l v (kJ t) w)).length=cn+(((List.range' (q+1) m).filter (msR s l v (kJ t) w)).length+1) by omega]
   | false=>rw[cond_false,ih (q+1) n cn (by omega) (by omega) (by omega),if_neg (by simp)]
 have fin:=cnt s.af.len 0 E.N 0 (by omega) (by omega) (iM _);refine⟨w,decide ((w.len:Int) >= r.oW) && decide (((0+((List.range' 0 s.af.len).filter (msR s l v (kJ t) w)).length:Nat):Int)<=r.rU),ae.ext λ k=>?_,by omega,λ h=>?_⟩
 ·rw [e21, h55 _ _ _ _ ht.1 ht.2.1 ht.2.2.2.1 ht.2.2.2.2 ht.2.2.1, bi, bi];exact (k1 _ k).trans (fin _ k)
 ·rw [fA, decide_eq_true_eq, decide_eq_true_eq] at h;refine⟨k2,h.1,?_⟩;unfold msN;omega
structure E3 where
  N:Nat
  c17:ak×bF×(Sl bz)×Int->ae ((Sl aj)×Bool)
  c19:Unit->ae (Bool)
  c18:iY->ae (Bool)
  c20:ak×bF×(Sl bz)->ae ((Sl aj)×Int)
  c21:ak×bF×(Sl bz)×Int×iY×Int×Int->ae ((Sl Int)×Bool)
  c22:aj×(Sl Int)->ae (Bool)
abbrev G3 (E:E3):bf:=dw ((((((Tabs.nil.addF 17 (ae.un E.c17)).addF 19 (ae.un E.c19)).addF 18 (ae.un E.c18)).addF 20 (ae.un E.c20)).addF 21 (ae.un E.c21)).addF 22 (ae.un E.c22)) []
def A3:bW:=aU ax 3 [] {}
def F3 (E:E3):ak×bF×(Sl bz)×iY×Int×Int->ae (Bool):=ae.ty (aF ax E.N (G3 E) A3 3)
section
variable (E:E3){A:Type}(k:Bool->Option A)
def TC (E:E3) (n:Nat) (a0:ak) (a1:bF) (a2:(Sl bz)) (a3:iY) (a4:Int) (a5:Int) (v15:(Sl aj)) (v17:Int){A:Type}(k:Bool->Option A):Option A :=
  gV ax (G3 E) E.N A3 3 [1,1,1,1,0,1,0] [.n n] (gY k)
    ⟨[(2,eP a2),(4,.int a4),(5,.int a5),(6,.cl (.ptr 6 0)),(7,.cl (.ptr 7 0)),(9,.cl (.ptr 9 0)),(15,eP v15),(17,.int v17)],[(6,eB 24 a0),(7,eB 26 a1),(9,eB 29 a3)],[]⟩
def Wp (E:E3) (n0:Nat) (n:Nat) (a0:ak) (a1:bF) (a2:(Sl bz)) (a3:iY) (a4:Int) (a5:Int) (v15:(Sl aj)) (v17:Int) (v18:(Sl Int)) (v20:Bool) (v21:Int){A:Type}(k:Bool->Option A):Option A :=
  gV ax (G3 E) E.N A3 3 [1,1,1,1,0,1,0,0,1,0,0,1,1,1,0,1,0] [.n n0,.n n] (gY k)
    ⟨[(2,eP a2),(4,.int a4),(5,.int a5),(6,.cl (.ptr 6 0)),(7,.cl (.ptr 7 0)),(9,.cl (.ptr 9 0)),(15,eP v15),(17,.int v17),(18,eP v18),(20,.bool v20),(21,.int v21)],[(6,eB 24 a0),(7,eB 26 a1),(9,eB 29 a3)],[]⟩
theorem e3 (a0:ak) (a1:bF) (a2:(Sl bz)) (a3:iY) (a4:Int) (a5:Int):(F3 E (a0,a1,a2,a3,a4,a5)).T k =
  (E.c17 (a0,a1,a2,8)).T λ r1 =>
  cond (!r1.2)
  ((E.c19 ()).T λ r2 =>
 k r2)
  ((E.c18 a3).T λ r3 =>
 cond (!r3)
 ((E.c19 ()).T λ r4 =>
 k r4)
 ((E.c20 (a0,a1,a2)).T λ r5 =>
 cond (r5.2 != 0)
 (k false)
 (TC E E.N a0 a1 a2 a3 a4 a5 r5.1 1 k))):=bJ.trans (by kernel_rfl)
theorem zzU (n0:Nat) (a0:ak) (a1:bF) (a2:(Sl bz)) (a3:iY) (a4:Int) (a5:Int) (v15:(Sl aj)) (v17:Int):TC E (n0+1) a0 a1 a2 a3 a4 a5 v15 v17 k =
  cond (decide (v17<=2))
  ((E.c21 (a0,a1,a2,v17,a3,a4,a5)).T λ r1 =>
 cond (!r1.2)
 (TC E n0 a0 a1 a2 a3 a4 a5 v15 (aO (v17+1)) k)
 (Wp E n0 E.N a0 a1 a2 a3 a4 a5 v15 v17 r1.1 false 0 k))
  ((E.c19 ()).T λ r2 =>
 k r2):=by kernel_rfl
theorem zzV (n0:Nat) (n1:Nat) (a0:ak) (a1:bF) (a2:(Sl bz)) (a3:iY) (a4:Int) (a5:Int) (v15:(Sl aj)) (v17:Int) (v18:(Sl Int)) (v20:Bool) (v21:Int):Wp E n0 (n1+1) a0 a1 a2 a3 a4 a5 v15 v17 v18 v20 v21 k =
  cond (decide (v21 < (v15.len:Int)))
  (cond v20
 (Wp E n0 n1 a0 a1 a2 a3 a4 a5 v15 v17 v18 true (aO (v21+1)) k)
 (aZ (decide (0<=v21/\v21 < (v15.len:Int))) (cond ((v15.get v21.toNat).View == v17)
 (aZ (decide (0<=v21/\v21 < (v15.len:Int))) ((E.c22 ((v15.get v21.toNat),v18)).T λ r1 =>
 Wp E n0 n1 a0 a1 a2 a3 a4 a5 v15 v17 v18 r1 (aO (v21+1)) k))
 (Wp E n0 n1 a0 a1 a2 a3 a4 a5 v15 v17 v18 false (aO (v21+1)) k))))
  (cond (!v20)
 (k false)
 (TC E n0 a0 a1 a2 a3 a4 a5 v15 (aO (v17+1)) k)):=by kernel_rfl
end
theorem o3 [aJ] (E:E3) (h17:Ok ax 17 (ae.un E.c17)) (h19:Ok ax 19 (ae.un E.c19)) (h18:Ok ax 18 (ae.un E.c18)) (h20:Ok ax 20 (ae.un E.c20)) (h21:Ok ax 21 (ae.un E.c21)) (h22:Ok ax 22 (ae.un E.c22)):Ok ax 3 (ae.un (F3 E)):=bg (aP ((((((ay.nil.addF h17).addF h19).addF h18).addF h20).addF h21).addF h22) (au (by kernel_rfl)))
end Go.Proofs
