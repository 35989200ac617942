/- Part 2: framework, functions, plain laws. -/
import Derived.Test.YtjkijdhdbhooiaaGreatQ1
import Derived.ChangeKeysEq
import Derived.MapKept
import Derived.Laws.Slices
import Derived.Laws.OwnMore
import Derived.Scope
import Derived.OrdersIn
set_option linter.all false
noncomputable section
namespace Go.Pm
variable [aJ]
open Go.RowKit (Below)
section
variable{P:Program}{Γ:bU}{nt B:Nat}{w0:World}{h0:Fz}{g:Gh}{σ:St}{a:Act}{w:World}{r:Option Nat}{n i:Nat}{Q:Exit->Act->World->Prop}
theorem zhh(σ:St)(i:Nat)(dst:Option Nat)(fp:List (Nat×Bool))(d:DV)(u:List (Nat×AO))(L:Nat) :
  σ.upd i dst fp d u [L]=⟨Zm dst d (kills (gI [L]) σ.env),u++kills (fD [L]) σ.aB,σ.log⟩:=by
 cases dst<;>rfl
theorem Hf{t e:TypeId}{ty:TypeId}{ie:TypeInfo}{base m m' s:Nat}{v x:Value}{xs news:List Value}(hu:P.underlying t=some (.slice e))(hi:P.info? e=some ie)
    {z:Value} (hz:ie.zero=some z) (Ak:z.cells.size=ie.size) (hs:ie.size=s) (iF:0<s) (QL:base<=w.heap.size) (jd:w.ownsRow base e s v m xs) (oJ:zEK w x m' s news)
    (hlen:m+m'<=9223372036854775807) (zD:(m+m')*ie.bytes<=140737488355328) :
    ∃v' w',(Builtin.append_ #[t,t] ty #[v,x]).run P w=.ok v' w'/\w'.ownsRow base e s v' (m+m') (xs++news)/\GrB w w' v.ownBlock/\(v'.ownBlock=v.ownBlock\/v'.ownBlock=some w.heap.size) /\
      v'.oneCell'=true:=by
  have jK:∃ad c,v=.slice ad m c:=by
    rcases jd.2 with⟨h1,h2⟩|⟨k,cap,cur,h1,_⟩
    · subst h2;exact⟨_,_,h1⟩
    · exact⟨_,_,h1⟩
  obtain⟨ad,c,jK⟩:=jK;rcases oJ with⟨rfl,hx|⟨a',c',hx⟩,rfl⟩|⟨b,o,cap,hx,hl,sD,h1⟩
  · subst hx;have dA:=run_append_owned_none (P:=P) (w:=w) base t ty e ie s hu hi v m xs jd;refine⟨v,w,dA,by simpa using jd,⟨⟨rfl,rfl,rfl,kC _,λ_ _ _=>rfl⟩,kC _⟩,.inl rfl,by rw[jK];rfl⟩
  · subst hx
    obtain ⟨v', w', dA, xP, hg, _⟩ := run_append_own (P := P) w base t ty e ie z s ie.bytes hu hi hz hs rfl (by rw [Ak, hs]) iF v m xs jd a' 0 c' [] (by simp)
      (λj u hj=>by simp at hj) (λu hu=>by simp at hu) (by simp only[maxLen];omega) zD QL
    refine⟨v',w',dA,xP,⟨hg,JZ (gK _ _ _ _ dA)⟩,?_,?_⟩
    · rw [jK]at dA;have:=CU (P:=P) (t:=t) (ty:=ty) w v' w' dA;rw[jK];cases ad<;>exact this
    · rcases xP.2 with⟨h1,_⟩|⟨k,cap,cur,h1,_⟩<;>rw[h1]<;>rfl
  · subst hx
    obtain ⟨v', w', dA, xP, hg, _⟩ := run_append_own (P := P) w base t ty e ie z s ie.bytes hu hi hz hs rfl (by rw [Ak, hs]) iF v m xs jd ⟨b, o, none⟩ m' cap news hl
      (λj u hj=>by rw[addr_add];exact sD j u hj) h1 (by simp only[maxLen];omega) zD QL
    refine⟨v',w',dA,xP,⟨hg,JZ (gK _ _ _ _ dA)⟩,?_,?_⟩
    · rw [jK]at dA;have:=CU (P:=P) (t:=t) (ty:=ty) w v' w' dA;rw[jK];cases ad<;>exact this
    · rcases xP.2 with⟨h1,_⟩|⟨k,cap,cur,h1,_⟩<;>rw[h1]<;>rfl
theorem KE{t e:TypeId}{ty:TypeId}{ie:TypeInfo}{base m m' s:Nat}{v x:Value}{xs:List Value}{new:Nat→List PV}(hu:P.underlying t=some (.slice e))(hi:P.info? e=some ie)
    {z:Value} (hz:ie.zero=some z) (Ak:z.cells.size=ie.size) (hs:ie.size=s) (iF:0<s) (QL:base<=w.heap.size) (jd:w.ownsRow base e s v m xs) (oJ:Vu g w x m' s new)
    (hlen:m+m'<=9223372036854775807) (zD:(m+m')*ie.bytes<=140737488355328) :
    ∃v' w' news,(Builtin.append_ #[t,t] ty #[v,x]).run P w=.ok v' w'/\w'.ownsRow base e s v' (m+m') (xs++news)/\GrB w w' v.ownBlock/\(v'.ownBlock=v.ownBlock\/v'.ownBlock=some w.heap.size) /\
      v'.oneCell'=true/\news.length=m'*s/\∀k,k<m'->RL (Rep g.h) (new k) ((news.drop (k*s)).take s):=by
  rcases oJ with⟨rfl,hx⟩|⟨b,o,cap,news,hx,hl,sD,h1,hr⟩
  · obtain⟨v',w',h⟩:=Hf (P:=P) (ty:=ty) (news:=[]) hu hi hz Ak hs iF QL jd (.inl ⟨rfl,hx,rfl⟩) hlen zD;exact⟨v',w',[],h.1,h.2.1,h.2.2.1,h.2.2.2.1,h.2.2.2.2,by simp,λk hk=>absurd hk omY⟩
  · obtain⟨v',w',h⟩:=Hf (P:=P) (ty:=ty) (news:=news) hu hi hz Ak hs iF QL jd (.inr ⟨b,o,cap,hx,hl,sD,h1⟩) hlen zD;exact⟨v',w',news,h.1,h.2.1,h.2.2.1,h.2.2.2.1,h.2.2.2.2,hl,hr⟩
theorem zhi{L e s b m m':Nat}{get new:Nat→List PV}{v':Value}{w':World}{xs news:List Value}(hu:ut (appG m get new))(hv0:0<s∧∃i z,P.info? e=some i∧i.size=s∧i.bytes=b∧i.zero=some z∧z.cells.size=s)
    (hx:xs.length=m*s) (hr:∀k,k<m->RL (Rep g.h) (get k) ((xs.drop (k*s)).take s)) (_hn:news.length=m'*s) (hrn:∀k,k<m'->RL (Rep g.h) (new k) ((news.drop (k*s)).take s))
    (jd:w'.ownsRow B e s v' (m+m') (xs++news)):CJ P (g.setSv L v') w' B L e s b (m+m') (appG m get new):=by
  refine⟨⟨hu,hv0.1⟩,hv0.2,xs++news,by rw[show(g.setSv L v').sv L=v' by simp[Gh.setSv]];exact jd,?_⟩;intro k hk;show RL (Rep g.h) (match Nat.ble m k with|true=>new (k-m)|false=>get k) _;cases hb:Nat.ble m k with
  | true =>
    have hmk:=qd7 hb;have e:((xs++news).drop (k*s)).take s=(news.drop ((k-m)*s)).take s:=by
      rw[List.drop_append,show xs.drop (k*s)=[]from List.drop_eq_nil_of_le (by rw[hx];exact QX s hmk),Pg,hx,<- Nat.sub_mul]
    rw[e];exact hrn (k-m) omY
  | false =>
    have hmk:k<m:=by
      have:¬m<=k:=λh=>by rw[jqe h]at hb;cases hb
      omega
    have hle:k*s+s<=m*s:=by have:=QX s (qdw hmk);rw[Ur]at this;exact this
    have e:((xs++news).drop (k*s)).take s=(xs.drop (k*s)).take s:=by
      rw[List.drop_append_of_le_length omY,List.take_append_of_le_length (by simp;omega)]
    rw[e];exact hr k hmk
theorem Zq{o:Oper}{args:Array Operand}{ts:Array TypeId}{A:aC}(S:cO P nt B w0 h0 g σ a w)(hd:dJ nt o.dst=true)(bu:o.op = .call {callee := .builtin .append,args,argTypes:=ts})
    (hA:act P Γ o (fU σ.env) (lk σ.aB)=A) (hs:A.safe):jo P nt B w0 h0 r n i o A σ a w Q:=by
  simp only[act,aAp,bu]at hA;split at hA
  · rename_i s x t t' gB hts;split at hA
    · rename_i e dst hu htt GL;have htt:=kL htt;subst htt;have ha:args = #[s,x]:=by rw[<- qdp (xs:=args),gB]
      have ht:ts = #[t,t]:=by rw[<- qdp (xs:=ts),hts]
      subst ha ht;split at hA
      · rename_i ie z hi hz;obtain⟨zv,GM,Ak⟩:=jc hz hi;have zhj:∀(v':Value)(w':World),(Builtin.append_ #[t,t] o.type #[a.eval s,a.eval x]).run P w=.ok v' w'->(execOp a.eval o).run P w=.ok (.value v') w':=by
          intro v' w' h;refine fb bu ?_;simp only[builtin,Sem.run_bind,List.map_toArray,oU,qd3,h,Result.andThen_ok,Sem.run_pure]
        unfold QZ at hA;split at hA
        · rename_i m sz new fps oJ;unfold Fj at oJ;have zhk:sz≠0->Vu g w (a.eval x) m sz new:=by
            intro jO;have jO:0<sz:=by omega
            split at oJ
            · rename_i hx;simp only[bW,gy]at oJ;obtain⟨rfl,rfl,rfl,_⟩:=oJ;exact zhg S jO (jF S hx)
            · rename_i M hx;obtain⟨h1,_⟩:=iJ S hx;split at oJ
              · rename_i hM;simp only[bW,gy]at oJ;obtain⟨rfl,rfl,rfl,_⟩:=oJ;rw[h1.1];exact zno (S.obj M _ hM)
              · rename_i hM;simp only[bW,gy]at oJ;obtain⟨rfl,rfl,rfl,_⟩:=oJ;rw[h1.1];exact zhg S jO (S.obj M _ hM).1
              · cases oJ
            · cases oJ
          have Vw:ut new:=by
            split at oJ
            · rename_i hx;simp only[bW,gy]at oJ;obtain⟨rfl,rfl,rfl,_⟩:=oJ;exact(jF S hx).un.rows.2
            · split at oJ
              · rename_i hM;simp only[bW,gy]at oJ;obtain⟨rfl,rfl,rfl,_⟩:=oJ;exact(S.obj _ _ hM).1.1
              · rename_i hM;simp only[bW,gy]at oJ;obtain⟨rfl,rfl,rfl,_⟩:=oJ;exact(S.obj _ _ hM).1.un.rows.2
              · cases oJ
            · cases oJ
          split at hA
          · rename_i L hsL;obtain⟨h1,_⟩:=iJ S hsL;split at hA
            · rename_i e' s' b' m0 get hL;split at hA
              · rename_i dC;obtain⟨rfl,rfl,rfl,zhl,iF,_,sF⟩:=dC;subst hA;have qJ:(m0+m) * ie.bytes<=140737488355328/\m0+m<=9223372036854775807:=hs;have zXI:sz ≠ 0:=by omega
                have zde:=zhk zXI;rw[zhl]at zde;obtain⟨⟨Zr,hp⟩,nH,xs,hx,hr⟩:=S.obj L _ hL;obtain⟨v',w',news,dA,xP,hg,Ob,lU,hnl,hrn⟩:=KE (P:=P) (ty:=o.type) hu hi GM Ak rfl hp S.bs hx zde qJ.2 qJ.1;rw[<- h1.1]at dA;have hnz:nzG (get 0) (appG m0 get new)=appG m0 get new:=Zc λi=>by
                  unfold appG;split
                  · exact(JP sF (Zr 0 0) (Vw 0 0)).trans (Vw 0 _)
                  · exact Zr 0 _
                rw[hnz];have zhf:=zhi (P:=P) (L:=L) (zm8 Zr Vw (JP sF (Zr 0 0) (Vw 0 0))) ⟨hp,nH⟩ hx.1 hr hnl hrn xP;have S':=S.grow (dst:=o.dst) hL hd hg (Ob.imp id .inl) zhf lU σ.log;refine pV (by simp[bu]) (zhj v' w' dA) ⟨g.setSv L v',σ.upd i o.dst ((L,true)::fps) (.cl (.vec L)) [(L,.vec e' ie.size ie.bytes (m0+m) (appG m0 get new))] [L],rfl,?_⟩;rw[zhh];exact S'
              · subst hA;exact hs.elim
            · subst hA;exact hs.elim
          · rename_i hsN;split at hA
            · rename_i ig;split at hA
              · rename_i dC;obtain⟨zhl,iF⟩:=dC;subst hA;have qJ:m*ie.bytes<=140737488355328/\m<=9223372036854775807:=hs;have zde:=zhk omY;have za4:a.eval s=.slice none 0 0:=by
                  have:=jF S hsN;generalize a.eval s=v at this;cases this;rfl
                obtain⟨v',w',news,dA,xP,hg,Ob,lU,hnl,hrn⟩:=KE (P:=P) (ty:=o.type) (base:=w.heap.size) (m:=0) (v := .slice none 0 0) (xs:=[]) hu hi GM Ak zhl.symm iF (kC _)
                  (World.ownsRow_nil w _ e sz) zde omY (by rw[NV];exact qJ.1)
                rw[<- za4]at dA;rw[NV,Pg]at xP;have zEL:w'.ownsRow B e sz v' m news:=by
                  refine⟨xP.1,?_⟩;rcases xP.2 with h|⟨k,cap,cur,h1,h2,h3⟩
                  · exact .inl h
                  · exact .inr ⟨k,cap,cur,h1,EW S.bs h2,h3⟩
                have zhf:CJ P (g.setSv dst v') w' B dst e sz ie.bytes m new:=by
                  refine⟨⟨Vw,iF⟩,⟨ie,zv,hi,zhl.symm,rfl,GM,by rw[Ak,zhl]⟩,news,?_,hrn⟩;rw[show(g.setSv dst v').sv dst=v' by simp[Gh.setSv]];exact zEL
                have hold:∀b,b<w.heap.size->w'.heap[b]? = w.heap[b]?:=λb hb=>hg.block b hb (by simp[Value.ownBlock])
                have S' := S.newVec (t := dst) (w' := w') ig ⟨⟨hg.os, hg.tape, hg.output, hg.size, fun k hk => hold k (qdF hk S.bs)⟩, hg.drawn⟩ hold
                  (λb hb=>(xP.lt b hb).1) zhf
                refine pV (by simp[bu]) (zhj v' w' dA) ⟨g.setSv dst v',σ.upd i o.dst ((dst,true)::fps) (.cl (.vec dst)) [(dst,.vec e sz ie.bytes m new)] [],rfl,?_⟩;rw[gm];refine S'.put (v:=v') hd (d:=.cl (.vec dst)) ⟨by simp[Gh.setSv],lU⟩ ?_ _;intro L hL;simp[df,dE,bD]at hL;subst hL;exact⟨_,by rw[aZ,eX rfl]⟩
              · subst hA;exact hs.elim
            · subst hA;exact hs.elim
          · subst hA;exact hs.elim
        · subst hA;exact hs.elim
      · subst hA;exact hs.elim
    · subst hA;exact hs.elim
  · subst hA;exact hs.elim
end
end Go.Pm
namespace Go.Pm
variable [aJ]
open Go.RowKit (Below)
open Go.MapKept (IsKey findNow_spec run_checkKey)
section
variable{P:Program}{w:World}
abbrev VI(xs:List Int):List Value:=xs.map (Value.int .i64)
def mkI(ag:Bool)(c:List Int):Value:=match ag with
 | true=>tK c
 | false=>.int .i64 (c.headD 0)
theorem qY{t:TypeId}{ag:Bool}{n off:Nat}{xs:List Int}(hg:jD P t=some ag)(hs:qA P t=some n)(h1:ag=false→n=1)(hl:off+n≤xs.length) :
  (part t (VI xs).toArray off).run P w=.ok (mkI ag ((xs.drop off).take n)) w:=by
 cases ag with
 | true =>
  simp only[part,Sem.run_bind,oh hg,Result.andThen_ok,Pn,run_sizeOf hs,Sem.run_pure];simp[mkI,tK,qzm,jqY,List.map_take,List.map_drop]
 | false =>
  have:=h1 rfl;subst this;have iC:off<xs.length:=by omega
  simp only[part,Sem.run_bind,oh hg,Result.andThen_ok,qdE,qjr];rw[show(VI xs).toArray[off]? = some (.int .i64 xs[off])by simp[iC]];rw[List.drop_eq_getElem_cons iC];rfl
theorem take_split(xs:List Int)(m k r:Nat):(xs.drop m).take (k+r)=(xs.drop m).take k++(xs.drop (m+k)).take r:=by
 rw[List.take_add,List.drop_drop]
theorem zbE{a b c d:List Int}(h:a.length=b.length):decide (a++c=b++d)=(decide (a=b)&&decide (c=d)):=by
 by_cases h1:a=b
 ·subst h1;simp
 ·have:¬(a++c=b++d):=fun e=>h1 (List.append_inj e h).1;simp[h1,this]
theorem take_len{xs:List Int}{m k:Nat}(h:m+k<=xs.length):((xs.drop m).take k).length=k:=by
 rw[qdH,Y8];omega
theorem vF{d:Nat}{t:TypeId}{n:Nat}{ag:Bool}(h:kS P d t=some n)(hg:jD P t=some ag):ag=false->n=1:=by
 intro e;subst e;cases d with
 | zero=>simp[kS]at h
 | succ d =>
  simp only[kS]at h;split at h
  ·split at h
   ·split at h
    ·simp only[bW]at h;exact h.symm
    ·cases h
   ·cases h
  ·rename_i hu;simp[jD,hu]at hg
  ·rename_i hu;simp[jD,hu]at hg
  ·cases h
def Hg (P : Program) (d : Nat) : Option Nat → Field → Option Nat := fun acc f => match acc, f.name != "_", kS P d f.type, qA P f.type with
 | some m,true,some n,some n'=>match Nat.beq f.offset m&&Nat.beq n n' with
  | true=>some (m+n)
  | false=>none
 | _,_,_,_=>none
theorem KG{d:Nat}:∀l:List Field,l.foldl (Hg P d) none=none
  | []=>rfl
  | f::l=>by rw[YC,show Hg P d none f=none from rfl];exact KG l
theorem KH{d:Nat}{f:Field}{l:List Field}{m n:Nat}(h:(f::l).foldl (Hg P d) (some m)=some n) :
  ∃ k, kS P d f.type = some k ∧ qA P f.type = some k ∧ f.name ≠ "_" ∧ f.offset = m ∧ l.foldl (Hg P d) (some (m + k)) = some n := by
 rw[YC]at h;cases hs:Hg P d (some m) f with
 | none=>rw[hs,KG]at h;cases h
 | some q =>
  rw[hs]at h;unfold Hg at hs;split at hs
  ·rename_i m' k k' e1 e2 e3 e4;simp only[bW] at e1;subst e1;split at hs
   ·rename_i hb;simp only[gG]at hb;have h1:=kL hb.1;have h2:=kL hb.2;simp only[bW]at hs;subst hs;subst h2;exact⟨k,e3,e4,by simpa using e2,h1,h⟩
   ·cases hs
  ·cases hs
theorem PT {d : Nat} : ∀ (l : List Field) (m q : Nat), l.foldl (Hg P d) (some m) = some q → m ≤ q ∧ ∀ f ∈ l, f.name ≠ "_" ∧ ∃ k, kS P d f.type = some k ∧ qA P f.type = some k ∧ f.offset + k ≤ q
  | [],m,q,h=>by
    simp only[List.foldl_nil,bW]at h;subst h;exact⟨kC _,λf hf=>by simp at hf⟩
  | f::l,m,q,h=>by
    obtain⟨k,h1,h2,h3,h4,h5⟩:=KH h;obtain⟨h6,h7⟩:=PT l (m+k) q h5;refine⟨omY,λg hg=>?_⟩;rcases kR.1 hg with rfl|hg
    · exact⟨h3,k,h1,h2,omY⟩
    · exact h7 g hg
theorem qL{d:Nat}{t:TypeId}{n:Nat}(h:kS P d t=some n):∃ag,jD P t=some ag:=by
 cases d with
 | zero=>simp[kS]at h
 | succ d =>
  simp only[kS]at h;cases hu:P.underlying t with
  | none=>rw[hu]at h;cases h
  | some x=>unfold jD;rw[hu];exact⟨_,rfl⟩
theorem Jd:∀(d:Nat)(t:TypeId)(n:Nat)(ag:Bool),kS P d t=some n->jD P t=some ag->∀(e:Nat)(xs ys:List Int),xs.length=n->ys.length=n ->
  (Op.equalIn (d+e) t (mkI ag xs) (mkI ag ys)).run P w=.ok (decide (xs=ys)) w
 | 0,t,n,ag,h,_=>by simp[kS]at h
 | d+1,t,n,ag,h,hg=>by
  intro e xs ys hx hy;rw[show d+1+e=(d+e)+1 by omega];have h0:=h;simp only[kS]at h;split at h
  ·rename_i hu;have uP:ag=false:=by simp[jD,hu] at hg;exact hg
   subst uP;have hn:=vF h0 hg rfl;subst hn
   match xs,ys,hx,hy with
   | [x],[y],_,_ =>
    simp only[mkI,qjA];rw[run_equalIn_int w (d+e) t .i64 .i64 x y hu];by_cases hxy:x=y<;>simp[hxy]
  ·rename_i fs hu;split at h
   ·cases h
   ·rename_i Fb;have uP:ag=true:=by simp[jD,hu] at hg;exact hg
    subst uP;have hf:P.fieldsOf t=fs:=by simp[Program.fieldsOf,hu]
    simp only[mkI,tK];rw[run_equalIn_struct w (d+e) t _ _ (by rw[hf];exact hu) Fb,hf]
    have key:∀(l:List Field)(m q:Nat),l.foldl (Hg P d) (some m)=some q->q<=xs.length->q<=ys.length ->
      m<=q/\(Op.eqFields (d+e) (VI xs).toArray (VI ys).toArray l).run P w=.ok (decide ((xs.drop m).take (q-m)=(ys.drop m).take (q-m))) w:=by
     intro l
     induction l with
     | nil =>
      intro m q hq _ _;simp only[List.foldl_nil,bW]at hq;subst hq;exact⟨kC _,by simp[Op.eqFields]⟩
     | cons f l ih =>
      intro m q hq hxl hyl;obtain⟨k,h1,h2,h3,h4,h5⟩:=KH hq;obtain⟨hle,hr⟩:=ih (m+k) q h5 hxl hyl;obtain⟨ag',uO⟩:=qL h1;have hk1:=vF h1 uO;refine⟨omY,?_⟩;have p1:=qY (w:=w) (xs:=xs) (off:=m) uO h2 hk1 omY;have p2:=qY (w:=w) (xs:=ys) (off:=m) uO h2 hk1 omY;have p3:=Jd d f.type k ag' h1 uO e ((xs.drop m).take k) ((ys.drop m).take k) (take_len omY) (take_len omY);rw[show q-m=k+(q-(m+k))by omega,take_split,take_split,zbE (by rw[take_len omY,take_len omY])];simp only[Op.eqFields,h3,ne_eq,not_false_eq_true,Pn,Sem.run_bind,h4,p1,p2,p3,Result.andThen_ok];cases hd:decide (List.take k (List.drop m xs)=List.take k (List.drop m ys))with
      | false=>simp
      | true=>simpa using hr
    have:=(key fs.toList 0 n h omY omY).2;rw[this];simp only[List.drop_zero,qzc];rw[dqo omY,dqo omY]
  ·rename_i m0 e0 hu;split at h
   ·rename_i m m' hm IZ;split at h
    ·rename_i hb;have hmm:=kL hb;subst hmm;simp only[bW] at h;have uP:ag=true:=by simp[jD,hu] at hg;exact hg
     subst uP;obtain⟨ag',uO⟩:=qL hm;have hk1:=vF hm uO;obtain⟨i,hi,his⟩:∃i,P.info? e0=some i/\i.size=m:=by
      unfold qA at IZ;cases hi:P.info? e0 with
      | none=>rw[hi]at IZ;cases IZ
      | some i=>rw[hi]at IZ;simp only[QU,bW]at IZ;exact⟨i,rfl,IZ⟩
     have hc:P.cellsOf e0=m:=by simp[Program.cellsOf,hi,his]
     simp only[mkI,tK];rw[run_equalIn_array w (d+e) _ _ hu hi,hc,dqQ];have key:∀(k s:Nat),(s+k)*m<=xs.length->(s+k)*m<=ys.length->(Op.eqItems (d+e) e0 m (VI xs).toArray (VI ys).toArray (List.range' s k)).run P w=.ok (decide ((xs.drop (s*m)).take (k*m)=(ys.drop (s*m)).take (k*m))) w:=by
      intro k
      induction k with
      | zero=>intro s _ _;simp[Op.eqItems]
      | succ k ih =>
       intro s hxl hyl;have e1:(s+(k+1))*m=s*m+(k+1)*m:=Nat.add_mul _ _ _;have e2:(k+1)*m=m+k*m:=by rw[Ur,jqf]
       have e3:(s+1)*m=s*m+m:=Ur _ _;have hr:=ih (s+1) (by rw[show s+1+k=s+(k+1)by omega];exact hxl) (by rw[show s+1+k=s+(k+1)by omega];exact hyl);have p1:=qY (w:=w) (xs:=xs) (off:=s*m) uO IZ hk1 omY;have p2:=qY (w:=w) (xs:=ys) (off:=s*m) uO IZ hk1 omY;have p3:=Jd d e0 m ag' hm uO e ((xs.drop (s*m)).take m) ((ys.drop (s*m)).take m) (take_len omY) (take_len omY);rw[e2,take_split,take_split,zbE (by rw[take_len omY,take_len omY])];rw[YA];simp only[Op.eqItems,Sem.run_bind,p1,p2,p3,Result.andThen_ok];rw[e3]at hr;cases hd:decide (List.take m (List.drop (s*m) xs)=List.take m (List.drop (s*m) ys))with
       | false=>simp
       | true=>simpa using hr
     have:=key m0 0 (by rw[NV,h];omega) (by rw[NV,h];omega);rw[this];simp only[qzb,List.drop_zero,h];rw[dqo omY,dqo omY]
    ·cases h
   ·cases h
  ·cases h
theorem wJ:∀(d:Nat)(t:TypeId)(n:Nat)(ag em:Bool),kS P d t=some n->jD P t=some ag->∀(e:Nat)(xs:List Int),xs.length=n ->
  (Instr.checkKey em (d+e) t (mkI ag xs)).run P w=.ok () w
 | 0,t,n,ag,em,h,_=>by simp[kS]at h
 | d+1,t,n,ag,em,h,hg=>by
  intro e xs hx;rw[show d+1+e=(d+e)+1 by omega];have h0:=h;simp only[kS]at h;split at h
  ·rename_i hu;have uP:ag=false:=by simp[jD,hu] at hg;exact hg
   subst uP;simp only[mkI,Instr.checkKey,Sem.run_bind,run_underlying hu,Result.andThen_ok,Sem.run_pure]
  ·rename_i fs hu;split at h
   ·cases h
   ·rename_i Fb;have uP:ag=true:=by simp[jD,hu] at hg;exact hg
    subst uP;simp only[mkI,tK,Instr.checkKey,Sem.run_bind,run_underlying hu,Result.andThen_ok];rw[<- Array.forIn_toList];have deep:=(PT fs.toList 0 n h).2;clear h h0;generalize fs.toList=L at deep
    induction L with
    | nil=>simp
    | cons f L ih =>
     obtain⟨hn,k,h1,h2,h3⟩:=deep f (by simp);obtain⟨ag',uO⟩:=qL h1;have p1:=qY (w:=w) (xs:=xs) (off:=f.offset) uO h2 (vF h1 uO) omY;have p3:=wJ d f.type k ag' em h1 uO e ((xs.drop f.offset).take k) (take_len omY);simp only[List.forIn_cons,Sem.run_bind,hn,ne_eq,not_false_eq_true,Pn,Result.andThen_ok,p1,p3,Sem.run_pure];exact ih λy hy=>deep y (by simp[hy])
  ·rename_i m0 e0 hu;split at h
   ·rename_i m m' hm IZ;split at h
    ·rename_i hb;have hmm:=kL hb;subst hmm;simp only[bW] at h;have uP:ag=true:=by simp[jD,hu] at hg;exact hg
     subst uP;obtain⟨ag',uO⟩:=qL hm;have hk1:=vF hm uO;simp only[mkI,tK,Instr.checkKey,Sem.run_bind,run_underlying hu,Result.andThen_ok];simp only[Std.Legacy.Range.forIn_eq_forIn_range',Std.Legacy.Range.size,qzc,Nat.add_one_sub_one,Nat.div_one];have deep:∀i∈List.range' 0 m0,i*m+m<=xs.length:=λi hi=>by
      have iC:i<m0:=by simp at hi;exact hi
      have:(i+1)*m<=m0*m:=QX _ iC;rw[Ur]at this;omega
     generalize List.range' 0 m0=is at deep
     induction is with
     | nil=>simp
     | cons i is ih =>
      have h3:=deep i (by simp);have p1:=qY (w:=w) (xs:=xs) (off:=i*m) uO IZ hk1 h3;have p3:=wJ d e0 m ag' em hm uO e ((xs.drop (i*m)).take m) (take_len h3);simp only[List.forIn_cons,Sem.run_bind,run_sizeOf IZ,Result.andThen_ok,p1,p3,Sem.run_pure];exact ih λy hy=>deep y (by simp[hy])
    ·cases h
   ·cases h
  ·cases h
theorem Zt(kf:KF)(c:List Int):Instr.sameBits 10000 (fJ kf c) (fJ kf c)=true:=by
 cases kf with
 | one=>simp[fJ,Instr.sameBits]
 | ints =>
  have key:∀(l:List Int)(m:Nat),((VI l).zip (VI l)).all (λ(x,y)=>Instr.sameBits (m+1) x y)=true:=by
   intro l m
   induction l with
   | nil=>rfl
   | cons a l ih =>
    simp only[VI,oU,List.zip_cons_cons,qdS,gG];exact⟨by simp[Instr.sameBits],ih⟩
  simp only[fJ,tK,Instr.sameBits];simp only[qdP,OY];exact key c 9998
theorem yP{k:TypeId}{kf:KF}{n:Nat}(h:fZ P k=some (kf,n)) :
  (kf=.ints/\kS P 8 k=some n/\jD P k=some true)\/(kf=.one/\kS P 8 k=some n/\jD P k=some false/\n=1):=by
 unfold fZ at h;split at h
 ·rename_i h1 h2;simp only[bW,gy]at h;obtain⟨rfl,rfl⟩:=h;exact .inl ⟨rfl,h1,h2⟩
 ·rename_i h1 h2;split at h
  ·rename_i hb;simp only[bW,gy]at h;obtain⟨rfl,rfl⟩:=h;exact .inr ⟨rfl,h1,h2,kL hb⟩
  ·cases h
 ·cases h
theorem Je{k:TypeId}{kf:KF}{n:Nat}(h:fZ P k=some (kf,n)):kf=.one->n=1:=by
 rintro rfl;rcases yP h with⟨e,_⟩|⟨_,_,_,h⟩
 ·cases e
 ·exact h
theorem zwl{k:TypeId}{kf:KF}{n:Nat}(h:fZ P k=some (kf,n)){xs ys:List Int}(hx:xs.length=n)(hy:ys.length=n) :
  (Op.equalIn 10000 k (fJ kf xs) (fJ kf ys)).run P w=.ok (decide (xs=ys)) w:=by
 rcases yP h with⟨rfl,h1,h2⟩|⟨rfl,h1,h2,_⟩
 ·exact Jd (w:=w) 8 k n true h1 h2 9992 xs ys hx hy
 ·exact Jd (w:=w) 8 k n false h1 h2 9992 xs ys hx hy
theorem PU{k:TypeId}{kf:KF}{n:Nat}(em:Bool)(h:fZ P k=some (kf,n)){xs:List Int}(hx:xs.length=n) :
  (Instr.checkKey em 10000 k (fJ kf xs)).run P w=.ok () w:=by
 rcases yP h with⟨rfl,h1,h2⟩|⟨rfl,h1,h2,_⟩
 ·exact wJ (w:=w) 8 k n true em h1 h2 9992 xs hx
 ·exact wJ (w:=w) 8 k n false em h1 h2 9992 xs hx
theorem yQ{kt n:Nat}{ag:KF}(h:fZ P kt=some (ag,n)){c:List Int}(hc:c.length=n):∀(es:List MapEntry)(en:List (List Int×List Int))(i:Nat),
  es.map (·.key)=en.map (λx=>fJ ag x.1)->(∀x∈en,x.1.length=n) ->
   ((Instr.findAsking kt (fJ ag c) es i).run P w=.ok none w/\∀x∈en,x.1≠c) \/
   ∃(j:Nat)(e:MapEntry)(v:List Int),(Instr.findAsking kt (fJ ag c) es i).run P w=.ok (some (i+j,e.val)) w/\es[j]? = some e/\en[j]? = some (c,v)
 | [],[],i,_,_=>.inl ⟨by simp[Instr.findAsking],by simp⟩
 | [],_::_,i,hk,_=>by simp at hk
 | _::_,[],i,hk,_=>by simp at hk
 | e::es,(k,v)::en,i,hk,hl=>by
  simp only[oU,GZ]at hk;have q:=zwl (w:=w) h hc (hl _ lq);have q':(Op.equal kt (fJ ag c) e.key).run P w=.ok (decide (c=k)) w:=by rw[hk.1];exact q
  by_cases hck:c=k
  ·subst hck;refine .inr ⟨0,e,v,?_,rfl,rfl⟩;simp only[Instr.findAsking,Sem.run_bind,q',Result.andThen_ok,decide_true,Pn,Sem.run_pure,qjd]
  ·rcases yQ h hc es en (i + 1) hk.2 (fun x hx => hl x (jU _ hx)) with ⟨h1, h2⟩ | ⟨j, e', v', h1, h2, h3⟩
   ·refine .inl ⟨?_, fun x hx => ?_⟩
    ·simp only [Instr.findAsking,Sem.run_bind,q',Result.andThen_ok,hck,QV,qdE,qjr];exact h1
    ·rcases kR.1 hx with rfl | hx
     ·exact λe=>hck e.symm
     ·exact h2 x hx
   ·refine .inr ⟨j+1,e',v',?_,by simpa using h2,by simpa using h3⟩;simp only[Instr.findAsking,Sem.run_bind,q',Result.andThen_ok,hck,QV,qdE,qjr];rw[h1,show i+1+j=i+(j+1)by omega]
theorem run_findKey{kt n:Nat}{ag:KF}(h:fZ P kt=some (ag,n)){c:List Int}(hc:c.length=n)(es:List MapEntry)(en:List (List Int×List Int))
    (hk : es.map (·.key) = en.map (fun x => fJ ag x.1)) (hl : ∀ x ∈ en, x.1.length = n) :
      ((Instr.findKey kt (fJ ag c) es).run P w=.ok none w/\∀x∈en,x.1≠c) \/
      ∃(j:Nat)(e:MapEntry)(v:List Int),(Instr.findKey kt (fJ ag c) es).run P w=.ok (some (j,e.val)) w/\es[j]? = some e/\en[j]? = some (c,v):=by
  by_cases lU:ag=.one
  · subst lU;have hn:=Je h rfl;subst hn;have hu:P.underlying kt=some (.int .i64):=by
      obtain⟨h,hg⟩:kS P 8 kt=some 1/\jD P kt=some false:=by
        rcases yP h with⟨e,_⟩|⟨_,h1,h2,_⟩
        · cases e
        · exact⟨h1,h2⟩
      simp only[kS]at h;split at h
      · assumption
      · rename_i hu;simp[jD,hu]at hg
      · rename_i hu;simp[jD,hu]at hg
      · cases h
    match c,hc with
    | [a],_ =>
      have QK:∀x∈es,IsKey (.int .i64) x.key:=by
        intro x hx;have:x.key∈en.map (λx=>fJ .one x.1):=hk▸xR.2 ⟨x,hx,rfl⟩;obtain⟨y,_,hy⟩:=xR.1 this;rw[<- hy];exact zbz _
      have hat:∀(j:Nat)(e:MapEntry),es[j]? = some e->∃k v,en[j]? = some ([k],v)/\e.key=.int .i64 k:=by
        intro j e he;have h1:(es.map (·.key))[j]? = some e.key:=by simp[he]
        rw[hk]at h1;simp only[qdc,YQ]at h1;obtain⟨⟨k,v⟩,h2,h3⟩:=h1;have hkl:=hl _ (JB h2)
        match k,hkl with
        | [k0],_=>exact⟨k0,v,h2,h3.symm⟩
      simp only[fJ,qjA];rcases findNow_spec (zbz a) es 0 QK with⟨h1,h2⟩|⟨jj,e',h1,h2,h3⟩
      · refine .inl ⟨by simp only [Instr.findKey, Sem.run_bind, run_underlying hu, Result.andThen_ok, h1, Sem.run_pure], fun x hx e => ?_⟩;obtain⟨j,hj⟩:=Za hx;have hlen:es.length=en.length:=by have:=jX List.length hk;simpa using this
        have hjl:j<es.length:=by rw[hlen];exact(AY.1 hj).1
        obtain⟨k,v,h4,h5⟩:=hat j es[j] (BR hjl);rw[hj]at h4;simp only[bW]at h4;rw[h4]at e;simp only[GZ,jqM]at e;subst e;exact h2 es[j] (YY hjl) h5
      · obtain⟨k,v,h4,h5⟩:=hat jj e' h2;rw[h3]at h5;simp only[Value.int.injEq,true_and]at h5;subst h5;exact .inr ⟨jj,e',v,by simp only[Instr.findKey,Sem.run_bind,run_underlying hu,Result.andThen_ok,h1,Sem.run_pure,NV],h2,h4⟩
  · have hg:jD P kt=some true:=by
      rcases yP h with⟨_,_,h2⟩|⟨e,_⟩
      · exact h2
      · exact absurd e lU
    have hkv:∀c:List Int,∃l,fJ ag c=.agg l:=λc=>by
      cases ag with
      | one=>exact absurd rfl lU
      | ints=>exact⟨_,rfl⟩
    match es,en,hk with
    | [],[],_ =>
      refine .inl ⟨?_,by simp⟩;obtain⟨x,hu⟩:∃x,P.underlying kt=some x:=by
        cases hu:P.underlying kt with
        | none=>simp[jD,hu]at hg
        | some x=>exact⟨x,rfl⟩
      simp only[Instr.findKey,Sem.run_bind,run_underlying hu,Result.andThen_ok,Instr.findNow,Sem.run_pure]
    | [],_::_,hk=>simp at hk
    | _::_,[],hk=>simp at hk
    | e::es,x::en,hk =>
      have hke:e.key=fJ ag x.1:=by simp only[oU,GZ]at hk;exact hk.1
      have hf:(Instr.findKey kt (fJ ag c) (e::es)).run P w=(Instr.findAsking kt (fJ ag c) (e::es)).run P w:=by
        obtain⟨y,hu⟩:∃y,P.underlying kt=some y:=by
          cases hu:P.underlying kt with
          | none=>simp[jD,hu]at hg
          | some y=>exact⟨y,rfl⟩
        have hs:Instr.findNow y (fJ ag c) (e::es) 0=none:=by
          obtain⟨l1,e1⟩:=hkv c;obtain⟨l2,e2⟩:=hkv x.1;simp only[Instr.findNow,hke,e1,e2];have:Instr.sameNow y (.agg l1) (.agg l2)=none:=by
            cases y<;>rfl
          rw[this]
        simp only[Instr.findKey,Sem.run_bind,run_underlying hu,Result.andThen_ok,hs]
      rw[hf];rcases yQ (w:=w) h hc (e::es) (x::en) 0 hk hl with h1|⟨j,e',v,h1,h2,h3⟩
      · exact .inl h1
      · exact .inr ⟨j,e',v,by rw[h1,NV],h2,h3⟩
theorem KI{c:List Int}:∀{en:List (List Int×List Int)},(∀x∈en,x.1≠c)→nO c en=none
  | [],_=>rfl
  | (k,v)::r,h=>by
    simp only[nO];rw[fB (h _ lq)];exact KI λx hx=>h x (jU _ hx)
theorem KJ {c v : List Int} : ∀ {en : List (List Int × List Int)} {j : Nat}, (en.map (·.1)).Nodup → en[j]? = some (c, v) → nO c en = some v
  | [],j,_,h=>by simp at h
  | (k,u)::r,j,hn,h=>by
    simp only[oU,qdu]at hn;simp only[nO];cases j with
    | zero=>simp at h;rw[eX h.1,h.2]
    | succ j =>
      simp only[Y9]at h;rw[fB (λe=>hn.1 (xR.2 ⟨_,JB h,e.symm⟩))];exact KJ hn.2 h
end
end Go.Pm
namespace Go.Pm
variable [aJ]
open Go.RowKit (Below)
section
variable{P:Program}{Γ:bU}{nt B:Nat}{w0:World}{h0:Fz}{g:Gh}{σ:St}{a:Act}{w:World}{r:Option Nat}{n i:Nat}{Q:Exit->Act->World->Prop}
theorem znp(k:Option IntKind)(x:Int):jg g (.p (zgW k x)) (cellV k x):=by
 cases k with
 | none=>exact .bool _
 | some k=>exact .int _ _
theorem zhn(o:Option (List Int)):∀(ks:List (Option IntKind))(i:Nat),RL (jg g) ((zv0 o i ks).map .p) (rG o i ks)
  | [],_=>trivial
  | k::ks,i=>⟨znp k _,zhn o ks (i+1)⟩
theorem zwm{yx:Bool}{ks:List (Option IntKind)}{o:Option (List Int)}{d:D1}(h:zgX yx ks o=some d):AA g d (lX yx ks o):=by
 have hr:=zhn (g:=g) o ks 0;unfold zgX at h;cases yx with
 | true =>
  simp only[bW]at h;rw[<- h];exact⟨_,rfl,hr⟩
 | false =>
  split at h
  ·rename_i l e;cases e
  ·rename_i v _ e;simp only[bW]at h;rw[<- h];rw[e]at hr;cases hc:rG o 0 ks with
   | nil=>rw[hc]at hr;exact hr.elim
   | cons x l=>rw[hc]at hr;simp only[lX,hc,qjA];exact hr.1
  ·cases h
theorem Vx{yx:Bool}{ks:List (Option IntKind)}{o:Option (List Int)}{d:D1}(h:zgX yx ks o=some d):dE d=[]:=by
 unfold zgX at h;split at h
 ·simp only[bW]at h;rw[<- h];exact ou _
 ·simp only[bW]at h;rw[<- h];rfl
 ·cases h
def ztz(c:Cl)(acc:Option (List (Option IntKind))):Option (List (Option IntKind)):=match c,acc with
 | .p (.int k (.ofNat 0)),some l=>some (some k::l)
 | .p (.bool false),some l=>some (none::l)
 | _,_=>none
theorem Bf:∀(vs:List Value)(cs:List Cl)(ks:List (Option IntKind))(i:Nat),jC vs=some cs→cs.foldr ztz (some [])=some ks→vs=rG none i ks
  | [],cs,ks,i,h1,h2=>by
    simp only[jC,bW]at h1;subst h1;simp only[List.foldr_nil,bW]at h2;subst h2;rfl
  | v::vs,cs,ks,i,h1,h2=>by
    simp only[jC]at h1;split at h1
    · rename_i x l hx hl;simp only[bW] at h1;subst h1;rw[List.foldr_cons] at h2;unfold ztz at h2;split at h2
      · rename_i k l' e1 e2;simp only[bW]at h2;subst h2;simp only[Cl.p.injEq]at e1;rw[Bf vs l l' (i+1) hl e2];have:v=.int k 0:=by
          rw[e1]at hx;unfold wC at hx;split at hx<;>simp at hx;obtain⟨rfl,rfl⟩:=hx;rfl
        rw[this];rfl
      · rename_i l' e1 e2;simp only[bW]at h2;subst h2;simp only[Cl.p.injEq]at e1;rw[Bf vs l l' (i+1) hl e2];have:v=.bool false:=by
          rw[e1]at hx;unfold wC at hx;split at hx<;>simp at hx;subst hx;rfl
        rw[this];rfl
      · cases h2
    · cases h1
structure znq (P : Program) (kt vt : Nat) (ag : KF) (m : Nat) (yx : Bool) (ks : List (Option IntKind)) : Prop where
  key:fZ P kt=some (ag,m)
  zero:∀w,(zeroValue vt).run P w=.ok (lX yx ks none) w
  one:yx=false->ks.length=1
theorem Vy{kt vt:Nat}{ag:KF}{m:Nat}{yx:Bool}{ks:List (Option IntKind)}(h:JH P kt vt=some (ag,m,yx,ks)):znq P kt vt ag m yx ks:=by
 unfold JH at h;split at h
 ·rename_i ag' m' ks' zEM h1 h3 h4;have zero:∀z,(P.info? vt).bind (·.zero)=some z->∀w,(zeroValue vt).run P w=.ok z w/\z.cells.toList=rG none 0 ks':=by
   intro z hz w;unfold zgV at h3;split at h3
   ·rename_i zc hzc;obtain⟨i,v,hi,hv,ho,_⟩:=lS hzc;rw[hi]at hz;simp only[jqI,hv,bW]at hz;subst hz;exact⟨lD hi hv,Bf _ _ _ 0 ho h3⟩
   ·cases h3
  cases hb:(zEM||Nat.beq ks'.length 1)with
  | false=>rw[hb]at h;cases h
  | true =>
   rw[hb]at h;cases hz:(P.info? vt).bind (·.zero)with
   | none=>rw[hz]at h;cases h
   | some z =>
    rw[hz]at h;cases zEM with
    | true =>
     cases z with
     | agg cs =>
      simp only[bW,gy]at h;obtain⟨rfl,rfl,rfl,rfl⟩:=h;refine⟨h1,λw=>?_,λe=>by cases e⟩;obtain⟨r1,r2⟩:=zero _ hz w;rw[r1];simp only[Value.cells]at r2;simp only[lX,<- r2]
     | _=>cases h
    | false =>
     have hlen:ks'.length=1:=by
      simp only[qjo]at hb;exact kL hb
     have fin:z.cells.toList=[z]->some (ag',m',false,ks')=some (ag,m,yx,ks)->znq P kt vt ag m yx ks:=by
      intro hcz h;simp only[bW,gy]at h;obtain⟨rfl,rfl,rfl,rfl⟩:=h;refine⟨h1,λw=>?_,λ_=>hlen⟩;obtain⟨r1,r2⟩:=zero _ hz w;rw[r1];rw[hcz]at r2;simp only[lX,<- r2,qjA]
     cases z with
     | agg cs=>cases h
     | _=>exact fin rfl h
 ·cases h
theorem zho{ag:KF}{m:Nat}{d:DV}{c:List Int}{v:Value}(h:zm1 ag m d=some c)(uP:ag=.one->m=1)(hv:rH g d v):v=fJ ag c/\c.length=m:=by
 unfold zm1 at h;split at h
 ·rename_i cs;split at h
  ·rename_i l hl;split at h
   ·rename_i hb;simp only[bW]at h;subst h;obtain⟨vs,rfl,hr⟩:=hv;exact⟨by rw[zbA hl hr];rfl,kL hb⟩
   ·cases h
  ·cases h
 ·simp only [bW]at h;subst h;cases hv;exact⟨rfl,(uP rfl).symm⟩
 ·cases h
theorem Jf:∀(ks:List (Option IntKind))(cs:List Cl)(l:List Int)(vs:List Value)(pre:List Int),uU ks cs=some l→RL (jg g) cs vs→vs=rG (some (pre++l)) pre.length ks
  | [],[],l,[],pre,h,_=>rfl
  | [],[],_,_::_,_,_,hr=>hr.elim
  | [],_::_,l,vs,pre,h,_=>by simp[uU]at h
  | k::ks,[],l,vs,pre,h,_=>by cases k<;>simp[uU]at h
  | k::ks,c::cs,l,[],pre,h,hr=>hr.elim
  | k::ks,c::cs,l,v::vs,pre,h,hr=>by
    unfold uU at h;split at h
    · rename_i e1 e2;cases e1
    · rename_i k' ks' k2 x r e1 e2;simp only[GZ] at e1 e2;obtain⟨rfl,rfl⟩:=e1;obtain⟨rfl,rfl⟩:=e2;split at h
      · rename_i hkk;subst hkk;split at h
        · rename_i l' zY;simp only[bW]at h;subst h;have ih:=Jf ks cs l' vs (pre++[x]) zY hr.2;have h1:=hr.1;cases h1;rw[show pre++[x]++l'=pre++x::l' by simp,show(pre++[x]).length=pre.length+1 by simp]at ih;rw[ih];simp[rG,cellV,EN]
        · cases h
      · cases h
    · rename_i ks' b r e1 e2;simp only[GZ] at e1 e2;obtain⟨rfl,rfl⟩:=e1;obtain⟨rfl,rfl⟩:=e2;split at h
      · rename_i l' zY;simp only[bW]at h;subst h;have h1:=hr.1;cases h1;have ih:∀y:Int,vs=rG (some (pre++y::l')) (pre.length+1) ks:=λy=>by
          have ih:=Jf ks cs l' vs (pre++[y]) zY hr.2;rw[show pre++[y]++l'=pre++y::l' by simp,show(pre++[y]).length=pre.length+1 by simp]at ih;exact ih
        rw[ih (match b with|true=>1|false=>0)];cases b<;>simp[rG,cellV,EN]
      · cases h
    · cases h
theorem znr{yx:Bool}{ks:List (Option IntKind)}{dv:D1}{l:List Int}{v:Value}(h:uU ks dv.cells=some l)(uP:dv.isAgg=yx)(hv:AA g dv v):v=lX yx ks (some l):=by
 subst uP;cases dv with
 | c x =>
  have:=Jf (g:=g) ks [x] l [v] [] h ⟨hv,trivial⟩;simp only[Pg,UJ]at this;simp only[D1.isAgg,lX,<- this,qjA]
 | agg cs =>
  obtain⟨vs,rfl,hr⟩:=hv;have:=Jf (g:=g) ks cs l vs [] h hr;simp only[Pg,UJ]at this;simp only[D1.isAgg,lX,<- this]
theorem zbF {kt vt m : Nat} {ag : KF} {yx : Bool} {ks : List (Option IntKind)} (E : znq P kt vt ag m yx ks) {es : Array MapEntry} {en : List (List Int × List Int)} (hen : es.toList.map (fun e => (e.key, e.val)) = en.map (fun x => (fJ ag x.1, lX yx ks (some x.2))))
    (hl : ∀ x ∈ en, x.1.length = m) (hn : (en.map (·.1)).Nodup) {c : List Int} (hc : c.length = m) :
      ((Instr.findKey kt (fJ ag c) es.toList).run P w=.ok none w/\nO c en=none/\∀x∈en,x.1≠c) \/
      ∃(j:Nat)(e:MapEntry)(v:List Int),(Instr.findKey kt (fJ ag c) es.toList).run P w=.ok (some (j,lX yx ks (some v))) w/\es[j]? = some e/\en[j]? = some (c,v)/\e.key=fJ ag c/\nO c en=some v:=by
  have hk:es.toList.map (·.key)=en.map (λx=>fJ ag x.1):=by
    have:=jX (List.map Prod.fst) hen;simpa [qdW,Function.comp_def]using this
  rcases run_findKey (w:=w) E.key hc es.toList en hk hl with⟨h1,h2⟩|⟨j,e,v,h1,h2,h3⟩
  · exact .inl ⟨h1,KI h2,h2⟩
  · have h4 : (es.toList.map (fun e => (e.key, e.val)))[j]? = some (e.key, e.val) := by simp [h2]
    rw[hen]at h4;simp only[qdc,h3,QU,bW,gy]at h4;exact .inr ⟨j,e,v,by rw[h1,<- h4.2],by simpa using h2,h3,h4.1.symm,KJ hn h3⟩
theorem Rx{kt vt:Nat}{q:MQ}(h:JH P kt vt=some q):znq P kt vt q.1 q.2.1 q.2.2.1 q.2.2.2:=by
 obtain⟨ag,m,yx,ks⟩:=q;exact Vy h
def zbG(q:MQ)(ok:Bool)(o:Option (List Int)):Value :=
 match ok with
 | true=>.tuple #[lX q.2.2.1 q.2.2.2 o,.bool o.isSome]
 | false=>lX q.2.2.1 q.2.2.2 o
theorem Zu{t kt vt b:Nat}{q:MQ}{ok:Bool}{F:List Int→Option (List Int)}{k:Nat}{es:Array MapEntry}{clock:Nat}(hu:P.underlying t=some (.map kt vt))(E0:JH P kt vt=some q)
    (xO:w.heap[b]? = some (.map es clock)) (hm:moE q k F es clock) {c:List Int} (hc:c.length=q.2.1) :
    (Instr.lookup t (.map (some b)) (fJ q.1 c) ok).run P w=.ok (zbG q ok (F c)) w:=by
  obtain⟨en,M⟩:=hm;have E:=Rx E0;have hck:=PU (P:=P) (w:=w) es.isEmpty E.key hc;rw[M.find c hc];rcases zbF (w:=w) E M.ents (λx hx=>(M.len x hx).1) M.nodup hc with⟨h1,h2,_⟩|⟨j,e,v,h1,_,_,_,h2⟩
  · rw [h2];simp only[Instr.lookup,Sem.run_bind,run_underlying hu,Result.andThen_ok,MapKept.run_getObj_map xO,Sem.run_pure,hck,h1,E.zero w];cases ok<;>rfl
  · rw [h2];simp only[Instr.lookup,Sem.run_bind,run_underlying hu,Result.andThen_ok,MapKept.run_getObj_map xO,Sem.run_pure,hck,h1];cases ok<;>rfl
theorem zdN{o:Oper}{t:TypeId}{x y:Operand}{q:MQ}{ok:Bool}{A:aC}{F:List Int→Option (List Int)}{fin:DV→aC}{fp:List (Nat×Bool)}(S:cO P nt B w0 h0 g σ a w)(hd:dJ nt o.dst=true)(bu:o.op = .lookup t x y ok)
    (hA:found q (fU σ.env y) ok F fin=A) (hs:A.safe) (lU:q.1=.one->q.2.1=1)
    (Fb:∀d,(fin d).safe->oq (fin d) i o.dst σ (σ.upd i o.dst fp d [] []))
    (dA:∀c d,fin d=A->c.length=q.2.1->(Instr.lookup t (a.eval x) (fJ q.1 c) ok).run P w=.ok (zbG q ok (F c)) w) :
    jo P nt B w0 h0 r n i o A σ a w Q:=by
  unfold found at hA;split at hA
  · rename_i c hc;obtain⟨QI,Aq⟩:=zho hc lU (S.ev y);split at hA
    · rename_i d hdv;have hvd:=zwm (g:=g) hdv;have Am:=Vx hdv;cases ok with
      | true =>
        have hr:=dA c _ hA Aq;subst hA;refine dO S hd (by simp[bu]) (d:=.tup [d,.c (.p (.bool (F c).isSome))]) (v:=zbG q true (F c)) (fp:=fp) (Fb _ hs) ?_ ?_ ?_
        · simp only[execOp,bu,QI,Sem.run_bind,hr,Result.andThen_ok,Sem.run_pure]
        · exact⟨[_,_],rfl,hvd,.bool _,trivial⟩
        · intro M hM;rw[show df (.tup [d,.c (.p (.bool (F c).isSome))])=dE d++([]++[])from rfl,Am]at hM;simp at hM
      | false =>
        have hr:=dA c _ hA Aq;subst hA;refine dO S hd (by simp[bu]) (d:=.one d) (v:=zbG q false (F c)) (fp:=fp) (Fb _ hs) ?_ hvd ?_
        · simp only[execOp,bu,QI,Sem.run_bind,hr,Result.andThen_ok,Sem.run_pure]
        · intro M hM;simp[df,Am]at hM
    · subst hA;exact hs.elim
  · subst hA;exact hs.elim
theorem Zv{o:Oper}{t:TypeId}{x y:Operand}{ok:Bool}{A:aC}(S:cO P nt B w0 h0 g σ a w)(hd:dJ nt o.dst=true)(bu:o.op = .lookup t x y ok)
    (hA:JI P t (fU σ.env x) (fU σ.env y) ok (lk σ.aB)=A) (hs:A.safe):jo P nt B w0 h0 r n i o A σ a w Q:=by
  unfold JI at hA;split at hA
  · rename_i kt vt L hu hx;split at hA
    · rename_i q kt' vt' q' k F hE hL;split at hA
      · rename_i dC;obtain⟨rfl,rfl,rfl⟩:=dC;have E:=Rx hE;obtain⟨xQ,_⟩:=iJ S hx;have xQ:a.eval x=.map (some (oW (g.sv L))):=xQ;obtain⟨es,clock,xO,_,hm⟩:=S.obj L _ hL;exact zdN (fp:=[(L,false)]) S hd bu hA hs (Je E.key) (λd _=>rfl) λc d _ hc=>by rw[xQ];exact Zu hu hE xO hm hc
      · subst hA;exact hs.elim
    · subst hA;exact hs.elim
  · subst hA;exact hs.elim
theorem PW{c:List Int}(v:List Int):∀{en:List (List Int×List Int)},nO c en=none→∀c',nO c' (en++[(c,v)])=if c'=c then some v else nO c' en
  | [],_,c'=>by
    simp only[Pg,nO];by_cases h:c=c'
    · subst h;simp
    · rw[fB h,fB (λe=>h e.symm)]
  | (k,u)::r,hn,c'=>by
    simp only[nO]at hn;split at hn
    · cases hn
    · rename_i hkc;simp only[qdZ,nO];by_cases h:k=c'
      · subst h;rw[eX rfl,eX rfl,fB hkc]
      · rw [fB h,fB h];exact PW v hn c'
theorem PX {c v v' : List Int} : ∀ {en : List (List Int × List Int)} {j : Nat}, (en.map (·.1)).Nodup → en[j]? = some (c, v) → ∀ c', nO c' (en.set j (c, v')) = if c' = c then some v' else nO c' en
  | [],j,_,h,_=>by simp at h
  | (k,u)::r,j,hn,h,c'=>by
    simp only[oU,qdu]at hn;cases j with
    | zero =>
      simp only[qdM,bW,gy]at h;obtain⟨rfl,rfl⟩:=h;simp only[List.set_cons_zero,nO];by_cases h:k=c'
      · subst h;simp
      · rw[fB h,fB (λe=>h e.symm),fB h]
    | succ j =>
      simp only[Y9]at h;have hkc:k≠c:=λe=>hn.1 (xR.2 ⟨_,JB h,e.symm⟩);simp only[List.set_cons_succ,nO];by_cases h2:k=c'
      · subst h2;rw[eX rfl,eX rfl,fB hkc]
      · rw [fB h2,fB h2];exact PX hn.2 h c'
theorem zbH(c v:List Int)(F:List Int->Option (List Int))(x:List Int):IG c v F x=if x=c then some v else F x:=by
 unfold IG;by_cases h:x=c<;>simp[h]
theorem FD:∀{ks:List (Option IntKind)}{cs:List Cl}{l:List Int},uU ks cs=some l→l.length=ks.length
  | [],[],l,h=>by simp[uU]at h;subst h;rfl
  | [],_::_,l,h=>by simp[uU]at h
  | k::ks,[],l,h=>by cases k<;>simp[uU]at h
  | k::ks,c::cs,l,h=>by
    unfold uU at h;split at h
    · rename_i e1 e2;cases e1
    · rename_i k' ks' k2 x r e1 e2;simp only[GZ] at e1 e2;obtain⟨rfl,rfl⟩:=e1;obtain⟨rfl,rfl⟩:=e2;split at h
      · split at h
        · rename_i l' zY;simp only[bW]at h;subst h;simp[FD zY]
        · cases h
      · cases h
    · rename_i ks' b r e1 e2;simp only[GZ] at e1 e2;obtain⟨rfl,rfl⟩:=e1;obtain⟨rfl,rfl⟩:=e2;split at h
      · rename_i l' zY;simp only[bW]at h;subst h;simp[FD zY]
      · cases h
    · cases h
theorem zdO{t kt vt b:Nat}{q:MQ}{F:List Int→Option (List Int)}{k:Nat}{es:Array MapEntry}{clock:Nat}(hu:P.underlying t=some (.map kt vt))(E0:JH P kt vt=some q)
    (xO:w.heap[b]? = some (.map es clock)) (hm:moE q k F es clock) {c:List Int} (hc:c.length=q.2.1) (l:List Int) (hll:l.length=q.2.2.2.length) :
    ∃es' BQ,(Instr.mapUpdate t (.map (some b)) (fJ q.1 c) (lX q.2.2.1 q.2.2.2 (some l))).run P w=.ok () {w with heap:=w.heap.setIfInBounds b (.map es' BQ)}/\moE q (addN (F c) k) (IG c l F) es' BQ:=by
  obtain⟨ag,m,yx,ks⟩:=q;obtain⟨en,h1',h2',hen,hl,hn,hF,jO,hbo,hbn⟩:=hm;simp only at h1' h2' hen hl hn hF hc hll ⊢;have E:=Vy E0;have hck:=PU (P:=P) (w:=w) false E.key hc;rcases zbF (w:=w) E hen (λx hx=>(hl x hx).1) hn hc with⟨h1,h2,h3⟩|⟨j,e,v,h1,h2,h3,h4,h5⟩
  · refine ⟨es.push { key := fJ ag c, val := lX yx ks (some l), born := clock }, clock + 1, ?_, en ++ [(c, l)], h1', h2', ?_, ?_, ?_, ?_, ?_, ?_, ?_⟩
    · simp only[Instr.mapUpdate,Sem.run_bind,run_underlying hu,Result.andThen_ok,MapKept.run_getObj_map xO,hck,h1,MapKept.run_setObj_map _ xO]
    · rw[jqz,QQ,hen,QQ];rfl
    · intro x hx;rcases dU.1 hx with hx | hx
      · exact hl x hx
      · simp only[mg]at hx;subst hx;exact⟨hc,hll⟩
    · rw [QQ,qj7];refine⟨hn,by simp,λa ha b hb e=>?_⟩;simp only[oU,qd3,mg]at hb;obtain⟨x,hx,hxa⟩:=xR.1 ha;exact h3 x hx (by rw[hxa,e,hb])
    · intro c' hc';rw[zbH,PW l h2,hF c' hc']
    · rw[hF c hc,h2,jO];simp[addN]
    · intro x hx;rw[jqz] at hx;rcases dU.1 hx with hx | hx
      · exact Nat.lt_succ_of_lt (hbo x hx)
      · simp only[mg]at hx;subst hx;exact Nat.lt_succ_self _
    · rw [jqz,QQ,qj7];refine⟨hbn,by simp,λa ha b hb e=>?_⟩;simp only[oU,qd3,mg]at hb;obtain⟨x,hx,hxa⟩:=xR.1 ha;have:=hbo x hx;omega
  · have zlI:(es.modify j λe=>{e with key:=fJ ag c,val:=lX yx ks (some l)}).toList=es.toList.set j {e with key:=fJ ag c,val:=lX yx ks (some l)}:=by
      rw[Array.toList_modify];have h2':es.toList[j]? = some e:=by simpa using h2
      obtain⟨hj,he⟩:=AY.1 h2';apply qdq;intro q;rw[List.getElem?_modify,qj6];by_cases hq:j=q
      · subst hq;rw[h2'];have qI:j < es.size:=by simpa using hj
        simp[qI]
      · simp[hq]
    have zXc:es.toList.map (λe=>(e.key,e.val))=en.map (λx=>(fJ ag x.1,lX yx ks (some x.2))):=hen;refine⟨es.modify j λe=>{e with key:=fJ ag c,val:=lX yx ks (some l)},clock,?_,en.set j (c,l),h1',h2',?_,?_,?_,?_,?_,?_,?_⟩
    · have zXA : ((es[j]?).map (·.key)).getD (fJ ag c) = fJ ag c := by rw [h2]; simp [h4]
      have Fb:(Instr.keyThatStays (fJ ag c) (fJ ag c)).run P w=.ok (fJ ag c) w:=by
        simp[Instr.keyThatStays,Zt]
      simp only[Instr.mapUpdate,Sem.run_bind,run_underlying hu,Result.andThen_ok,MapKept.run_getObj_map xO,hck,h1,zXA,Fb,MapKept.run_setObj_map _ xO]
    · rw[zlI,jqF,jqF,zXc]
    · intro x hx;rcases qdn hx with hx | rfl
      · exact hl x hx
      · exact⟨hc,hll⟩
    · rw [jqF];rw[show (en.map (·.1)).set j c=en.map (·.1) from ?_]
      · exact hn
      · have : (en.map (·.1))[j]? = some c := by simp [h3]
        obtain⟨hj,he⟩:=AY.1 this;apply qdq;intro q;rw[qj6];by_cases hq:j=q
        · subst hq;rw[this];simp;simpa using hj
        · simp[hq]
    · intro c' hc';rw[zbH,PX hn h3,hF c' hc']
    · rw[hF c hc,h5,List.length_set,jO];rfl
    · intro x hx;rw[zlI] at hx;rcases qdn hx with hx | rfl
      · exact hbo x hx
      · exact hbo e (JB (by simpa using h2))
    · rw [zlI, jqF];rw[show (es.toList.map (·.born)).set j e.born=es.toList.map (·.born) from ?_]
      · exact hbn
      · have : (es.toList.map (·.born))[j]? = some e.born := by simp [h2]
        obtain⟨hj,he⟩:=AY.1 this;apply qdq;intro q;rw[qj6];by_cases hq:j=q
        · subst hq;rw[this];simp;simpa using hj
        · simp[hq]
theorem zdP{o:Oper}{t:TypeId}{x y z:Operand}{A:aC}(S:cO P nt B w0 h0 g σ a w)(hd:dJ nt o.dst=true)(bu:o.op = .mapUpdate t x y z)
    (hA:U1 P t (fU σ.env x) (fU σ.env y) (fU σ.env z) (lk σ.aB)=A) (hs:A.safe):jo P nt B w0 h0 r n i o A σ a w Q:=by
  unfold U1 at hA;split at hA
  · rename_i kt vt L hu hx;split at hA
    · rename_i q kt' vt' q' k F hE hL;split at hA
      · rename_i c dv hc hz;split at hA
        · rename_i l hl;split at hA
          · rename_i dC;obtain⟨rfl,rfl,rfl,uP⟩:=dC;subst hA;have E:=Rx hE;obtain⟨xQ,_⟩:=iJ S hx;have xQ:a.eval x=.map (some (oW (g.sv L))):=xQ;obtain⟨QI,Aq⟩:=zho hc (Je E.key) (S.ev y);have GM:a.eval z=lX q'.2.2.1 q'.2.2.2 (some l):=znr hl uP (by have:=S.ev z;rw[hz] at this;exact this);obtain⟨es,clock,xO,_,hm⟩:=S.obj L _ hL;obtain⟨es',BQ,dA,IZ⟩:=zdO (P:=P) hu hE xO hm Aq l (FD hl);have iC:=(UV.1 xO).1;have hB:=(S.own L _ (oW (g.sv L)) hL rfl).1;refine Jb (by simp[bu]) (w':={ w with heap:=w.heap.setIfInBounds (oW (g.sv L)) (.map es' BQ) }) ?_ ⟨g,_,rfl,?_⟩
            · simp only[execOp,bu,xQ,QI,GM,Sem.run_bind,dA,Result.andThen_ok,Sem.run_pure]
            · rw [gm];have qU:∀ b,¬ (oW (g.sv L)=b)->(w.heap.setIfInBounds (oW (g.sv L)) (Obj.map es' BQ))[b]? = w.heap[b]?:=λ b hb=>by rw[qji,fB hb]
              have S' := S.write (o' := .mo kt' vt' q' (addN (F c) k) (IG c l F)) (w' := { w with heap := w.heap.setIfInBounds (oW (g.sv L)) (.map es' BQ) }) hL (fun b hb => hb)
                (CV hB (by simp) (λq hq=>qU q λe=>hq e.symm) rfl rfl rfl rfl) (λb hb=>qU b hb)
                ⟨es',BQ,by show(w.heap.setIfInBounds (oW (g.sv L)) _)[oW (g.sv L)]? = _;simp[iC],hE,IZ⟩ (λM hM=>by simp[dR]at hM)
              exact S'.put (d:=.junk) hd trivial (λM hM=>by simp[df,dE,bD]at hM) _
          · subst hA;exact hs.elim
        · subst hA;exact hs.elim
      · subst hA;exact hs.elim
    · subst hA;exact hs.elim
  · subst hA;exact hs.elim
theorem cO.newMo(S:cO P nt B w0 h0 g σ a w){t kt vt:Nat}{q:MQ}(ht:lk σ.aB t=none)(hE:JH P kt vt=some q) :
  cO P nt B w0 h0 (g.setSv t (.map (some w.heap.size))) {σ with aB:=(t,.mo kt vt q 0 (λ_=>none))::σ.aB} a (w.alloc (.map #[] 0)):=by
 have ja:∀L o,lk σ.aB L=some o->L≠t:=λL o h e=>by subst e;rw[ht]at h;cases h
 have fF:∀L o,lk σ.aB L=some o->jb g (g.setSv t (.map (some w.heap.size))) L:=λL o h=>⟨rfl,by simp[Gh.setSv,ja L o h],rfl⟩;have hold:∀b,b<w.heap.size->(w.alloc (.map #[] 0)).heap[b]? = w.heap[b]?:=λb hb=>heap_alloc_old w _ b hb;have kD:∀L o,lk ((t,AO.mo kt vt q 0 (λ_=>none))::σ.aB) L=some o->(L=t/\o=.mo kt vt q 0 (λ_=>none))\/(L≠t/\lk σ.aB L=some o):=by
  intro L o h;rw[aZ]at h;split at h
  ·rename_i e;simp at h;exact .inl ⟨e.symm,h.symm⟩
  ·rename_i e;exact .inr ⟨λe'=>e e'.symm,h⟩
 have iE:∀L o b,lk σ.aB L=some o->gW (g.setSv t (.map (some w.heap.size))) L o b->gW g L o b:=λL o b ho dh=>Eq.mp (jqw (gJ (fF L o ho)) _) dh;refine S.change (g':=g.setSv t (.map (some w.heap.size))) fF (λ_ _ h=>h) ?_ (λb o h=>.inl h) (xJ.of ⟨(Below.refl B w).alloc S.bs _,kC _⟩) ?_ ?_ ?_ ?_ ?_
 ·exact S.hw.same λb o h=>hold b (vg S.hw h)
 ·intro L o ho;rcases kD L o ho with ⟨rfl,rfl⟩ | ⟨_,ho⟩
  ·have E:=Rx hE;exact⟨#[],0,by rw[show oW ((g.setSv L (.map (some w.heap.size))).sv L)=w.heap.size by simp[Gh.setSv,oW]];exact heap_alloc_new w _,hE,[],Je E.key,E.one,rfl,λx hx=>by simp at hx,qj2,λc _=>rfl,rfl,λe he=>by simp at he,by simp⟩
  ·refine jS (S.obj L o ho) (fF L o ho) (fun M hM => ?_) (fun _ _ h=>h) (fun b dh=>hold b (iI (S.obj L o ho) dh));obtain⟨o',kQ⟩:=S.clO L o ho M hM;exact fF M o' kQ
 ·intro L o b ho dh;rcases kD L o ho with ⟨rfl,rfl⟩ | ⟨_,ho⟩
  ·simp [gW,Gh.setSv,oW]at dh;subst dh;refine⟨S.bs,?_⟩;cases hh:g.h w.heap.size with
   | none=>exact hh
   | some x=>exact absurd (vg S.hw hh) omY
  ·exact S.own L o b ho (iE L o b ho dh)
 ·intro L o b L' o' ho kQ dh iy;rcases kD L o ho with ⟨rfl,rfl⟩ | ⟨hn,nV⟩ <;> rcases kD L' o' kQ with ⟨rfl,rfl⟩ | ⟨hn',nJ⟩
  ·rfl
  ·simp [gW,Gh.setSv,oW]at dh;subst dh;exact absurd (iI (S.obj L' o' nJ) (iE _ _ _ nJ iy)) omY
  ·simp [gW,Gh.setSv,oW]at iy;subst iy;exact absurd (iI (S.obj L o nV) (iE _ _ _ nV dh)) omY
  ·exact S.sep L o b L' o' nV nJ (iE _ _ _ nV dh) (iE _ _ _ nJ iy)
 ·intro L o ho;refine⟨o,?_⟩;rw[aZ,fB (λe=>ja L o ho e.symm)];exact ho
 ·intro L o ho M hM;have fin:∀ M o,lk σ.aB M=some o->∃ o',lk ((t,AO.mo kt vt q 0 (λ _=>none)) :: σ.aB) M=some o':=λ M o h=>⟨o,by rw[aZ,fB (λ e=>ja M o h e.symm)];exact h⟩;rcases kD L o ho with ⟨rfl,rfl⟩ | ⟨_,ho⟩
  ·simp[dR]at hM
  ·obtain⟨o',kQ⟩:=S.clO L o ho M hM;exact fin M o' kQ
theorem Zw{o:Oper}{t kt vt:TypeId}{q:MQ}{A:aC}(S:cO P nt B w0 h0 g σ a w)(hd:dJ nt o.dst=true)(bu:o.op = .makeMap t none)(hE:JH P kt vt=some q)
    (hA:Fg (lk σ.aB) o.dst (.mo kt vt q 0 (λ_=>none)) (λt=>.cl (.mo t))=A) (hs:A.safe):jo P nt B w0 h0 r n i o A σ a w Q:=by
  unfold Fg at hA;split at hA
  · rename_i L hL;split at hA
    · rename_i kD;subst hA;have S':=S.newMo (kt:=kt) (vt:=vt) kD hE;refine pV (by simp[bu]) (v:=.map (some w.heap.size)) (w':=w.alloc (.map #[] 0)) ?_ ⟨g.setSv L (.map (some w.heap.size)),_,rfl,?_⟩
      · simp[execOp,bu,Instr.makeMap]
      · rw [gm];refine S'.put (σ:={ σ with aB:=(L,AO.mo kt vt q 0 (λ _=>none)) :: σ.aB }) hd (d:=.cl (.mo L)) ?_ ?_ _
        · simp[rH,AA,jg,Gh.setSv,oW]
        · intro M hM;simp[df,dE,bD]at hM;subst hM;exact⟨_,by rw[aZ,eX rfl]⟩
    · subst hA;exact hs.elim
  · subst hA;exact hs.elim
end
end Go.Pm
namespace Go.Pm
variable [aJ]
open Go.RowKit (Below)
section
variable{P:Program}{Γ:bU}{nt B:Nat}{w0:World}{h0:Fz}{g:Gh}{σ:St}{a:Act}{w:World}{r:Option Nat}{n i:Nat}{Q:Exit->Act->World->Prop}
theorem zhp{h:Fz}{n s l k:Nat}{get:Nat→List PV}{v:Value}(hr:Rep h (.sl n s get) v)(hl:l≤k)(hk:k≤n) :
  ∃a len cap,v=.slice a len cap/\len=n/\len<=cap/\Rep h (.sl (k-l) s (slG get l)) (sliced a l k cap s):=by
 have hu:ut get:=hr.un.rows.2;cases hr with
 | sl0=>exact⟨none,0,0,rfl,rfl,kC _,by
   obtain rfl:k=0:=by omega
   obtain rfl:l=0:=by omega
   exact .sl0 _ _ (wE hu _)⟩
 | sle _ _ a cap=>exact⟨some a,0,cap,rfl,rfl,Cf _,by
   obtain rfl:k=0:=by omega
   obtain rfl:l=0:=by omega
   unfold sliced;split
   ·exact .sle _ _ _ _ (wE hu _)
   ·exact .sle _ _ _ _ (wE hu _)⟩
 | sl _ _ _ _ b o cap C ty fr vs hb kE hlen hc hr =>
  refine⟨_,n,cap,rfl,rfl,kE,?_⟩;unfold sliced;by_cases hkl:k-l=0
  ·rw [hkl];split
   ·exact .sle _ _ _ _ (wE hu _)
   ·exact .sle _ _ _ _ (wE hu _)
  ·rw [fB omY];simp only[QU,addr_add];refine .sl (k-l) s (slG get l) (wE hu _) b (o+l*s) (cap-l) C ty fr (λi=>vs (i+l)) hb omY (λi hi=>hlen (i+l) omY) (λi j x hi hj=>?_) (λi j x hi hj=>hr (i+l) j x omY hj);have:=hc (i+l) j x omY hj;rw[Nat.add_mul]at this;rw[show o+l*s+i*s+j=o+(i*s+l*s)+j by omega];exact this
theorem Vz(S:cO P nt B w0 h0 g σ a w){x:Option Operand}{j:Option Int}(h:Ff (fU σ.env) x=some j):(j=none/\x.map a.eval=none)\/∃k q,j=some q/\x.map a.eval=some (.int k q):=by
 cases x with
 | none=>simp only[Ff,bW]at h;exact .inl ⟨h.symm,rfl⟩
 | some x =>
  simp only[Ff]at h;split at h
  ·rename_i k q hx;simp only[bW]at h;exact .inr ⟨k,q,h.symm,by rw[QU,kw S hx]⟩
  ·cases h
theorem zdQ{o:Oper}{t:TypeId}{x:Operand}{lo hi:Option Operand}{A:aC}(S:cO P nt B w0 h0 g σ a w)(hd:dJ nt o.dst=true)(bu:o.op = .slice t x lo hi none)
    (hA:CB P t (fU σ.env x) (Ff (fU σ.env) lo) (Ff (fU σ.env) hi)=A) (hs:A.safe):jo P nt B w0 h0 r n i o A σ a w Q:=by
  unfold CB at hA;split at hA
  · rename_i e m s get lo' kN hu hx hlo hhi;split at hA
    · rename_i q hq;split at hA
      · rename_i hb;have hsq:=kL hb;subst hsq;subst hA;obtain⟨h1,h2,h3⟩:0<=lo'.getD 0/\lo'.getD 0<=kN.getD (m:Int)/\kN.getD (m:Int)<=(m:Int):=hs;have hv:=jF S hx;obtain⟨ad,len,cap,hav,hlen,kE,hr⟩:=zhp (l:=(lo'.getD 0).toNat) (k:=(kN.getD (m:Int)).toNat) hv omY omY;subst hlen;have hue:P.underlying t=some (.slice (P.elem t)):=by simp[Program.elem,hu]
        have GR:P.elem t=e:=by simp[Program.elem,hu]
        have jO:=run_sizeOf (w:=w) hq;have dA:(Instr.slice t (a.eval x) (lo.map a.eval) (hi.map a.eval) none).run P w=.ok (sliced ad (lo'.getD 0).toNat (kN.getD (len:Int)).toNat cap s) w:=by
          rw[hav,run_slice_any w t ad len cap hue,GR];have hb:(Instr.sliceBounds true len cap (lo.map a.eval) (hi.map a.eval) none).run P w=.ok ((lo'.getD 0).toNat,(kN.getD (len:Int)).toNat,cap) w:=by
            rcases Vz S hlo with⟨rfl,e1⟩|⟨k1,q1,rfl,e1⟩<;>rcases Vz S hhi with⟨rfl,e2⟩|⟨k2,q2,rfl,e2⟩<;>rw[e1,e2]<;>simp only[qd0,Option.getD_none]at h1 h2 h3 ⊢
            · simp[Instr.sliceBounds]
            · simp[Instr.sliceBounds,run_sliceBound w k2 q2 cap _ omY omY]
            · simp[Instr.sliceBounds,run_sliceBound w k1 q1 len _ omY omY]
            · simp[Instr.sliceBounds,run_sliceBound w k2 q2 cap _ omY omY,run_sliceBound w k1 q1 q2.toNat _ omY omY]
          rw[hb];simp only[Result.andThen_ok,jO]
        refine dO S hd (by simp[bu]) (d:=.p (.sl (kN.getD (len:Int)-lo'.getD 0).toNat s (slG get (lo'.getD 0).toNat))) (v:=sliced ad (lo'.getD 0).toNat (kN.getD (len:Int)).toNat cap s) (fp:=[]) rfl ?_ ?_ (kH _)
        · simp[execOp,bu,Instr.sliceAt,run_underlying hu,dA]
        · rw [show(kN.getD (len:Int)-lo'.getD 0).toNat=(kN.getD (len:Int)).toNat-(lo'.getD 0).toNat by omega];exact hr
      · subst hA;exact hs.elim
    · subst hA;exact hs.elim
  · subst hA;exact hs.elim
end
end Go.Pm
namespace Go.Pm
variable [aJ]
open Go.RowKit (Below)
section
variable{P:Program}{Γ:bU}{nt B:Nat}{w0:World}{h0:Fz}{g:Gh}{σ:St}{a:Act}{w:World}{r:Option Nat}{n i:Nat}{Q:Exit->Act->World->Prop}
theorem cO.newObj(S:cO P nt B w0 h0 g σ a w){t:Nat}{o:AO}{g':Gh}{w':World}(ht:lk σ.aB t=none)(hh:g'.h=g.h)(hs:∀M,M≠t→jb g g' M)
    (hb:J3 B w w') (hold:∀b,b<w.heap.size->w'.heap[b]? = w.heap[b]?) (hv:∀b,gW g' t o b->w.heap.size<=b) (Am:dR o=[]) (hr:NZ P g' w' B t o) :
    cO P nt B w0 h0 g' {σ with aB:=(t,o)::σ.aB} a w':=by
  have ja:∀L o,lk σ.aB L=some o->L≠t:=λL o h e=>by subst e;rw[ht]at h;cases h
  have fF:∀L o,lk σ.aB L=some o->jb g g' L:=λL o h=>hs L (ja L o h);have kD:∀L x,lk ((t,o)::σ.aB) L=some x->(L=t/\x=o)\/(L≠t/\lk σ.aB L=some x):=by
    intro L x h;rw[aZ]at h;split at h
    · rename_i e;simp at h;exact .inl ⟨e.symm,h.symm⟩
    · rename_i e;exact .inr ⟨λe'=>e e'.symm,h⟩
  have iE:∀L o b,lk σ.aB L=some o->gW g' L o b->gW g L o b:=λL o b ho dh=>Eq.mp (jqw (gJ (fF L o ho)) _) dh;have hle:jV g.h g'.h:=by rw[hh];exact λ_ _ h=>h
  refine S.change (g':=g') fF hle ?_ (λb o h=>by rw[hh]at h;exact .inl h) (.of hb) ?_ ?_ ?_ ?_ ?_
  · rw[hh];exact S.hw.same λb o h=>hold b (vg S.hw h)
  · intro L x hx;rcases kD L x hx with ⟨rfl,rfl⟩ | ⟨_,hx⟩
    · exact hr
    · refine jS (S.obj L x hx) (fF L x hx) (fun M hM => ?_) hle (fun b dh=>hold b (iI (S.obj L x hx) dh));obtain⟨o',kQ⟩:=S.clO L x hx M hM;exact fF M o' kQ
  · intro L x b' hx dh;rcases kD L x hx with ⟨rfl,rfl⟩ | ⟨_,hx⟩
    · have h1:=hv b' dh;refine⟨EW S.bs h1,?_⟩;rw[hh];cases hq:g.h b' with
      | none=>rfl
      | some x=>exact absurd (vg S.hw hq) omY
    · rw[hh];exact S.own L x b' hx (iE L x b' hx dh)
  · intro L x b' L' x' hx yB dh iy;rcases kD L x hx with ⟨rfl,rfl⟩ | ⟨hn,OU⟩ <;> rcases kD L' x' yB with ⟨rfl,rfl⟩ | ⟨hn',Zn⟩
    · rfl
    · have:=hv b' dh;exact absurd (iI (S.obj L' x' Zn) (iE _ _ _ Zn iy)) omY
    · have:=hv b' iy;exact absurd (iI (S.obj L x OU) (iE _ _ _ OU dh)) omY
    · exact S.sep L x b' L' x' OU Zn (iE _ _ _ OU dh) (iE _ _ _ Zn iy)
  · intro L o ho;refine⟨o,?_⟩;rw[aZ,fB (λe=>ja L o ho e.symm)];exact ho
  · intro L x hx M hM;rcases kD L x hx with ⟨rfl,rfl⟩ | ⟨_,hx⟩
    · rw[Am]at hM;simp at hM
    · obtain⟨o',kQ⟩:=S.clO L x hx M hM;exact⟨o',by rw[aZ,fB (λe=>ja M o' kQ e.symm)];exact kQ⟩
theorem PY{z:Array Value}{s m i:Nat}(hz:z.size=s)(hi:i<m):((madeCells z (m*s)).toList.drop (i*s)).take s=z.toList:=by
 have hii:i*s+s<=m*s:=by have:=QX s (qdw hi);rw[Ur]at this;exact this
 apply qdq;intro j;rw[I4];split
 ·rename_i hj;rw[qdr];have:(madeCells z (m*s)).toList[i*s+j]? = some z[(i*s+j)%z.size]!:=by
   simp only[madeCells,qjM,qdc];rw[Array.toList_range,qjv omY];rfl
  rw[this,hz,qdV i s,jqO,jqJ hj];have qI:j<z.size:=by omega
  simp[qI]
 ·rename_i hj;rw[qdt (by simp;omega)]
theorem Oy{o:Oper}{t:TypeId}{x y:Operand}{A:aC}(S:cO P nt B w0 h0 g σ a w)(hd:dJ nt o.dst=true)(bu:o.op = .makeSlice t x y)
    (hA:tH P Γ t (fU σ.env x) (fU σ.env y) o.dst (lk σ.aB)=A) (hs:A.safe):jo P nt B w0 h0 r n i o A σ a w Q:=by
  unfold tH at hA;split at hA
  · rename_i e k1 j k2 j2 dst hu hx hy GL;split at hA
    · rename_i ie z hi hz ig;obtain⟨i',zv,hi2,GM,hov,hlen⟩:=lS hz;rw[hi] at hi2;simp only[bW] at hi2;subst hi2;have Ak:zv.cells.size=ie.size:=by have:=(kP (g:=g) _ _ hov).length;simp at this;omega
      have xQ:=kw S hx;have QI:=kw S hy
      have made:∀(hs:0<=j/\j=j2/\j<=1000000)(zD:ie.bytes<=1000000),∃w',(execOp a.eval o).run P w=.ok (.value (.slice (some ⟨w.heap.size,0,none⟩) j.toNat j.toNat)) w' /\
          w'.ownsRow B e ie.size (.slice (some ⟨w.heap.size,0,none⟩) j.toNat j.toNat) j.toNat (madeCells zv.cells (j.toNat*ie.size)).toList/\J3 B w w'/\∀b,b<w.heap.size->w'.heap[b]? = w.heap[b]?:=by
        intro hs zD;obtain⟨h0,rfl,h1⟩:=hs;have hj:j=((j.toNat:Nat):Int):=by omega
        have hmul:ie.bytes*j.toNat<=281474976710656:=EW (qjH zD (show j.toNat<=1000000 by omega)) (by decide);obtain⟨w',hr,jd,hg⟩:=run_make_full (P:=P) w B t e ie zv ie.size hu hi GM rfl k1 k2 j.toNat hmul (by simp only[maxLen];omega) S.bs;refine⟨w',?_,jd,⟨⟨hg.os,hg.tape,hg.output,hg.size,λk hk=>hg.block k (qdF hk S.bs) (by simp)⟩,JZ (gK _ _ _ _ hr)⟩,λb hb=>hg.block b hb (by simp)⟩;rw[<- hj]at hr;simp only[execOp,bu,xQ,QI,Sem.run_bind,hr,Result.andThen_ok,Sem.run_pure]
      split at hA
      · split at hA
        · rename_i e2 hue;split at hA
          · rename_i i2 z2 zEN zKl dC;simp only[gG,Uz] at dC;have hs1:=kL dC.1;split at hA
            · rename_i l2 hl2 Us;have zhq:0 < i2.size:=qj8 (qd7 Us);subst hA;obtain⟨w',dA,jd,su,hold⟩:=made hs dC.2;obtain⟨i3,zv2,hi3,zPH,zPI,z1O⟩:=lS zKl;rw[zEN] at hi3;simp only[bW] at hi3;subst hi3;have zwo:zv2.cells.size=i2.size:=by have:=(kP (g:=g) _ _ zPI).length;simp at this;omega
              have l9:(g.setVv dst (.slice (some ⟨w.heap.size,0,none⟩) j.toNat j.toNat) (λ_=>.slice none 0 0)).sv dst=.slice (some ⟨w.heap.size,0,none⟩) j.toNat j.toNat:=by simp[Gh.setVv]
              have hiv:(g.setVv dst (.slice (some ⟨w.heap.size,0,none⟩) j.toNat j.toNat) (λ_=>.slice none 0 0)).iv dst=λ_=>.slice none 0 0:=by simp[Gh.setVv]
              have hz1:zv.cells.toList=[.slice none 0 0]:=by
                match hl:zv.cells.toList,hov with
                | [],h=>simp[jC]at h
                | [v],h =>
                  simp only[jC]at h;split at h
                  · rename_i x' l' h1 h2;simp only[bW]at h2;subst h2;simp only[bW,GZ,Cl.p.injEq,jqM]at h;subst h;unfold wC at h1;split at h1<;>simp at h1;rfl
                  · cases h
                | v::u::l,h =>
                  simp only[jC]at h;split at h
                  · rename_i x' l' h1 h2;simp only[bW,GZ] at h;obtain⟨_,rfl⟩:=h;split at h2
                    · simp at h2
                    · cases h2
                  · cases h
              have S2 := S.newObj (t := dst) (o := .vv e ie.bytes e2 i2.size i2.bytes j.toNat (fun _ => 0) (fun _ _ => l2)) (g' := g.setVv dst (.slice (some ⟨w.heap.size, 0, none⟩) j.toNat j.toNat) (fun _ => .slice none 0 0)) (w' := w')
                ig rfl (λM hM=>⟨rfl,by simp[Gh.setVv,hM],by simp[Gh.setVv,hM]⟩) su hold (λb hb=>by
                  rcases hb with hb|⟨i,_,hb⟩
                  · rw[l9]at hb;simp only[Value.ownBlock,bW]at hb;omega
                  · rw[hiv]at hb;cases hb) rfl (by
                refine⟨⟨λ_ _ _ _=>I9 zKl hl2,zhq⟩,⟨ie,zv,hi,hs1,rfl,GM,by rw[Ak,hs1]⟩,⟨i2,zv2,zEN,rfl,rfl,zPH,zwo⟩,?_,λi kN=>?_,λi k _ h=>?_⟩
                rotate_left
                · rw[hiv];exact⟨rfl,λ_=>rfl,[],World.ownsRow_nil _ _ _ _,λ_ h=>absurd h (UW _)⟩
                · rw[hiv]at h;cases h
                rw[l9,hiv];rw[hs1]at jd;have:(madeCells zv.cells (j.toNat*1)).toList=(List.range j.toNat).map λ_=>Value.slice none 0 0:=by
                  apply qdq;intro q;by_cases hq:q<j.toNat
                  · have h1:=PY (z:=zv.cells) (s:=1) (by rw [Ak,hs1]) hq;have h2:=jX (λl=>l[0]?) h1;simp only[I4,qdr]at h2;rw[eX (by decide)]at h2;simp only[jqq,qjd]at h2;rw[jqq,h2,hz1];simp[hq]
                  · rw[qdt (by simp[madeCells];omega),qdt (by simp;omega)]
                rw[this]at jd;exact jd)
              refine pV (by simp[bu]) dA ⟨g.setVv dst (.slice (some ⟨w.heap.size,0,none⟩) j.toNat j.toNat) (λ_=>.slice none 0 0),_,rfl,?_⟩;rw[gm];refine S2.put (v:=.slice (some ⟨w.heap.size,0,none⟩) j.toNat j.toNat) hd (d:=.cl (.vec dst)) ⟨l9.symm,rfl⟩ ?_ _;intro M hM;simp[df,dE,bD]at hM;subst hM;exact⟨_,by rw[aZ,eX rfl]⟩
            · subst hA;exact hs.elim
          · subst hA;exact hs.elim
        · subst hA;exact hs.elim
      · split at hA
        · rename_i l hl;split at hA
          · rename_i dC;simp only[gG,Uz] at dC;subst hA;obtain⟨w',dA,jd,su,hold⟩:=made hs dC.2;have l9:(g.setSv dst (.slice (some ⟨w.heap.size,0,none⟩) j.toNat j.toNat)).sv dst=.slice (some ⟨w.heap.size,0,none⟩) j.toNat j.toNat:=by simp[Gh.setSv]
            have nT:=kP (g:=g) _ _ hov;rw[oz hl]at nT;have nT:=RL.map_left.1 nT
            have S2 := S.newVec (t := dst) (w' := w') (e := e) (s := ie.size) (b := ie.bytes) (n := j.toNat) (get := fun _ => Ag P e l) (v := .slice (some ⟨w.heap.size, 0, none⟩) j.toNat j.toNat) ig su hold
              (λb hb=>by simp[Value.ownBlock]at hb;omega) ⟨⟨JR (yJ (uX nT)),omY⟩,⟨ie,zv,hi,rfl,rfl,GM,Ak⟩,_,by rw[l9];exact jd,λi kN=>by rw[PY Ak kN];exact uX nT⟩
            refine pV (by simp[bu]) dA ⟨g.setSv dst (.slice (some ⟨w.heap.size,0,none⟩) j.toNat j.toNat),_,rfl,?_⟩;rw[gm];refine S2.put (v:=.slice (some ⟨w.heap.size,0,none⟩) j.toNat j.toNat) hd (d:=.cl (.vec dst)) ⟨l9.symm,rfl⟩ ?_ _;intro M hM;simp[df,dE,bD]at hM;subst hM;exact⟨_,by rw[aZ,eX rfl]⟩
          · subst hA;exact hs.elim
        · subst hA;exact hs.elim
    · subst hA;exact hs.elim
  · subst hA;exact hs.elim
end
end Go.Pm
namespace Go.Pm
variable [aJ]
open Go.RowKit (Below)
section
variable{P:Program}{Γ:bU}{nt B:Nat}{w0:World}{h0:Fz}{g:Gh}{σ:St}{a:Act}{w:World}{r:Option Nat}{n i:Nat}{Q:Exit->Act->World->Prop}
theorem KL{h:Fz}{x:PA}{v:Value}(hx:nU h x v):AA ⟨h,g.bk,g.sv,g.iv⟩ (I5 x) v:=by
 cases x with
 | one p=>exact hx
 | agg cs =>
  obtain⟨vs,rfl,hr⟩:=hx;exact⟨vs,rfl,RL.map_left.2 hr⟩
theorem Ry{h:Fz}{rs:List PA}{v:Value}(hr:qK h rs v):rH ⟨h,g.bk,g.sv,g.iv⟩ (resD rs) v:=by
 have tup:∀l:List PA,(∃vs:List Value,v=.tuple vs.toArray/\RL (nU h) l vs)->rH ⟨h,g.bk,g.sv,g.iv⟩ (.tup (l.map I5)) v:=by
  rintro l ⟨vs,hv,hr2⟩;exact⟨vs,hv,RL.map_left.2 (RL.mono hr2 λ_ _ h=>KL h)⟩
 match rs,hr with
 | [],hr=>exact tup _ hr
 | [x],hr=>exact KL hr
 | x::y::l,hr=>exact tup _ hr
theorem wK(x:PA):dE (I5 x)=[]:=by
 cases x with
 | one p=>rfl
 | agg cs=>exact ou cs
theorem CX(rs:List PA):df (resD rs)=[]:=by
 have tup:∀l:List PA,df (.tup (l.map I5))=[]:=by
  intro l
  induction l with
  | nil=>rfl
  | cons x l ih=>simp only[oU,df,oK,wK,Pg]at ih ⊢;exact ih
 match rs with
 | []=>exact tup _
 | [x]=>exact wK x
 | x::y::l=>exact tup _
theorem eG{f:FuncId}{args:Array Value}(h:dD P f):(callFunc f args).run P w=.ok (.enter f args) w:=by
 obtain⟨fn,h1,h2,h3⟩:=h;have h2':fn.body.isNone=false:=by simpa using h2
 simp only[callFunc,Sem.run_bind,run_program,Result.andThen_ok,h1,h3,h2',qdE,qjr,Sem.run_pure]
theorem CY(S:cO P nt B w0 h0 g σ a w):∀(l:List Operand),RL (rH g) (l.map (fU σ.env)) (l.map a.eval)
  | []=>trivial
  | x::r=>⟨S.ev x,CY S r⟩
theorem Zx{h:Fz}{l:List PV}{vs:List Value}(hr:RL (Rep h) l vs):RL (nU h) (l.map .one) vs:=RL.map_left.2 hr
theorem KN{h:Fz}{l:List PV}{vs:List Value}(h1:l.length=vs.length)(h2:∀(j:Nat)(x:PV)(v:Value),l[j]? = some x->vs[j]? = some v->Rep h x v):RL (Rep h) l vs:=RL.of_get h1 h2
theorem cO.swap(S:cO P nt B w0 h0 g σ a w){u:List (Nat×AO)}{kl K:List Nat}{g':Gh}{w':World}(hle:jV g.h g'.h)(IU:Hw g'.h w')(ui:∀M,g'.bk M=g.bk M)(hs:∀M,M∉kl→jb g g' M)
    (hkl:∀L∈kl,lk u L≠none) (hX:Zl g.h K w w') (hK:∀b∈K,∃L o o',lk u L=some o/\lk σ.aB L=some o'/\gW g L o' b)
    (hv:∀L o,lk u L=some o->NZ P g' w' B L o) (dh:∀L o b,lk u L=some o->gW g' L o b->(b∈K\/w.heap.size<=b)/\g'.h b=none)
    (IR:∀L o b L' o',lk u L=some o->lk u L'=some o'->gW g' L o b->gW g' L' o' b->L=L')
    (Am:∀L o,lk u L=some o->∀M∈dR o,∃o',lk σ.aB M=some o') (hnK:∀b o,g'.h b=some o->g.h b=some o\/w.heap.size<=b\/b∈K) (log:List (Nat×Nat×Nat)) :
    cO P nt B w0 h0 g' ⟨kills (gI kl) σ.env,u++kills (fD kl) σ.aB,log⟩ a w':=by
  have kD:∀M x,lk (u++kills (fD kl) σ.aB) M=some x->lk u M=some x\/(lk u M=none/\M∉kl/\∃o,lk σ.aB M=some o/\x=fD kl o):=by
    intro M x h;rw[gX]at h;cases hM:lk u M with
    | some y=>rw[hM]at h;exact .inl h
    | none =>
      rw[hM]at h;simp only[]at h;rw[oZ]at h;obtain⟨o,ho,rfl⟩:=YQ.1 h;exact .inr ⟨rfl,λhk=>hkl M hk hM,o,ho,rfl⟩
  have yh:∀M o,lk σ.aB M=some o->∃x,lk (u++kills (fD kl) σ.aB) M=some x:=by
    intro M o h;rw[gX];cases lk u M with
    | some y=>exact⟨y,rfl⟩
    | none=>simp only[];rw[oZ,h];exact⟨_,rfl⟩
  have KD:∀M o,M∉kl->gW g' M (fD kl o)=gW g M o:=by
    intro M o ja;have:=hs M ja;funext k;cases o<;>simp[fD,gW,this.1,this.2.1,this.2.2]
  have hKB:∀b∈K,B<=b/\g.h b=none:=λb hb=>by
    obtain⟨L,_,o',_,h2,h3⟩:=hK b hb;exact S.own L o' b h2 h3
  have EI:∀M o k,lk u M=none->lk σ.aB M=some o->gW g M o k->k∉K:=λM o k h1 h2 h3 hk=>by
    obtain⟨L,x,o',h4,h5,h6⟩:=hK k hk;rw[S.sep M o k L o' h2 h5 h3 h6,h4]at h1;cases h1
  have hold:∀M o k,lk u M=none->lk σ.aB M=some o->gW g M o k->w'.heap[k]? = w.heap[k]?:=λM o k h1 h2 h3 =>
    hX.block k (iI (S.obj M o h2) h3) (EI M o k h1 h2 h3)
  refine⟨S.dfr.mono hle,S.size,?_,?_,?_,?_,IU,λb o h=>hle _ _ (S.le0 b o h),?_,S.below.trans ⟨hX.os,hX.tape,hX.output,hX.size,hX.drawn,λk hk=>hX.block k (qdF hk S.bs) (λhkK=>by have:=(hKB k hkK).1;omega)⟩,EW S.bs hX.size,?_,?_⟩
  · intro t d ht;rw[oZ]at ht;obtain⟨d',gu,rfl⟩:=YQ.1 ht;exact zbD hle ui hs (S.env t d' gu)
  · intro M x hx;rcases kD M x hx with hx | ⟨hn,ja,o,ho,rfl⟩
    · exact hv M x hx
    · have Yw:∀k,gW g M o k→w'.heap[k]? = w.heap[k]? := fun k hk=>hold M o k hn ho hk;have hr:=S.obj M o ho;have hsM:=hs M ja;cases o with
      | box ty cs =>
        obtain⟨C,hC,hr⟩:=hr;exact⟨C,by rw[ui M,Yw _ rfl];exact hC,CW hle ui hs hr⟩
      | _=>exact jS (o:=fD kl _) hr hsM (λL hL=>by simp[dR,fD]at hL) hle Yw
  · intro M x k hx hk;rcases kD M x hx with hx | ⟨hn,ja,o,ho,rfl⟩
    · obtain⟨h1,h2⟩:=dh M x k hx hk;exact⟨h1.elim (λh=>(hKB k h).1) (λh=>EW S.bs h),h2⟩
    · rw [KD M o ja]at hk;obtain⟨h1,h2⟩:=S.own M o k ho hk;refine⟨h1,?_⟩;cases hh:g'.h k with
      | none=>rfl
      | some y =>
        rcases hnK k y hh with h3|h3|h3
        · rw[h2]at h3;cases h3
        · exact absurd (iI (S.obj M o ho) hk) omY
        · exact(EI M o k hn ho hk h3).elim
  · intro M x k M' x' hx yB hk jJ;have QJ:∀M o L y,lk u M=none->lk σ.aB M=some o->gW g M o k->lk u L=some y->gW g' L y k->False:=by
      intro M o L y hn ho hk hy jJ;rcases(dh L y k hy jJ).1 with h|h
      · exact EI M o k hn ho hk h
      · exact absurd (iI (S.obj M o ho) hk) omY
    rcases kD M x hx with hx|⟨hn,ja,o,ho,rfl⟩<;>rcases kD M' x' yB with yB|⟨hn',zfT,o2,nV,rfl⟩
    · exact IR M x k M' x' hx yB hk jJ
    · rw [KD M' o2 zfT]at jJ;exact(QJ M' o2 M x hn' nV jJ hx hk).elim
    · rw [KD M o ja]at hk;exact(QJ M o M' x' hn ho hk yB jJ).elim
    · rw [KD M o ja]at hk;rw [KD M' o2 zfT]at jJ;exact S.sep M o k M' o2 ho nV hk jJ
  · intro b o h;rcases hnK b o h with h | h | h
    · exact S.hn b o h
    · exact .inr (EW S.bs h)
    · exact .inr (hKB b h).1
  · intro t d ht M hM;rw[oZ]at ht;obtain⟨d',gu,rfl⟩:=YQ.1 ht;obtain⟨o,ho⟩:=S.clE t d' gu M (PR M hM);exact yh M o ho
  · intro M x hx N hN;rcases kD M x hx with hx | ⟨hn,ja,o,ho,rfl⟩
    · obtain⟨o',kQ⟩:=Am M x hx N hN;exact yh N o' kQ
    · obtain⟨o2,nV⟩:=S.clO M o ho N (PS N hN);exact yh N o2 nV
theorem cO.frozen0(S:cO P nt B w0 h0 g σ a w):fK g (lk σ.aB) [] g.h :=
 ⟨λ_ _ h=>h,λ_ _ _ _ _ _ _ h=>by simp at h,λL s n get h=>(S.obj L _ h).1,λ_ _ _ _ _ _ _ _ _ _ h=>by simp at h,
  λ_ _ _ _ _ _ _ _ h=>by simp at h,λL l h=>S.obj L _ h,λb hb o ho=>by rw[hb]at ho;cases ho⟩
def kO(g:Gh)(L:Nat):AO→List Nat
  | .box _ _=>[g.bk L]
  | .vec _ _ _ _ _=>(g.sv L).ownBlock.toList
  | .mo _ _ _ _ _=>[oW (g.sv L)]
  | _=>[]
theorem Rz{L:Nat}{o:AO}{b:Nat}(h:b∈kO g L o):gW g L o b:=by
 cases o with
 | box ty cs=>simp only[kO,mg]at h;exact h.symm
 | vec e s b' n get=>simpa [kO,gW]using h
 | mo kt vt q n F=>simp only[kO,mg]at h;exact h.symm
 | _=>simp[kO]at h
theorem zhr(L:Nat)(o:AO):(kO g L o).Nodup:=by
 cases o with
 | vec e s b' n get=>simp only[kO];cases(g.sv L).ownBlock<;>simp
 | _=>simp[kO]
def VA:AO→Prop
  | .box _ _=>True
  | .vec _ _ _ _ _=>True
  | .mo _ _ _ _ _=>True
  | _=>False
theorem FH{L:Nat}{o:AO}{b:Nat}(ho:VA o)(h:gW g L o b):b∈kO g L o:=by
 cases o with
 | box ty cs=>simp only[kO,mg];exact h.symm
 | vec e s b' n get=>simpa [kO,gW]using h
 | mo kt vt q n F=>simp only[kO,mg];exact h.symm
 | _=>exact ho.elim
def kB(g:Gh)(ob:Nat->Option AO)(L:Nat):List Nat:=match ob L with|some o=>kO g L o|none=>[]
theorem KO{α:Type}{f:α→List Nat}:∀{l:List α},l.Nodup→(∀x∈l,(f x).Nodup)→(∀x y b,x∈l→y∈l→b∈f x→b∈f y→x=y)→(l.flatMap f).Nodup
  | [],_,_,_=>by simp
  | x::l,hn,h1,h2=>by
    rw[oK,qj7];obtain⟨hx,hl⟩:=qdu.1 hn;refine⟨h1 x lq,KO hl (λy hy=>h1 y (jU _ hy)) (λy z b hy hz=>h2 y z b (jU _ hy) (jU _ hz)),?_⟩;intro b hb c hc e;subst e;obtain⟨y,hy,hby⟩:=lK.1 hc;exact hx (by rw[h2 x y b lq (jU _ hy) hb hby];exact hy)
theorem FI{α:Type}{f:α→List Nat}:∀{l:List α},(l.flatMap f).Nodup→∀x y b,x∈l→y∈l→b∈f x→b∈f y→x=y
  | [],_,_,_,_,hx,_,_,_=>by simp at hx
  | z::l,hn,x,y,b,hx,hy,h1,h2=>by
    rw[oK,qj7]at hn;obtain⟨_,hl,hd⟩:=hn;rcases kR.1 hx with ex|yB<;>rcases kR.1 hy with ey|hy'
    · rw[ex,ey]
    · rw[ex]at h1;exact(hd b h1 b (lK.2 ⟨y,hy',h2⟩) rfl).elim
    · rw[ey]at h2;exact(hd b h2 b (lK.2 ⟨x,yB,h1⟩) rfl).elim
    · exact FI hl x y b yB hy' h1 h2
theorem mX:∀{l:List Nat},mO l=true→l.Nodup
  | [],_=>qj2
  | x::l,h=>by
    simp only[mO,gG,NR]at h;exact qdu.2 ⟨by simpa using h.1,mX h.2⟩
def Zy [dF](g:Gh)(sf:lu):Prop:=∀f np ls,sf=some (f,np,ls)->dF.f=f/\dF.np=np/\dF.bs=ls.map g.bk
theorem zbI:∀{caps:List uk}{ls:List Nat}{cv:List Value},JO caps ls=true→RL (IK g) caps cv→cv=(ls.map g.bk).map xY
  | [],[],[],_,_=>rfl
  | [],[],_::_,_,h=>h.elim
  | [],_::_,_,h,_=>by cases h
  | .v _::_,[],_,h,_=>by cases h
  | .v _::_,_::_,_,h,_=>by cases h
  | .b _::_,[],_,h,_=>by cases h
  | .b _::_,_::_,[],_,h=>h.elim
  | .b L::caps,M::ls,v::cv,h,hr=>by
    simp only[JO,gG]at h;have e:=kL h.1;subst e;rw[oU,oU,<- zbI h.2 hr.2];have:=hr.1;simp only[IK]at this;rw[this];rfl
theorem VB:∀{caps:List uk}{ls:List Nat},JO caps ls=true→RL (IK g) caps ((ls.map g.bk).map xY)
  | [],[],_=>trivial
  | [],_::_,h=>by cases h
  | .v _::_,[],h=>by cases h
  | .v _::_,_::_,h=>by cases h
  | .b _::_,[],h=>by cases h
  | .b L::caps,M::ls,h=>by
    simp only[JO,gG]at h;have e:=kL h.1;subst e;exact⟨rfl,VB h.2⟩
theorem VC{sf:lu}{f:FuncId}{caps:List uk}{x:XC}(h:zv5 sf f caps=some x):∃np ls,sf=some (f,np,ls)/\JO caps ls=true/\x=.slf f np ls.length:=by
 unfold zv5 at h;split at h
 ·rename_i f' np ls;split at h
  ·rename_i hc;simp only[gG]at hc;have e:=kL hc.1;subst e;simp only[bW]at h;exact⟨np,ls,rfl,hc.2,h.symm⟩
  ·cases h
 ·cases h
theorem zbJ [dF]{sf:lu}(Uo:Zy g sf)(S:cO P nt B w0 h0 g σ a w):∀{cells:List Cl}{cs:List XC}{ms:List Nat}{vs:List Value},iU sf (lk σ.aB) cells=some (cs,ms)->RL (jg g) cells vs ->
  RL (xcR P g.h w B) cs vs/\uZ cs vs=ms.flatMap (kB g (lk σ.aB))/\∀M∈ms,∃o,lk σ.aB M=some o/\VA o
 | [],cs,ms,[],h,_=>by
  simp only[iU,bW,gy]at h;obtain⟨rfl,rfl⟩:=h;exact⟨trivial,rfl,λM hM=>by simp at hM⟩
 | [],_,_,_::_,_,hr=>hr.elim
 | _::_,_,_,[],_,hr=>hr.elim
 | c::cells,cs,ms,v::vs,h,hr=>by
  simp only[iU]at h;split at h
  ·rename_i l ms' h1;obtain⟨i1,i2,i3⟩:=zbJ Uo S h1 hr.2;split at h
   ·rename_i p;simp only[bW,gy]at h;obtain⟨rfl,rfl⟩:=h;exact⟨⟨hr.1,i1⟩,by simp only[uZ,xcK,Pg];exact i2,i3⟩
   ·rename_i M;split at h
    ·rename_i e s b n get hM;simp only[bW,gy] at h;obtain⟨rfl,rfl⟩:=h;obtain⟨hp,hi,hx⟩:=S.obj M _ hM;have hv:v=g.sv M:=hr.1.1;refine⟨⟨⟨hr.1.2,hp,hi,by rw[hv];exact hx⟩,i1⟩,?_,λ K hK=>?_⟩
     ·simp only [uZ,xcK,oK,i2,hv];rw[show kB g (lk σ.aB) M=(g.sv M).ownBlock.toList by simp only[kB,hM,kO]]
     ·rcases kR.1 hK with e | hK
      ·rw[e];exact⟨_,hM,trivial⟩
      ·exact i3 K hK
    ·cases h
   ·rename_i M;split at h
    ·rename_i kt vt q n F hM;simp only[bW,gy] at h;obtain⟨rfl,rfl⟩:=h;obtain⟨es,clock,hh,hx⟩:=S.obj M _ hM;have hv:v=.map (some (oW (g.sv M))):=hr.1;refine⟨⟨⟨_,es,clock,hv,hh,hx⟩,i1⟩,?_,λ K hK=>?_⟩
     ·simp only [uZ,xcK,oK,i2,hv];rw[show kB g (lk σ.aB) M=[oW (g.sv M)]by simp only[kB,hM,kO]];rfl
     ·rcases kR.1 hK with e | hK
      ·rw[e];exact⟨_,hM,trivial⟩
      ·exact i3 K hK
    ·cases h
   ·split at h
    ·rename_i x hx;simp only[bW,gy]at h;obtain⟨rfl,rfl⟩:=h;obtain⟨np,ls,e1,e2,rfl⟩:=VC hx;obtain⟨q1,q2,q3⟩:=Uo _ _ _ e1;obtain⟨cv,hv,hcv⟩:=hr.1;refine⟨⟨⟨q1.symm,q2.symm,by rw[q3,dqU],by rw[hv,zbI e2 hcv,<- q1,<- q3];rfl⟩,i1⟩,by simp only[uZ,xcK,Pg];exact i2,i3⟩
    ·cases h
   ·cases h
  ·cases h
def isB(ob:Nat->Option AO)(L:Nat):Prop:=∃o,ob L=some o/\VA o
theorem zhs [dF]{sf:lu}(S:cO P nt B w0 h0 g σ a w)(Uo:Zy g sf){d:DV}{x:XA}{ls ms:List Nat}{v:Value}(h:Ah sf (lk σ.aB) d=some (x,ls,ms))(hr:rH g d v) :
  zH P g.h w B x v/\U8 w x v=ls.flatMap (kB g (lk σ.aB))/\∀L∈ls,isB (lk σ.aB) L:=by
 have data:sU (lk σ.aB) d=some (x,ls,ms)->zH P g.h w B x v/\U8 w x v=ls.flatMap (kB g (lk σ.aB))/\∀L∈ls,isB (lk σ.aB) L:=by
  intro h;unfold sU at h;split at h
  ·rename_i y hy;simp only[bW,gy]at h;obtain⟨rfl,rfl,rfl⟩:=h;exact⟨S.frozen0.repD hy (λ_ h=>h) hr,rfl,λL hL=>by simp at hL⟩
  ·cases h
 unfold Ah at h;split at h
 ·rename_i L;split at h
  ·rename_i ty cells hL;split at h
   ·rename_i cs ms' hc;simp only[bW,gy] at h;obtain⟨rfl,rfl,rfl⟩:=h;obtain⟨C,hC,Um⟩:=S.obj L _ hL;obtain⟨i1,i2,i3⟩:=zbJ Uo S hc Um;have hv:v=.pointer (some ⟨g.bk L,0,none⟩):=hr;subst hv;refine⟨⟨_,C,rfl,hC,i1⟩,?_,λ K hK=>?_⟩
    ·simp only [U8,hC,oK,i2];rw[show kB g (lk σ.aB) L=[g.bk L]by simp only[kB,hL,kO]];rfl
    ·rcases kR.1 hK with e | hK
     ·rw[e];exact⟨_,hL,trivial⟩
     ·exact i3 K hK
   ·cases h
  ·exact data h
 ·exact data h
theorem zbK [dF]{sf:lu}(S:cO P nt B w0 h0 g σ a w)(Uo:Zy g sf):∀{ds:List DV}{xs:List XA}{ls ms:List Nat}{vs:List Value},jZ sf (lk σ.aB) ds=some (xs,ls,ms)->RL (rH g) ds vs ->
  RL (zH P g.h w B) xs vs/\nP w xs vs=ls.flatMap (kB g (lk σ.aB))/\∀L∈ls,isB (lk σ.aB) L
 | [],xs,ls,ms,[],h,_=>by
  simp only[jZ,bW,gy]at h;obtain⟨rfl,rfl,rfl⟩:=h;exact⟨trivial,rfl,λL hL=>by simp at hL⟩
 | [],_,_,_,_::_,_,hr=>hr.elim
 | _::_,_,_,_,[],_,hr=>hr.elim
 | d::ds,xs,ls,ms,v::vs,h,hr=>by
  simp only[jZ]at h;split at h
  ·rename_i x bl m1 xs' bls m2 h1 h2;simp only[bW,gy] at h;obtain⟨rfl,rfl,rfl⟩:=h;obtain⟨i1,i2,i3⟩:=zhs S Uo h1 hr.1;obtain⟨j1,j2,j3⟩:=zbK S Uo h2 hr.2;refine⟨⟨i1,j1⟩,by simp only[nP,i2,j2,qd5],λ L hL=>?_⟩;rcases dU.1 hL with h | h
   ·exact i3 L h
   ·exact j3 L h
  ·cases h
theorem Hl(S:cO P nt B w0 h0 g σ a w){ls:List Nat}(hn:ls.Nodup):(ls.flatMap (kB g (lk σ.aB))).Nodup:=by
 refine KO hn (λL _=>?_) λL L' b _ _ h1 h2=>?_
 ·unfold kB; split
  ·exact zhr L _
  ·exact qj2
 ·unfold kB at h1 h2;split at h1
  ·rename_i o ho;split at h2
   ·rename_i o' kQ;exact S.sep L o b L' o' ho kQ (Rz h1) (Rz h2)
   ·simp at h2
  ·simp at h1
def cN:List Cl→List Value→List (Nat×Value)
  | .vec M::cs,v::vs=>(M,v)::cN cs vs
  | .mo M::cs,v::vs=>(M,v)::cN cs vs
  | _::cs,_::vs=>cN cs vs
  | _,_=>[]
def aN(w:World)(ob:Nat->Option AO)(d:DV)(v:Value):List (Nat×Value) :=
 match d,v with
 | .one (.c (.ptr L 0)),.pointer (some a)=>match ob L,w.heap[a.block]? with
  | some (.box _ cells),some (.cells C _ _)=>cN cells C.toList
  | _,_=>[]
 | _,_=>[]
def asN(w:World)(ob:Nat→Option AO):List DV→List Value→List (Nat×Value)
  | d::ds,v::vs=>aN w ob d v++asN w ob ds vs
  | _,_=>[]
theorem o7{sf:lu}{ob:Nat->Option AO}{L:Nat}:Ah sf ob (.one (.c (.ptr L 0)))=match ob L with
  | some (.box ty cells)=>match iU sf ob cells with
   | some (cs,ms)=>some (.box ty cs,L::ms,ms)
   | none=>none
  | _=>sU ob (.one (.c (.ptr L 0))):=rfl
section put
variable [dF]{sf:lu}{h':Fz}{w':World}{g':Gh}(hh:g'.h=h')(ui:∀M,g'.bk M=g.bk M)(Uo:Zy g' sf)
include hh Uo
theorem CZ:∀{cells l:List Cl}{ys cs:List XC}{u:List (Nat×AO)}{ls:List Nat}{vs:List Value},ik cells ys=some (l,u)->iU sf (lk σ.aB) cells=some (cs,ls)->RL (xcR P h' w' B) ys vs->(∀x∈cN cells vs,g'.sv x.1=x.2) ->
  RL (jg g') l vs/\(∀x∈u,VA x.2/\dR x.2=[]/\NZ P g' w' B x.1 x.2)/\uZ ys vs=u.flatMap (λx=>kO g' x.1 x.2)/\u.map (·.1)=ls/\(cN cells vs).map (·.1)=ls/\∀M∈l.flatMap bD,M∈cells.flatMap bD
 | [],l,[],cs,u,ls,vs,h,h2,hr,_=>by
  simp only[ik,bW,gy]at h;obtain⟨rfl,rfl⟩:=h;simp only[iU,bW,gy]at h2;obtain⟨rfl,rfl⟩:=h2;cases vs with
  | nil=>exact⟨trivial,λx hx=>by simp at hx,rfl,rfl,rfl,λM hM=>hM⟩
  | cons=>exact hr.elim
 | c::cells,l,y::ys,cs,u,ls,[],h,h2,hr,_=>hr.elim
 | c::cells,l,y::ys,cs,u,ls,v::vs,h,h2,hr,l9=>by
  unfold ik at h;split at h
  ·rename_i e;simp at e
  ·rename_i p za5 q qp e1 e2;simp only[GZ] at e1 e2;obtain⟨rfl,rfl⟩:=e1;obtain⟨rfl,rfl⟩:=e2;split at h
   ·rename_i l1 u1 hp;simp only[bW,gy] at h;obtain⟨rfl,rfl⟩:=h;simp only[iU] at h2;split at h2
    ·rename_i c1 m1 hc;simp only[bW,gy]at h2;obtain⟨rfl,rfl⟩:=h2;obtain⟨i1,i2,i3,i4,i5,i6⟩:=CZ hp hc hr.2 (λx hx=>l9 x hx);refine⟨⟨by have:=hr.1;show Rep g'.h q v;rw[hh];exact this,i1⟩,i2,by simp only[uZ,xcK,Pg];exact i3,i4,i5,λM hM=>?_⟩;simp only[oK,bD,Pg]at hM ⊢;exact i6 M hM
    ·cases h2
   ·cases h
  ·rename_i M za5 e s b n get qp e1 e2;simp only[GZ] at e1 e2;obtain⟨rfl,rfl⟩:=e1;obtain⟨rfl,rfl⟩:=e2;split at h
   ·rename_i l1 u1 hp;simp only[bW,gy] at h;obtain⟨rfl,rfl⟩:=h;simp only[iU] at h2;split at h2
    ·rename_i c1 m1 hc;split at h2
     ·simp only [bW, gy] at h2; obtain ⟨rfl, rfl⟩ := h2;obtain⟨i1,i2,i3,i4,i5,i6⟩:=CZ hp hc hr.2 (λ x hx=>l9 x (jU _ hx));have hv:g'.sv M=v:=l9 (M,v) lq;obtain⟨h1,hp1,hi1,hx1⟩:=hr.1;refine⟨⟨⟨hv.symm,h1⟩,i1⟩,λ x hx=>?_,?_,by simp[i4],by simp[cN,i5],λ K hK=>?_⟩
      ·rcases kR.1 hx with e | hx
       ·subst e;refine⟨trivial,rfl,hp1,hi1,?_⟩;show Ai g'.h w' B e s (g'.sv M) n get;rw[hv,hh];exact hx1
       ·exact i2 x hx
      ·simp only[uZ,xcK,oK,kO,hv,i3]
      ·simp only [oK,dU]at hK ⊢;exact hK.imp_right (i6 K)
     ·cases h2
    ·cases h2
   ·cases h
  ·rename_i M za5 kt vt q n F qp e1 e2;simp only[GZ] at e1 e2;obtain⟨rfl,rfl⟩:=e1;obtain⟨rfl,rfl⟩:=e2;split at h
   ·rename_i l1 u1 hp;simp only[bW,gy] at h;obtain⟨rfl,rfl⟩:=h;simp only[iU] at h2;split at h2
    ·rename_i c1 m1 hc;split at h2
     ·simp only [bW, gy] at h2; obtain ⟨rfl, rfl⟩ := h2;obtain⟨i1,i2,i3,i4,i5,i6⟩:=CZ hp hc hr.2 (λ x hx=>l9 x (jU _ hx));have hv:g'.sv M=v:=l9 (M,v) lq;obtain⟨b,es,clock,h1,hh1,hx1⟩:=hr.1;subst h1;have hb:oW (g'.sv M)=b:=by rw[hv];rfl
      refine⟨⟨by show Value.map (some b)=.map (some (oW (g'.sv M)));rw[hb],i1⟩,λx hx=>?_,?_,by simp[i4],by simp[cN,i5],λK hK=>?_⟩
      ·rcases kR.1 hx with e | hx
       ·subst e;exact⟨trivial,rfl,es,clock,by rw[hb];exact hh1,hx1⟩
       ·exact i2 x hx
      ·simp only[uZ,xcK,oK,kO,hb,i3];rfl
      ·simp only [oK,dU]at hK ⊢;exact hK.imp_right (i6 K)
     ·cases h2
    ·cases h2
   ·cases h
  ·rename_i f caps za5 f2 np2 n2 qp e1 e2;simp only[GZ] at e1 e2;obtain⟨rfl,rfl⟩:=e1;obtain⟨rfl,rfl⟩:=e2;split at h
   ·rename_i l1 u1 hp;simp only[bW,gy] at h;obtain⟨rfl,rfl⟩:=h;simp only[iU] at h2;split at h2
    ·rename_i c1 m1 hc;split at h2
     ·rename_i x hx;simp only[bW,gy]at h2;obtain⟨rfl,rfl⟩:=h2;obtain⟨i1,i2,i3,i4,i5,i6⟩:=CZ hp hc hr.2 (λx hx=>l9 x hx);obtain⟨np,ls,e1,e2,rfl⟩:=VC hx;obtain⟨q1,q2,q3⟩:=Uo _ _ _ e1;obtain⟨_,_,_,hv⟩:=hr.1;refine⟨⟨⟨(ls.map g'.bk).map xY,by rw[hv,<- q1,<- q3];rfl,VB e2⟩,i1⟩,i2,by simp only[uZ,xcK,Pg];exact i3,i4,i5,λM hM=>?_⟩;simp only[oK,dU]at hM ⊢;exact hM.imp_right (i6 M)
     ·cases h2
    ·cases h2
   ·cases h
  ·cases h
 | [],_,_::_,_,_,_,_,h,_,_,_=>by simp[ik]at h
 | _::_,_,[],_,_,_,_,h,_,_,_=>by simp[ik]at h
include ui
theorem zwq(S:cO P nt B w0 h0 g σ a w){d:DV}{x y:XA}{u:List (Nat×AO)}{ls ms:List Nat}{v:Value}(h:II (lk σ.aB) d y=some u)(h2:Ah sf (lk σ.aB) d=some (x,ls,ms))(hd:rH g d v)(hr:zH P h' w' B y v)
    (l9:∀x∈aN w' (lk σ.aB) d v,g'.sv x.1=x.2) :
    (∀x∈u,VA x.2/\(∀M∈dR x.2,∃o',lk σ.aB M=some o')/\NZ P g' w' B x.1 x.2)/\U8 w' y v=u.flatMap (λx=>kO g' x.1 x.2)/\u.map (·.1)=ls/\(aN w' (lk σ.aB) d v).map (·.1)=ms:=by
  have data:sU (lk σ.aB) d=some (x,ls,ms)->ls=[]/\ms=[]:=by
    intro h;unfold sU at h;split at h
    · simp only[bW,gy]at h;exact⟨h.2.1.symm,h.2.2.symm⟩
    · cases h
  unfold II at h;split at h
  · rename_i L;split at h
    · rename_i YX cells hL;rw[o7,hL] at h2;dsimp only at h2;split at h2
      · rename_i cs ms' hc;simp only[bW,gy] at h2;obtain⟨rfl,rfl,rfl⟩:=h2;split at h
        · rename_i ty Iz;split at h
          · rename_i l u' hty hp;simp only[bW]at h;subst h;have hty:=kL hty;subst hty;obtain⟨k,C,rfl,hC,nT⟩:=hr;have hk:k=g.bk L:=by
              have hd:Value.pointer (some ⟨k,0,none⟩)=.pointer (some ⟨g.bk L,0,none⟩):=hd;simpa using hd
            subst hk;simp only[aN,hL,hC]at l9 ⊢;obtain⟨i1,i2,i3,i4,i5,i6⟩:=CZ (P:=P) (B:=B) hh Uo hp hc nT l9;refine⟨λx hx=>?_,?_,by simp[i4],i5⟩
            · rcases kR.1 hx with e | hx
              · subst e;refine⟨trivial,λM hM=>S.clO L _ hL M (i6 M hM),C,?_,i1⟩;show w'.heap[g'.bk L]? = _;rw[ui];exact hC
              · obtain⟨j1,j2,j3⟩:=i2 x hx;exact⟨j1,λM hM=>by rw[j2]at hM;simp at hM,j3⟩
            · simp only[U8,hC,oK,kO,ui,i3];rfl
          · cases h
        · cases h
      · cases h2
    · rename_i ww;have hx:sU (lk σ.aB) (.one (.c (.ptr L 0)))=some (x,ls,ms):=by
        rw[o7]at h2;cases hL:lk σ.aB L with
        | none=>rw[hL]at h2;exact h2
        | some o =>
          rw[hL]at h2;cases o with
          | box ty cells=>exact absurd hL (ww _ _)
          | _=>exact h2
      obtain⟨rfl,rfl⟩:=data hx;split at h
      · simp only [bW]at h;subst h;refine⟨λx hx=>by simp at hx,rfl,rfl,?_⟩;have e:aN w' (lk σ.aB) (.one (.c (.ptr L 0))) v=[]:=by
          cases v with
          | pointer p=>cases p with
            | none=>rfl
            | some ad =>
              simp only[aN];cases hL:lk σ.aB L with
              | none=>rfl
              | some o =>
                cases o with
                | box ty cells=>exact(ww _ _ hL).elim
                | _=>rfl
          | _=>rfl
        rw[e];rfl
      · cases h
  · rename_i ww;have hx:sU (lk σ.aB) d=some (x,ls,ms):=by
      unfold Ah at h2;split at h2
      · exact(ww _ rfl).elim
      · exact h2
    obtain⟨rfl,rfl⟩:=data hx;split at h
    · simp only [bW]at h;subst h;refine⟨λx hx=>by simp at hx,rfl,rfl,?_⟩;have e:aN w' (lk σ.aB) d v=[]:=by
        unfold aN;split
        · exact(ww _ rfl).elim
        · rfl
      rw[e];rfl
    · cases h
theorem zbL(S:cO P nt B w0 h0 g σ a w):∀{ds:List DV}{xs ys:List XA}{u:List (Nat×AO)}{ls ms:List Nat}{vs:List Value},jR (lk σ.aB) ds ys=some u->jZ sf (lk σ.aB) ds=some (xs,ls,ms)->RL (rH g) ds vs->RL (zH P h' w' B) ys vs ->
  (∀x∈asN w' (lk σ.aB) ds vs,g'.sv x.1=x.2) ->
  (∀x∈u,VA x.2/\(∀M∈dR x.2,∃o',lk σ.aB M=some o')/\NZ P g' w' B x.1 x.2)/\nP w' ys vs=u.flatMap (λx=>kO g' x.1 x.2)/\u.map (·.1)=ls/\(asN w' (lk σ.aB) ds vs).map (·.1)=ms
 | [],xs,[],u,ls,ms,vs,h,h2,hd,hr,_=>by
  simp only[jR,bW]at h;subst h;simp only[jZ,bW,gy]at h2;obtain⟨rfl,rfl,rfl⟩:=h2;cases vs with
  | nil=>exact⟨λx hx=>by simp at hx,rfl,rfl,rfl⟩
  | cons=>exact hr.elim
 | d::ds,xs,y::ys,u,ls,ms,[],h,h2,hd,hr,_=>hr.elim
 | d::ds,xs,y::ys,u,ls,ms,v::vs,h,h2,hd,hr,l9=>by
  simp only[jR]at h;split at h
  ·rename_i u1 u2 e1 e2;simp only[bW] at h;subst h;simp only[jZ] at h2;split at h2
   ·rename_i x bl m1 xs' bls m2 h3 h4;simp only[bW,gy]at h2;obtain⟨rfl,rfl,rfl⟩:=h2;obtain⟨i1,i2,i3,i4⟩:=zbL S e2 h4 hd.2 hr.2 (λx hx=>l9 x (dU.2 (.inr hx)));obtain⟨j1,j2,j3,j4⟩:=zwq hh ui Uo S e1 h3 hd.1 hr.1 (λx hx=>l9 x (dU.2 (.inl hx)));exact⟨λx hx=>(dU.1 hx).elim (j1 x) (i1 x),by simp only[nP,i2,j2,qd5],by simp[i3,j3],by simp[asN,i4,j4]⟩
   ·cases h2
  ·cases h
 | [],_,_::_,_,_,_,_,h,_,_,_,_=>by simp[jR]at h
 | _::_,_,[],_,_,_,_,h,_,_,_,_=>by simp[jR]at h
end put
theorem FK {α : Type} : ∀ {l : List (Nat × α)} {k : Nat} {x : α}, (l.map (·.1)).Nodup → (k, x) ∈ l → lk l k = some x
  | [],_,_,_,h=>by simp at h
  | (j,y)::l,k,x,hn,h=>by
    rw[oU,qdu]at hn;rw[aZ];rcases kR.1 h with e|h'
    · simp only[gy]at e;rw[eX e.1.symm,e.2]
    · rw [fB (fun e=>hn.1 (by rw [e];exact xR.2 ⟨_,h',rfl⟩))];exact FK hn.2 h'
theorem zI{α:Type}{l:List (Nat×α)}{k:Nat}(h:k∈l.map (·.1)):∃x,lk l k=some x:=by
 cases hk:lk l k with
 | some x=>exact⟨x,rfl⟩
 | none =>
  obtain⟨⟨j,x⟩,hx,rfl⟩:=xR.1 h;exact(Rl hk x hx).elim
theorem zht{sf:lu}{ob:Nat->Option AO}{d:DV}{x:XA}{ls ms:List Nat}(h:Ah sf ob d=some (x,ls,ms)):∀M∈ms,M∈ls:=by
 have data:sU ob d=some (x,ls,ms)->∀M∈ms,M∈ls:=by
  intro h;unfold sU at h;split at h
  ·simp only[bW,gy]at h;rw[<- h.2.2];exact λM hM=>by simp at hM
  ·cases h
 unfold Ah at h;split at h
 ·split at h
  ·split at h
   ·simp only[bW,gy]at h;rw[<- h.2.1,<- h.2.2];exact λM hM=>jU _ hM
   ·cases h
  ·exact data h
 ·exact data h
theorem PZ{sf:lu}{ob:Nat→Option AO}:∀{ds:List DV}{xs:List XA}{ls ms:List Nat},jZ sf ob ds=some (xs,ls,ms)→∀M∈ms,M∈ls
  | [],xs,ls,ms,h=>by
    simp only[jZ,bW,gy]at h;rw[<- h.2.2];exact λM hM=>by simp at hM
  | d::ds,xs,ls,ms,h=>by
    simp only[jZ]at h;split at h
    · rename_i x bl m1 xs' bls m2 h1 h2;simp only[bW,gy]at h;obtain⟨rfl,rfl,rfl⟩:=h;intro M hM;exact dU.2 ((dU.1 hM).imp (zht h1 M) (PZ h2 M))
    · cases h
theorem Bg(x:Cl):gq [] x=x:=by cases x<;>rfl
theorem Hm(x:D1):fV [] x=x:=by
 cases x with
 | c y=>simp only[fV,Bg]
 | agg cs=>simp only[fV,show gq []=id from funext Bg,qjR]
theorem Zz(x:DV):gI [] x=x:=by
 cases x with
 | one y=>simp only[gI,Hm]
 | tup ds=>simp only[gI,show fV []=id from funext Hm,qjR]
theorem ZA(x:AO):fD [] x=x:=by
 cases x with
 | box ty cs=>simp only[fD,show gq []=id from funext Bg,qjR]
 | _=>rfl
theorem KP{α:Type}{f:α→α}(hf:∀x,f x=x):∀l:List (Nat×α),kills f l=l
  | []=>rfl
  | (k,x)::l=>by simp only[kills,hf x,KP hf l]
theorem RD{dst:Option Nat}{fp:List (Nat×Bool)}{d:DV}{u:List (Nat×AO)}{ms:List Nat} :
  σ.upd i dst fp d u ms=⟨Zm dst d (kills (gI ms) σ.env),u++kills (fD ms) σ.aB,σ.log⟩:=by
 cases ms with
 | nil=>rw[gm,KP Zz,KP ZA]
 | cons L r=>cases dst<;>rfl
theorem zbM [dF] {sf : lu} {ob : Nat → Option AO} {h' : Fz} {w' : World} : ∀ {cells : List Cl} {l : List Cl} {ys cs : List XC} {u : List (Nat × AO)} {ms : List Nat} {vs : List Value}, ik cells ys = some (l, u) → iU sf ob cells = some (cs, ms) → RL (xcR P h' w' B) ys vs → (cN cells vs).map (·.1) = ms
  | [],l,ys,cs,u,ms,vs,h,h2,hr=>by
    simp only[iU,bW,gy]at h2;rw[<- h2.2];cases vs<;>rfl
  | c::cells,l,[],cs,u,ms,vs,h,h2,hr=>by simp[ik]at h
  | c::cells,l,y::ys,cs,u,ms,[],h,h2,hr=>hr.elim
  | c::cells,l,y::ys,cs,u,ms,v::vs,h,h2,hr=>by
    have hx:∃l1 u1,ik cells ys=some (l1,u1):=by
      unfold ik at h;split at h
      · rename_i e;simp at e
      · rename_i e1 e2;simp only[GZ] at e1 e2;obtain⟨rfl,rfl⟩:=e1;obtain⟨rfl,rfl⟩:=e2;split at h
        · rename_i hp;exact⟨_,_,hp⟩
        · cases h
      · rename_i e1 e2;simp only[GZ] at e1 e2;obtain⟨rfl,rfl⟩:=e1;obtain⟨rfl,rfl⟩:=e2;split at h
        · rename_i hp;exact⟨_,_,hp⟩
        · cases h
      · rename_i e1 e2;simp only[GZ] at e1 e2;obtain⟨rfl,rfl⟩:=e1;obtain⟨rfl,rfl⟩:=e2;split at h
        · rename_i hp;exact⟨_,_,hp⟩
        · cases h
      · rename_i e1 e2;simp only[GZ] at e1 e2;obtain⟨rfl,rfl⟩:=e1;obtain⟨rfl,rfl⟩:=e2;split at h
        · rename_i hp;exact⟨_,_,hp⟩
        · cases h
      · cases h
    obtain⟨l1,u1,hp⟩:=hx;simp only[iU]at h2;split at h2
    · rename_i c1 m1 hc;have ih:=zbM hp hc hr.2;split at h2
      · simp only[bW,gy]at h2;rw[<- h2.2];exact ih
      · split at h2
        · simp only[bW,gy]at h2;rw[<- h2.2];simp only[cN,oU,ih]
        · cases h2
      · split at h2
        · simp only[bW,gy]at h2;rw[<- h2.2];simp only[cN,oU,ih]
        · cases h2
      · split at h2
        · simp only[bW,gy]at h2;rw[<- h2.2];exact ih
        · cases h2
      · cases h2
    · cases h2
theorem zns [dF]{sf:lu}{ob:Nat->Option AO}{h':Fz}{w':World}{d:DV}{x y:XA}{u:List (Nat×AO)}{ls ms:List Nat}{v:Value}(h:II ob d y=some u)(h2:Ah sf ob d=some (x,ls,ms))(hr:zH P h' w' B y v):(aN w' ob d v).map (·.1)=ms:=by
 have data:sU ob d=some (x,ls,ms)->ms=[]:=by
  intro h;unfold sU at h;split at h
  ·simp only[bW,gy]at h;exact h.2.2.symm
  ·cases h
 unfold II at h;split at h
 ·rename_i L;split at h
  ·rename_i YX cells hL;rw[o7,hL] at h2;dsimp only at h2;split at h2
   ·rename_i cs ms' hc;simp only[bW,gy] at h2;obtain⟨rfl,rfl,rfl⟩:=h2;split at h
    ·split at h
     ·rename_i l u' hty hp;obtain⟨k,C,rfl,hC,nT⟩:=hr;simp only[aN,hL,hC];exact zbM hp hc nT
     ·cases h
    ·cases h
   ·cases h2
  ·rename_i ww;have hx:sU ob (.one (.c (.ptr L 0)))=some (x,ls,ms):=by
    rw[o7]at h2;cases hL:ob L with
    | none=>rw[hL]at h2;exact h2
    | some o =>
     rw[hL]at h2;cases o with
     | box ty cells=>exact absurd hL (ww _ _)
     | _=>exact h2
   rw[data hx];have e:aN w' ob (.one (.c (.ptr L 0))) v=[]:=by
    cases v with
    | pointer p=>cases p with
     | none=>rfl
     | some ad =>
      simp only[aN];cases hL:ob L with
      | none=>rfl
      | some o =>
       cases o with
       | box ty cells=>exact absurd hL (ww _ _)
       | _=>rfl
    | _=>rfl
   rw[e];rfl
 ·rename_i ww;have hx:sU ob d=some (x,ls,ms):=by
   unfold Ah at h2;split at h2
   ·exact(ww _ rfl).elim
   ·exact h2
  rw[data hx];have e:aN w' ob d v=[]:=by
   unfold aN;split
   ·exact(ww _ rfl).elim
   ·rfl
  rw[e];rfl
theorem VD [dF] {sf : lu} {ob : Nat → Option AO} {h' : Fz} {w' : World} : ∀ {ds : List DV} {xs ys : List XA} {u : List (Nat × AO)} {ls ms : List Nat} {vs : List Value}, jR ob ds ys = some u → jZ sf ob ds = some (xs, ls, ms) → RL (zH P h' w' B) ys vs → (asN w' ob ds vs).map (·.1) = ms
  | [],xs,ys,u,ls,ms,vs,h,h2,hr=>by
    simp only[jZ,bW,gy]at h2;rw[<- h2.2.2];cases vs<;>rfl
  | d::ds,xs,[],u,ls,ms,vs,h,h2,hr=>by simp[jR]at h
  | d::ds,xs,y::ys,u,ls,ms,[],h,h2,hr=>hr.elim
  | d::ds,xs,y::ys,u,ls,ms,v::vs,h,h2,hr=>by
    simp only[jR]at h;split at h
    · rename_i u1 u2 e1 e2;simp only[jZ] at h2;split at h2
      · rename_i x bl m1 xs' bls m2 h3 h4;simp only[bW,gy]at h2;rw[<- h2.2.2];simp only[asN,QQ,zns e1 h3 hr.1,VD e2 h4 hr.2]
      · cases h2
    · cases h
theorem zbN:∀{caps:List uk}{ls:List Nat}{cv:List Value},U2 caps=some ls→RL (IK g) caps cv→∀(k L:Nat),ls[k]? = some L→cv[k]? = some (xY (g.bk L))
  | [],ls,cv,h,hr,k,L,hk=>by simp only[U2,bW]at h;subst h;simp at hk
  | .v _::_,ls,cv,h,hr,k,L,hk=>by cases h
  | .b M::caps,ls,[],h,hr,k,L,hk=>hr.elim
  | .b M::caps,ls,v::cv,h,hr,k,L,hk=>by
    simp only[U2]at h;split at h
    · rename_i l hl;simp only[bW]at h;subst h;cases k with
      | zero =>
        simp only[qdM,bW]at hk ⊢;subst hk;exact hr.1
      | succ k =>
        rw[Y9]at hk ⊢;exact zbN hl hr.2 k L hk
    · cases h
theorem zhu{gf np:Nat}{caps:List uk}{cv pre:List Value}(hr:RL (IK g) caps cv)(hp:pre.length=np):∀f np' ls,zdr gf np caps=some (f,np',ls)->∀(k L:Nat),ls[k]? = some L->(pre++cv)[np'+k]? = some (xY (g.bk L)):=by
 intro f np' ls h k L hk;unfold zdr at h;split at h
 ·rename_i l hl;simp only[bW,gy]at h;obtain⟨rfl,rfl,rfl⟩:=h;rw[List.getElem?_append_right omY,show np+k-pre.length=k by omega];exact zbN hl hr k L hk
 ·cases h
theorem P7:∀{cells l:List Cl}{ys:List XC}{u:List (Nat×AO)},ik cells ys=some (l,u)→l.length=cells.length∧(∀x∈u,lC x.2=false)∧∀f caps,l=[.clo f caps]→cells=[.clo f caps]
  | [],l,ys,u,h=>by
    cases ys with
    | nil =>
      simp only[ik,bW,gy]at h;obtain⟨rfl,rfl⟩:=h;exact⟨rfl,λx hx=>by simp at hx,λf caps e=>by cases e⟩
    | cons y ys=>simp[ik]at h
  | c::cells,l,ys,u,h=>by
    cases ys with
    | nil=>cases c<;>simp[ik]at h
    | cons y ys =>
      have ih:=λl' u' h'=>@P7 cells l' ys u' h'
      have vc:∀(M:Nat)(o:AO)(l':List Cl)(u':List (Nat×AO))(c':Cl),lC o=false->(∀f caps,c' ≠ .clo f caps)->ik cells ys=some (l',u') ->
          (c'::l').length=(c::cells).length/\(∀x∈(M,o)::u',lC x.2=false)/\∀f caps,c'::l'=[.clo f caps]->c::cells=[.clo f caps]:=λM o l' u' c' ho hc h'=>by
        obtain⟨i1,i2,i3⟩:=ih l' u' h';refine⟨by simp[i1],λx hx=>?_,λf caps e=>(hc f caps (List.cons.inj e).1).elim⟩;rcases kR.1 hx with rfl|hx
        · exact ho
        · exact i2 x hx
      cases c with
      | p v =>
        cases y with
        | p v' =>
          simp only[ik]at h;split at h
          · rename_i l' u' h';simp only[bW,gy]at h;obtain⟨rfl,rfl⟩:=h;obtain⟨i1,i2,i3⟩:=ih l' u' h';exact⟨by simp[i1],i2,λf caps e=>by cases e⟩
          · cases h
        | _=>simp[ik]at h
      | vec M =>
        cases y with
        | vec e s b n get =>
          simp only[ik]at h;split at h
          · rename_i l' u' h';simp only[bW,gy]at h;obtain⟨rfl,rfl⟩:=h;exact vc M _ l' u' _ rfl (λ_ _ e=>by cases e) h'
          · cases h
        | _=>simp[ik]at h
      | mo M =>
        cases y with
        | mo kt vt q n F =>
          simp only[ik]at h;split at h
          · rename_i l' u' h';simp only[bW,gy]at h;obtain⟨rfl,rfl⟩:=h;exact vc M _ l' u' _ rfl (λ_ _ e=>by cases e) h'
          · cases h
        | _=>simp[ik]at h
      | clo f0 zZx =>
        cases y with
        | slf f2 np2 n2 =>
          simp only[ik]at h;split at h
          · rename_i l' u' h';simp only[bW,gy]at h;obtain⟨rfl,rfl⟩:=h;obtain⟨i1,i2,i3⟩:=ih l' u' h';refine⟨by simp[i1],i2,λf caps e=>?_⟩;obtain⟨e3,e4⟩:=List.cons.inj e;subst e4;rw[e3,qdI i1.symm]
          · cases h
        | _=>simp[ik]at h
      | _=>cases y<;>simp[ik]at h
theorem P8{ob:Nat→Option AO}:∀{ds:List DV}{ys:List XA}{u:List (Nat×AO)},jR ob ds ys=some u→∀x∈u,lC x.2=true→ob x.1=some x.2
  | [],[],u,h=>by simp only[jR,bW]at h;subst h;intro x hx;simp at hx
  | [],_::_,_,h=>by simp[jR]at h
  | _::_,[],_,h=>by simp[jR]at h
  | d::ds,y::ys,u,h=>by
    simp only[jR]at h;split at h
    · rename_i u1 u2 e1 e2;simp only[bW] at h;subst h;intro x hx hc;rcases dU.1 hx with hx | hx
      · unfold II at e1;split at e1
        · split at e1
          · rename_i L YX cells hL;split at e1
            · rename_i ty cs;split at e1
              · rename_i l u' hty OV;simp only[bW] at e1;subst e1;obtain⟨_,h1,h2⟩:=P7 OV;rcases kR.1 hx with rfl | hx
                · have ht := kL hty;subst ht;unfold lC at hc;split at hc
                  · rename_i ty2 f caps e3;simp only[AO.box.injEq]at e3;obtain⟨rfl,rfl⟩:=e3;rw[hL,h2 f caps rfl]
                  · cases hc
                · rw[h1 x hx]at hc;cases hc
              · cases e1
            · cases e1
          · split at e1
            · simp only[bW]at e1;subst e1;simp at hx
            · cases e1
        · split at e1
          · simp only[bW]at e1;subst e1;simp at hx
          · cases e1
      · exact P8 e2 x hx hc
    · cases h
theorem zdR{ms:List Nat}{o:AO}(h:lC o=true):fD ms o=o:=by
 unfold lC at h;split at h
 ·rfl
 ·cases h
theorem zhw{α:Type}{f:α->α}{l:List (Nat×α)}{n:Nat}:lk (kills f l) n=(lk l n).map f:=by
 induction l with
 | nil=>rfl
 | cons x l ih =>
  obtain⟨k,a⟩:=x;rw[kills,aZ,aZ,ih];split<;>rfl
theorem P9 : ∀ {u rest : List (Nat × AO)}, (u.map (·.1)).Nodup → (∀ x ∈ u, lC x.2 = true → lk rest x.1 = some x.2) → ∀ L : Nat, lk ((u.filter fun x => !lC x.2) ++ rest) L = lk (u ++ rest) L
  | [],_,_,_,_=>rfl
  | (k,o)::u,rest,hn,h,L=>by
    rw[oU,qdu]at hn;have ih:=P9 hn.2 (λy hy=>h y (jU _ hy)) L;cases hc:lC o with
    | false =>
      rw[List.filter_cons_of_pos (by simp[hc]),qdZ,qdZ,aZ,aZ,ih]
    | true =>
      rw[List.filter_cons_of_neg (by simp[hc]),qdZ,aZ,ih];split
      · rename_i e;subst e;have h0:=h (k,o) lq hc;rw[gX];cases hu:lk u k with
        | none=>exact h0
        | some o2=>exact(hn.1 (xR.2 ⟨_,fM hu,rfl⟩)).elim
      · rfl
theorem cO.objs_congr(S:cO P nt B w0 h0 g σ a w){l:List (Nat×AO)}(h:∀L,lk l L=lk σ.aB L):cO P nt B w0 h0 g {σ with aB:=l} a w :=
 ⟨S.dfr,S.size,S.env,λL o ho=>S.obj L o (by rw[<- h];exact ho),λL o b ho=>S.own L o b (by rw[<- h];exact ho),
  λL o b L' o' ho kQ=>S.sep L o b L' o' (by rw[<- h];exact ho) (by rw[<- h];exact kQ),S.hw,S.le0,S.hn,S.below,S.bs,
  λt d ht L hL=>by rw[h];exact S.clE t d ht L hL,λL o ho M hM=>by rw[h];exact S.clO L o (by rw[<- h];exact ho) M hM⟩
theorem VE{sf:lu}{gf:FuncId}{C:MK}{ds:List DV}{vals:List Value}(GN:jw P Γ)(S:cO P nt B w0 h0 g σ a w)
    (hC:Γ.mt gf=some C) (OX:RL (rH g) ds vals)
    (kE:∀f np ls,sf=some (f,np,ls)->∀(k L:Nat),ls[k]? = some L->vals[np+k]? = some (xY (g.bk L)))
    {xs ys:List XA} {ls ms:List Nat} {rs:List PA} {u:List (Nat×AO)} (has:jZ sf (lk σ.aB) ds=some (xs,ls,ms)) (hCx:(C xs).o=some (rs,ys)) (OV:jR (lk σ.aB) ds ys=some u)
    (dC:(mO ls&&Nat.ble ms.length 1&&ms.all λM=>((u.filter λx=>!lC x.2).map (·.1)).contains M)=true) (d:Option Nat) :
    dD P gf/\Calls P gf vals.toArray w λe w'=>∃g',Rh g'.h rs e/\cO P nt B w0 h0 g' ⟨kills (gI ms) σ.env,u.filter (λx=>!lC x.2)++kills (fD ms) σ.aB,σ.log⟩ a w':=by
  letI:dF:=match sf with|some (f,np,ls)=>⟨f,np,ls.map g.bk⟩|none=>⟨0,0,[]⟩
  have Uo:Zy g sf:=λf np ls e=>by subst e;exact⟨rfl,rfl,rfl⟩
  have l9:∀k b,(dF.bs)[k]? = some b->vals[dF.np+k]? = some (xY b):=by
    cases sf with
    | none=>intro k b hk;have hk:([]:List Nat)[k]? = some b:=hk;simp at hk
    | some y =>
      obtain⟨f,np,ls⟩:=y;intro k b hk;have hk:(ls.map g.bk)[k]? = some b:=hk;rw[qdc]at hk;obtain⟨L,hL,rfl⟩:=YQ.1 hk;exact kE f np ls rfl k L hL
  have zlC:=dC;simp only[gG,Uz]at zlC;have dC:=zlC.1;obtain⟨x1,x2,x3⟩:=zbK S Uo has OX;have hkb:∀b∈nP w xs vals,∃L∈ls,∃o',lk σ.aB L=some o'/\gW g L o' b:=λb hb=>by
    rw[x2]at hb;obtain⟨L,hL,hb⟩:=lK.1 hb;unfold kB at hb;split at hb
    · rename_i o' kQ;exact⟨L,hL,o',kQ,Rz hb⟩
    · simp at hb
  obtain⟨fO,wL⟩:=GN.mt gf C hC xs ys rs hCx w g.h B vals x1 l9 (by rw[x2];exact Hl S (mX dC.1)) (λb hb=>by
    obtain⟨L,_,o',h1,h2⟩:=hkb b hb;exact S.own L o' b h1 h2) S.hw S.bs
  refine⟨fO,wL.mono ?_⟩;rintro e w' ⟨h',pG,Yz,zKi,jd,hle,IU,hn',hX⟩;let nv:=asN w' (lk σ.aB) ds vals;let g':Gh:=⟨h',g.bk,λM=>match lk nv M with|some x=>x|none=>g.sv M,g.iv⟩;have zPK:ms.Nodup:=by
    match ms,dC.2 with
    | [],_=>exact qj2
    | [x],_=>simp
    | _::_::_,h=>simp at h
  have QK:nv.map (·.1)=ms:=VD OV has Yz;obtain⟨p1,p2,p3,p4⟩:=zbL (P:=P) (B:=B) (g:=g) (h':=h') (w':=w') (g':=g') rfl (λ_=>rfl) (λf np ls e=>Uo f np ls e) S OV has OX Yz (λx hx=>by
    have:=FK (l:=nv) (by rw[QK];exact zPK) (show(x.1,x.2)∈nv from hx);show(match lk nv x.1 with|some x=>x|none=>g.sv x.1)=x.2;rw[this])
  have hul:∀L∈ls,∃o',lk u L=some o':=λL hL=>zI (by rw[p3];exact hL);have S1:=S.swap (u:=u) (kl:=ms) (K:=nP w xs vals) (g':=g') hle IU (λ_=>rfl) (λM hM=>⟨rfl,by
      show(match lk nv M with|some x=>x|none=>g.sv M)=g.sv M;cases hk:lk nv M with
      | none=>rfl
      | some x=>exact(hM (by rw[<- QK];exact xR.2 ⟨_,fM hk,rfl⟩)).elim,rfl⟩)
    (λL hL=>by obtain⟨x,hx⟩:=hul L (PZ has L hL);rw[hx];simp) hX
    (λb hb=>by obtain⟨L,hL,o',h1,h2⟩:=hkb b hb;obtain⟨x,hx⟩:=hul L hL;exact⟨L,x,o',hx,h1,h2⟩)
    (λL x hx=>(p1 _ (fM hx)).2.2)
    (λL x b hx hb=>jd b (by rw[p2];exact lK.2 ⟨_,fM hx,FH (p1 _ (fM hx)).1 hb⟩))
    (λL x b L' x' hx yB hb mf=>by
      rw[p2]at zKi;have:=FI zKi (L,x) (L',x') b (fM hx) (fM yB) (FH (p1 _ (fM hx)).1 hb) (FH (p1 _ (fM yB)).1 mf);exact jX Prod.fst this)
    (λL x hx=>(p1 _ (fM hx)).2.1) (λb o h=>hn' b o h) σ.log
  refine⟨g',pG,S1.objs_congr λL=>P9 (by rw[p3];exact mX dC.1) (λx hx hc=>?_) L⟩;rw[zhw,P8 OV x hx hc];exact jX some (zdR hc)
theorem zbO{sf:lu}{o:Oper}{A:aC}{gf:FuncId}{C:MK}{ds:List DV}{vals:List Value}(GN:jw P Γ)(S:cO P nt B w0 h0 g σ a w)(hd:dJ nt o.dst=true)(zC:∀c,o.op ≠ .defer c)
    (hC:Γ.mt gf=some C) (dA:dD P gf->(execOp a.eval o).run P w=.ok (.enter gf vals.toArray) w) (OX:RL (rH g) ds vals)
    (kE:∀f np ls,sf=some (f,np,ls)->∀(k L:Nat),ls[k]? = some L->vals[np+k]? = some (xY (g.bk L)))
    (hA:uo C sf ds (lk σ.aB)=A) (hs:A.safe):jo P nt B w0 h0 r n i o A σ a w Q:=by
  unfold uo at hA;split at hA
  · rename_i xs ls ms has;split at hA
    · rename_i rs ys hCx;split at hA
      · rename_i hpm;unfold qB at hA;split at hA
        · rename_i u OV;split at hA
          · rename_i dC;subst hA;obtain⟨fO,wL⟩:=VE GN S hC OX kE has hCx OV dC none;refine rM zC (w':=w) (f:=gf) (args:=vals.toArray) (dA fO) (wL.mono ?_);rintro e w' ⟨g',pG,S1⟩;unfold Rh at pG;rw[hpm]at pG;obtain⟨v,rfl,oI⟩:=pG;refine⟨v,rfl,g',_,rfl,?_⟩;rw[RD];exact S1.put (v:=v) (d:=resD rs) hd (Ry (g:=g') oI) (λL hL=>by rw[CX]at hL;simp at hL) σ.log
          · subst hA;exact hs.elim
        · subst hA;exact hs.elim
      · subst hA;exact hs.elim
    · subst hA;exact hs.elim
  · subst hA;exact hs.elim
end
end Go.Pm
namespace Go.Pm
variable [aJ]
open Go.RowKit (Below)
section
variable{P:Program}{Γ:bU}{nt B:Nat}{w0:World}{h0:Fz}{g:Gh}{σ:St}{a:Act}{w:World}{r:Option Nat}{n i:Nat}{Q:Exit->Act->World->Prop}
def znt(d:DV):List Cl:=match d with | .one (.c c)=>[c]|_=>[.junk]
theorem C9 (S : cO P nt B w0 h0 g σ a w) : ∀ (l : List Operand), RL (jg g) (l.flatMap fun x => znt (fU σ.env x)) (l.map a.eval)
  | []=>trivial
  | x::r=>by
    have h:=S.ev x;simp only[oK,oU];unfold znt;cases he:fU σ.env x with
    | one d =>
      cases d with
      | c c=>rw[he]at h;exact⟨h,C9 S r⟩
      | agg cs=>exact⟨trivial,C9 S r⟩
    | tup ds=>exact⟨trivial,C9 S r⟩
theorem KQ{h:Fz}{l:List PV}{vs:List Value}(hr:RL (Rep h) l vs):l.length=vs.length/\∀(j:Nat)(x:PV)(v:Value),l[j]? = some x->vs[j]? = some v->Rep h x v :=
 ⟨hr.length,λj x v hx hv=>by obtain⟨u,hu,Yt⟩:=hr.get j x hx;rw[hu]at hv;simp only[bW]at hv;rw[<- hv];exact Yt⟩
theorem zbP(S:cO P nt B w0 h0 g σ a w):∀(l:List Operand){cs:List uk},CE (fU σ.env) l=some cs→RL (IK g) cs (l.map a.eval)∧∀L∈lL cs,∃o,lk σ.aB L=some o
  | [],cs,h=>by simp only[CE,bW]at h;subst h;exact⟨trivial,λL hL=>by simp[lL]at hL⟩
  | x::l,cs,h=>by
    simp only[CE]at h;split at h
    · rename_i c Iz hc hl;simp only[bW] at h;subst h;obtain⟨i1,i2⟩:=zbP S l hl;have hx:=S.ev x;have hxl:=S.evLab x;unfold zEv at hc;split at hc
      · rename_i v he;simp only[bW]at hc;subst hc;rw[he]at hx;exact⟨⟨hx,i1⟩,i2⟩
      · rename_i L he;simp only[bW] at hc;subst hc;rw[he] at hx hxl;refine⟨⟨hx,i1⟩,λ M hM=>?_⟩;simp only[lL,kR] at hM;rcases hM with rfl | hM
        · exact hxl M (by simp[df,dE,bD])
        · exact i2 M hM
      · cases hc
    · cases h
theorem RF:∀{cs:List uk}{vs:List Value},RL (IK g) cs vs→RL (rH g) (cs.map capD) vs
  | [],[],_=>trivial
  | [],_::_,h=>h.elim
  | _::_,[],h=>h.elim
  | .v _::_,_::_,h=>⟨h.1,RF h.2⟩
  | .b _::_,_::_,h=>⟨h.1,RF h.2⟩
theorem zdS{ev:Operand->DV}{fs ls:List Operand}{l:List PV}(h:Pq ev fs ls=some l):∃x cs,fs=[x]/\ls=[]/\ev x=.one (.agg cs)/\jY cs=some l:=by
 unfold Pq at h;split at h
 ·rename_i x;split at h
  ·rename_i cs hx;exact⟨x,cs,rfl,rfl,hx,h⟩
  ·cases h
 ·cases h
theorem RG{o:Oper}{f:FuncId}{first caps:Array Operand}{A:aC}(S:cO P nt B w0 h0 g σ a w)(hd:dJ nt o.dst=true)(bu:o.op = .makeFunc (.func f) first caps)
    (hA:act P Γ o (fU σ.env) (lk σ.aB)=A) (hs:A.safe):jo P nt B w0 h0 r n i o A σ a w Q:=by
  simp only[act,aMf,bu]at hA;have e:∀l:Array Operand,l.map a.eval=(l.toList.map a.eval).toArray:=λl=>by cases l;simp
  split at hA
  · split at hA
    · rename_i cs hf hc;subst hA;obtain⟨i1,i2⟩:=zbP S caps.toList hc;refine pV (by simp[bu]) (v:=.func (.func f) #[] (caps.toList.map a.eval).toArray) (w':=w) ?_ ⟨g,_,rfl,?_⟩
      · simp only[execOp,bu,Instr.makeFunc,Sem.run_bind,Sem.run_pure,Result.andThen_ok,e,hf,qd3]
      · rw [gm];exact S.put (d:=.cl (.clo f cs)) hd ⟨_,rfl,i1⟩ (λL hL=>i2 L (by simpa [df,dE,bD]using hL)) _
    · subst hA;exact hs.elim
  split at hA
  · rename_i l hb;subst hA;obtain⟨x,cs,e1,e2,hx,hl⟩:=zdS hb;have h1:=S.ev x;rw[hx] at h1;obtain⟨vs,hv,hr⟩:=h1;rw[oz hl] at hr;have hr:RL (λ (x:PV) y=>jg g (.p x) y) l vs:=RL.map_left.1 hr;have hr:RL (Rep g.h) l vs:=hr.mono λ _ _ h=>h;have r1:=KQ hr;refine pV (by simp[bu]) (v:=.func (.func f) #[.agg vs.toArray] #[]) (w':=w) ?_ ⟨g,_,rfl,?_⟩
    · simp only[execOp,bu,Instr.makeFunc,Sem.run_bind,Sem.run_pure,Result.andThen_ok,e,e1,e2,oU,qd3,hv]
    · rw [gm];exact S.put (d:=.p (.fna f l)) hd (Rep.fna f l vs r1.1 r1.2) (kH _) _
  split at hA
  · rename_i l u l' u' h1 h2;subst hA;have h1:ul (lk σ.aB) (first.toList.flatMap λ x=>znt (fU σ.env x))=some (l,u):=h1;have h2:ul (lk σ.aB) (caps.toList.flatMap λ x=>znt (fU σ.env x))=some (l',u'):=h2;obtain⟨h',S1,F⟩:=S.freeze ((Ja h1).append (Ja h2));have r1:=KQ (F.repL h1 (λ y hy=>dU.2 (.inl hy)) (C9 S first.toList));have r2:=KQ (F.repL h2 (λ y hy=>dU.2 (.inr hy)) (C9 S caps.toList));have hv:Rep h' (.fn f l l') (.func (.func f) (first.toList.map a.eval).toArray (caps.toList.map a.eval).toArray):=.fn f l l' _ _ r1.1 r2.1 r1.2 r2.2;refine pV (by simp[bu]) (v:=.func (.func f) (first.toList.map a.eval).toArray (caps.toList.map a.eval).toArray) (w':=w) ?_ ⟨⟨h',g.bk,g.sv,g.iv⟩,_,rfl,?_⟩
    · simp only[execOp,bu,Instr.makeFunc,Sem.run_bind,Sem.run_pure,Result.andThen_ok,e]
    · rw [gm];exact S1.put (d:=.p (.fn f l l')) hd hv (λL hL=>by simp[df,dE,bD]at hL) _
  · subst hA;exact hs.elim
theorem Jg{h h':Fz}{p:PV}{v:Value}(hs:jP p=true)(hr:Rep h' p v):Rep h p v:=by
 cases hr with
 | bool b=>exact .bool b
 | int k n=>exact .int k n
 | _=>cases hs
theorem Dc{h h':Fz}:∀{l:List PV}{vs:List Value},l.all jP=true→RL (Rep h') l vs→RL (Rep h) l vs
  | [],[],_,_=>trivial
  | [],_::_,_,hr=>hr.elim
  | _::_,[],_,hr=>hr.elim
  | p::l,v::vs,hs,hr=>by
    simp only[qdS,gG]at hs;exact⟨Jg hs.1 hr.1,Dc hs.2 hr.2⟩
theorem zbQ{h h':Fz}{x:PA}{v:Value}(hs:zgR x=true)(hr:nU h' x v):nU h x v:=by
 cases x with
 | one p=>exact Jg hs hr
 | agg cs =>
  obtain⟨vs,rfl,hr⟩:=hr;exact⟨vs,rfl,Dc hs hr⟩
theorem KR{h h':Fz}:∀{l:List PA}{vs:List Value},l.all zgR=true→RL (nU h') l vs→RL (nU h) l vs
  | [],[],_,_=>trivial
  | [],_::_,_,hr=>hr.elim
  | _::_,[],_,hr=>hr.elim
  | p::l,v::vs,hs,hr=>by
    simp only[qdS,gG]at hs;exact⟨zbQ hs.1 hr.1,KR hs.2 hr.2⟩
theorem zhx{h h':Fz}{rs:List PA}{v:Value}(hs:UY rs=true)(hr:qK h' rs v):qK h rs v:=by
 match rs,hs,hr with
 | [],_,⟨vs,e,r⟩=>exact⟨vs,e,KR rfl r⟩
 | [x],hs,hr =>
  simp only[UY,qdS,List.all_nil,qje]at hs;exact zbQ hs hr
 | x::y::l,hs,⟨vs,e,r⟩=>exact⟨vs,e,KR hs r⟩
def yR(h h' h2:Fz):Fz:=λb=>match h b,h' b with
 | none,some _=>none
 | _,_=>h2 b
theorem VF{h h' h2:Fz}(h1:jV h h')(h3:jV h' h2):jV h (yR h h' h2):=λb o hb=>by
 show(match h b,h' b with|none,some _=>none|_,_=>h2 b)=some o;rw[hb];exact h3 b o (h1 b o hb)
theorem FM{h h' h2:Fz}:jV (yR h h' h2) h2:=λb o hb=>by
 have hb:(match h b,h' b with|none,some _=>none|_,_=>h2 b)=some o:=hb;split at hb
 ·cases hb
 ·exact hb
theorem Qa{h h' h2:Fz}{n:Nat}(h1:jV h h')(hn:∀b o,h2 b=some o->h' b=some o\/n<=b)(b:Nat)(o:U6)(hb:yR h h' h2 b=some o):h b=some o\/n<=b:=by
 have Us:=FM b o hb;have hb:(match h b,h' b with|none,some _=>none|_,_=>h2 b)=some o:=hb;rcases hn b o Us with h4|h4
 ·cases e:h b with
  | none=>rw[e,h4]at hb;cases hb
  | some x =>
   have:=h1 b x e;rw[h4]at this;exact .inl this.symm
 ·exact .inr h4
theorem ZB{h h' h2:Fz}{k:Nat}(hk:h2 k=none):yR h h' h2 k=none:=by
 show(match h k,h' k with|none,some _=>none|_,_=>h2 k)=none;split
 ·rfl
 ·exact hk
theorem zbR:∀{l:List PV}{o:Nat}{x y:PV},zgS l=true→l[o]? = some x→l[o+1]? = some y→jP x=true→jP y=true→False
  | [],o,x,y,_,hx,_,_,_=>by simp at hx
  | [a],0,x,y,_,_,hy,_,_=>by simp at hy
  | [a],o+1,x,y,_,hx,_,_,_=>by simp at hx
  | a::b::r,0,x,y,h,hx,hy,h1,h2=>by
    simp at hx hy;subst hx hy;simp[zgS,h1,h2]at h
  | a::b::r,o+1,x,y,h,hx,hy,h1,h2=>by
    simp only[zgS,gG]at h;exact zbR (l:=b::r) h.2 (by simpa using hx) (by simpa using hy) h1 h2
theorem KT{h h':Fz}{p q:PV}{v:Value}(hs:jP p=true)(hp:Rep h p v)(hq:Rep h' q v):jP q=true:=by
 cases hp with
 | bool b=>cases hq with
  | bool=>rfl
 | int k n=>cases hq with
  | int=>rfl
 | _=>cases hs
theorem VG{u:mF}(h:zbl u=true):∀x∈u,∃l,x.2=.fbox l/\∀v∈l,jP v=false:=by
 intro y hy;unfold zbl at h;split at h
 ·rcases kR.1 hy with rfl | hy
  ·refine⟨_,rfl,fun v hv => ?_⟩;have:=Aa.1 h v hv;simpa using this
  ·rcases kR.1 hy with rfl | hy
   ·exact⟨_,rfl,λv hv=>by simp only[mg]at hv;subst hv;rfl⟩
   ·simp at hy
 ·cases h
theorem Qb{g:Gh}{ob:Nat→Option AO}{u:mF}{h' h2:Fz}(F:fK g ob u h')(hu:fE ob u)(ww:∀x∈u,∃l,x.2 = .fbox l∧∀v∈l,jP v=false)(hle:jV h' h2){p:PV}(ha:Anch p) :
  ∀{v:Value},Rep h2 p v->Rep (yR g.h h' h2) p v:=by
 induction ha with
 | scal v h=>intro x hr;exact Jg h hr
 | nils=>intro x hr;cases hr;exact .nils
 | sl n s get h GR ih =>
  intro x hr;cases hr with
  | sl0 _ _ Iy=>exact .sl0 _ _ Iy
  | sle _ _ a cap Iy=>exact .sle _ _ a cap Iy
  | sl _ _ _ Iy b o cap C ty fr vs hb kE hlen hc hr =>
   cases n with
   | zero=>exact .sle _ _ _ _ Iy
   | succ m =>
   refine .sl _ _ _ Iy b o cap C ty fr vs ?_ kE hlen hc λi j x hi hx=>ih i x (JB hx) (hr i j x hi hx);show(match g.h b,h' b with|none,some _=>none|_,_=>h2 b)=_;cases e1:g.h b with
   | some y=>exact hb
   | none =>
    cases e2:h' b with
    | none=>exact hb
    | some y =>
     exfalso;have hy:y=.fz (.cells C ty fr):=by
      have:=hle b y e2;rw[hb]at this;exact(YR this).symm
     subst hy;obtain⟨L,x,o',hm,hL,hk⟩:=F.new b e1 _ e2;obtain⟨l0,hl0,hns⟩:=ww _ hm;simp only at hl0;subst hl0;rcases hu _ hm with⟨e,s,b',n,get',_,e3⟩|⟨YX,cells,l,us,e4,e3,e5,e6⟩|⟨te,bb,e,s,b',n,ln,get',_,e3⟩
     ·cases e3
     ·simp only at e3 e4;cases e3;rw[hL]at e4;simp only[bW]at e4;subst e4;obtain⟨C',Yu,nT⟩:=F.box L YX cells l0 us hL e5 e6 hm;have hk:g.bk L=b:=hk;subst hk;rw[e2]at Yu;simp only[bW,U6.fz.injEq,Obj.cells.injEq]at Yu;obtain⟨rfl,rfl,rfl⟩:=Yu;obtain⟨j,x0,hx0,hs0⟩:=h 0;have c0:=hc 0 j x0 omY hx0;have hl:=nT.length;have iC:o+0*s+j<l0.length:=by
       have:=(UV.1 c0).1;simp only[qju]at hl;omega
      obtain⟨v0,hv0,r0⟩:=nT.get _ _ (BR iC);have hv0:C[o+0*s+j]? = some v0:=by simpa using hv0
      rw[hv0]at c0;simp only[bW]at c0;subst c0;have:=KT hs0 (hr 0 j x0 omY hx0) r0;rw[hns _ (YY iC)]at this;cases this
     ·cases e3
theorem Dh{x y:PV}(h:Sm x y):jP x=jP y:=by cases h<;>rfl
theorem zhy:∀{d:Nat}{x y:PV},Sm x y->Aw d x=true->Aw d y=true:=by
 intro d
 induction d with
 | zero=>intro x y _ h;cases h
 | succ d ih =>
  intro x y hs h;have hs2:=Dh hs;cases hs with
  | sl n m s g g' hl hg =>
   have hr:=(Sm.rows (.sl n m s g g' hl hg)).2 0 0;simp only[Aw,gG,qd1,Aa]at h ⊢;obtain⟨⟨x,hx,hxs⟩,h2⟩:=h;obtain⟨j,hj⟩:=Za hx;obtain⟨y,hy,r⟩:=RL.get hr j x hj;refine⟨⟨y,JB hy,by rw[<- Dh r];exact hxs⟩,λz hz=>?_⟩;obtain⟨k,hk⟩:=Za hz;obtain⟨u,hu,r⟩:=RL.get' hr k z hk;exact ih r (h2 u (JB hu))
  | int k a b=>rfl
  | bool a b=>rfl
  | fp l l' o hl hg=>exact h
  | atom p hp=>exact h
theorem VH{d:Nat}{g:Nat->List PV}(hu:ut g)(h:(g 0).all (Aw d)=true){i:Nat}{x:PV}(hx:x∈g i):Aw d x=true:=by
 obtain⟨j,hj⟩:=Za hx;obtain⟨y,hy,r⟩:=RL.get' (hu 0 i) j x hj;exact zhy r (Aa.1 h y (JB hy))
theorem VJ:∀{d:Nat}{x:PV},Aw d x=true->Sm x x->Anch x:=by
 intro d
 induction d with
 | zero=>intro x h;cases h
 | succ d ih =>
  intro x h hs;unfold Aw at h;split at h
  ·exact .nils
  ·rename_i n s g;rw[gG] at h;have hu:ut g:=hs.rows.2;refine .sl _ _ _ (λ i=>?_) λ i y hy=>?_
   ·obtain⟨x,hx,hxs⟩:=qd1.1 h.1;obtain⟨j,hj⟩:=Za hx;obtain⟨y,hy,r⟩:=RL.get (hu 0 i) j x hj;exact⟨j,y,hy,by rw[<- Dh r];exact hxs⟩
   ·refine ih (VH hu h.2 hy) ?_;obtain⟨j,hj⟩:=Za hy;obtain⟨z,hz,r⟩:=RL.get (hu i i) j y hj;rw[hj]at hz;cases hz;exact r
  ·exact .scal _ h
theorem zwt{l m:List PV}(h:RS l m)(hs:sc2 l=true):sc2 m=true:=by
 simp only[sc2,gG,Aa,Uz]at hs ⊢;refine⟨λx hx=>?_,by rw[<- h.length];exact hs.2⟩;obtain⟨j,hj⟩:=Za hx;obtain⟨y,hy,r⟩:=RL.get' h j x hj;rw[<- Dh r];exact hs.1 y (JB hy)
theorem zhz{l m:List PV}(h:RS l m)(hs:l.all jP=true):m.all jP=true:=by
 rw[Aa]at hs ⊢;intro x hx;obtain⟨j,hj⟩:=Za hx;obtain⟨y,hy,r⟩:=RL.get' h j x hj;rw[<- Dh r];exact hs y (JB hy)
theorem cO.borrow(S:cO P nt B w0 h0 g σ a w){u:mF}{h' h2 hx:Fz}{w':World}(F:fK g (lk σ.aB) u h')(hb:xJ h' w.heap.size w w')(Yw:Hw h2 w')
    (h1:jV g.h hx) (h3:jV hx h2) (h4:∀b o,hx b=some o->g.h b=some o\/w.heap.size<=b):cO P nt B w0 h0 ⟨hx,g.bk,g.sv,g.iv⟩ σ a w' :=
  S.world h1 (λb x mf=>Yw b x (h3 b x mf)) h4 ⟨hb.os,hb.tape,hb.output,hb.size,hb.drawn,λk hk=>hb.block k hk⟩
theorem ownsRow_base{w:World}{base B e s n:Nat}{v:Value}{xs:List Value}(h:w.ownsRow base e s v n xs)(hB:∀k,base<=k->v.ownBlock=some k->B<=k):w.ownsRow B e s v n xs:=by
 refine⟨h.1,?_⟩;rcases h.2 with hn|⟨k,cap,cur,rfl,hk,rest⟩
 ·exact .inl hn
 ·exact .inr ⟨k,cap,cur,rfl,hB k hk rfl,rest⟩
theorem zbS{args:Array Operand}{ev:Operand->DV}{p:DV}(h:args.toList.map ev=[p]):∃x,args = #[x]/\ev x=p:=by
 match hl:args.toList,h with
 | [x],h =>
  simp at h;exact⟨x,by rw[<- qdp (xs:=args),hl],h⟩
 | [],h=>simp at h
 | _::_::_,h=>simp at h
theorem znu{e m s:Nat}{get:Nat->List PV}{args:Array Operand}(S:cO P nt B w0 h0 g σ a w)(h:zv4 P e (args.toList.map (fU σ.env))=some (m,s,get)):∃x,args = #[x]/\Rep g.h (.sl m s get) (a.eval x):=by
 generalize hl:args.toList.map (fU σ.env)=l at h;unfold zv4 at h;split at h
 ·cases h;obtain⟨x,rfl,hx⟩:=zbS hl;exact⟨x,rfl,jF S hx⟩
 ·split at h
  ·rename_i z hz;split at h
   ·rename_i k hk;cases h;obtain⟨x,rfl,hx⟩:=zbS hl;have:=jF S hx;refine⟨x,rfl,?_⟩;generalize a.eval x=v at this;cases this;exact .sl0 _ _ λ_ _=>I9 hz hk
   ·cases h
  ·cases h
 ·cases h
theorem VK{α:Type}:∀{l m:List α}{x:α},JM l=some (m,x)→l=m++[x]
  | [],m,x,h=>by cases h
  | d::r,m,x,h=>by
    simp only[JM]at h;split at h
    · rename_i l' y e;cases h;rw[VK e];rfl
    · rename_i e;cases h;cases r with
      | nil=>rfl
      | cons y r =>
        simp only[JM]at e;split at e<;>cases e
theorem Qc{f:Operand->DV}{args:Array Operand}{ds:List DV}{d:DV}(h:JM (args.toList.map f)=some (ds,d)):∃(xs:List Operand)(x:Operand),args.toList=xs++[x]/\ds=xs.map f/\f x=d:=by
 obtain⟨xs,ys,e1,e2,e3⟩:=List.map_eq_append_iff.1 (VK h)
 match ys,e3 with
 | [x],e3 =>
  simp only[oU,qd3,GZ,jqM]at e3;exact⟨xs,x,e1,e2.symm,e3⟩
theorem VL{f:Operand->Value}{args:Array Operand}{xs:List Operand}{x:Operand}(h:args.toList=xs++[x]):(#[]++Array.map f args ++ #[])=(xs.map f++[f x]).toArray:=by
 have e:args=(xs++[x]).toArray:=by rw[<- h]
 subst e;simp
theorem zhA{o:Oper}{f:Operand}{args:Array Operand}{ts:Array TypeId}{A:aC}{gf:FuncId}{e s b:Nat}{F:List PA→Nat→(Nat→List PV)→ae (Nat×(Nat→List PV))}(gp:gz P gf (.grow e s b F))(S:cO P nt B w0 h0 g σ a w)(hd:dJ nt o.dst=true)
    (bu:o.op=.call {callee:=.value f,args,argTypes:=ts}) (NM:a.eval f=.func (.func gf) #[] #[])
    (hA:kG P Γ o (.grow e s b F) (args.toList.map (fU σ.env)) (lk σ.aB)=A) (hs:A.safe):jo P nt B w0 h0 r n i o A σ a w Q:=by
  unfold kG at hA;simp only at hA;split at hA
  · rename_i ds L NP;obtain⟨xs,x,gB,rfl,hx⟩:=Qc NP;split at hA
    · rename_i az e' s' b' n get has hL;split at hA
      · rename_i m get' hF;split at hA
        · rename_i dC;obtain⟨rfl,rfl,rfl⟩:=dC;subst hA;obtain⟨⟨xQ,lU⟩,_⟩:=iJ S hx;obtain⟨iF,nH,ys,Yz,hr⟩:=S.obj L _ hL;have hav:=S.frozen0.repDs has (λ y hy=>hy) (CY S xs);obtain⟨fO,dA⟩:=gp w g.h B az (xs.map a.eval) (g.sv L) n get m get' hF hav (by rw[<- xQ];exact lU) iF nH ⟨ys,Yz,hr⟩ (λ k hk=>S.own L _ k hL hk) S.hw S.bs;refine rM (by simp[bu]) (w':=w) (f:=gf) (args:=(xs.map a.eval ++ [g.sv L]).toArray) ?_ (dA.mono ?_)
          · simp only [execOp,bu,resolve,NM,Deferred.ofValue,Sem.run_bind,Sem.run_pure,Result.andThen_ok,invoke];rw[show(#[]++Array.map a.eval args ++ #[])=(xs.map a.eval++[g.sv L]).toArray by rw[<- xQ];exact VL gB];exact eG fO
          rintro r0 w' ⟨h2,v',rfl,VM,Zr,⟨zs,Ak,hrz⟩,hblk,hle,Yw,hn2,hX⟩;let g':Gh:=⟨h2,g.bk,λM=>if M=L then v' else g.sv M,g.iv⟩;have l9:g'.sv L=v':=eX rfl;have zhB:∀M x,lk [(L,AO.vec e' s' b' m get')] M=some x->M=L/\x=.vec e' s' b' m get':=λM x h=>by
            rw[aZ]at h;split at h
            · rename_i e;exact⟨e.symm,(YR h).symm⟩
            · cases h
          have S1 := S.swap (u := [(L, .vec e' s' b' m get')]) (kl := [L]) (K := (g.sv L).ownBlock.toList) (g' := g') hle Yw (fun _ => rfl)
            (λM hM=>⟨rfl,fB λe=>hM (by rw[e];exact mg.2 rfl),rfl⟩)
            (λM hM=>by rw[mg.1 hM,aZ,eX rfl];simp) hX
            (λk hk=>⟨L,_,_,by rw[aZ,eX rfl],hL,(show(g.sv L).ownBlock=some k by simpa using hk)⟩)
            (λM x hx=>by obtain⟨rfl,rfl⟩:=zhB M x hx;exact⟨⟨Zr,iF.2⟩,nH,zs,by rw[l9];exact Ak,hrz⟩)
            (λM x k hx hk=>by obtain⟨rfl,rfl⟩:=zhB M x hx;exact hblk k (by rw[<- l9];exact hk))
            (λM x k M' x' hx yB _ _=>by rw[(zhB M x hx).1,(zhB M' x' yB).1])
            (λM x hx N hN=>by obtain⟨rfl,rfl⟩:=zhB M x hx;simp[dR]at hN) (λk y hk=>hn2 k y hk) σ.log
          refine⟨v',rfl,g',_,rfl,?_⟩;rw[RD];refine S1.put (v:=v') hd (d:=.cl (.vec L)) ⟨l9.symm,VM⟩ (λM hM=>?_) σ.log;simp[df,dE,bD]at hM;subst hM;exact⟨_,by rw[qzd,aZ,eX rfl]⟩
        · subst hA;exact hs.elim
      · subst hA;exact hs.elim
    · subst hA;exact hs.elim
  · rename_i ds NP;obtain⟨xs,x,gB,rfl,hx⟩:=Qc NP;split at hA
    · rename_i az dst has GL;split at hA
      · rename_i ie z ig hi hz;split at hA
        · rename_i l hl;split at hA
          · rename_i m get' hF;split at hA
            · rename_i dC;obtain⟨jO,rfl,iF⟩:=dC;subst hA;obtain⟨zv,GM,Ak⟩:=jc hz hi;have xQ:a.eval x=.slice none 0 0:=by
                have:=jF S hx;generalize a.eval x=v at this;cases this;rfl
              have hnb:(a.eval x).ownBlock=none:=by rw[xQ];rfl
              have hav:=S.frozen0.repDs has (λy hy=>hy) (CY S xs);have nH:∃i z,P.info? e=some i/\i.size=s/\i.bytes=ie.bytes/\i.zero=some z/\z.cells.size=s:=⟨ie,zv,hi,jO,rfl,GM,by rw[Ak,jO]⟩;obtain⟨fO,dA⟩:=gp w g.h B az (xs.map a.eval) (a.eval x) 0 (λ_=>l) m get' hF hav (by rw[xQ];rfl) ⟨JR (I9 hz hl),iF⟩ nH ⟨[],by rw[xQ];exact World.ownsRow_nil w B e s,λi hi=>absurd hi omY⟩ (λk hk=>by rw[hnb]at hk;cases hk) S.hw S.bs;refine rM (by simp[bu]) (w':=w) (f:=gf) (args:=(xs.map a.eval++[a.eval x]).toArray) ?_ (dA.mono ?_)
              · simp only [execOp,bu,resolve,NM,Deferred.ofValue,Sem.run_bind,Sem.run_pure,Result.andThen_ok,invoke];rw[VL gB];exact eG fO
              rintro r0 w' ⟨h2,v',rfl,VM,Zr,⟨zs,zwo,hrz⟩,hblk,hle,Yw,hn2,hX⟩;have ui:∀k,v'.ownBlock=some k->w.heap.size<=k/\h2 k=none:=λk hk=>by
                obtain⟨h3,h4⟩:=hblk k hk;exact⟨h3.elim (λh=>by rw[hnb]at h;simp at h) id,h4⟩
              have S2:=S.world hle Yw (λk y hk=>by
                rcases hn2 k y hk with h|h|h
                · exact .inl h
                · exact .inr h
                · rw[hnb]at h;simp at h) ⟨hX.os,hX.tape,hX.output,hX.size,hX.drawn,λk hk=>hX.block k hk (by rw[hnb];simp)⟩
              have S3:=S2.adopt (t:=dst) (v:=v') (e:=e) (s:=s) (b:=ie.bytes) (n:=m) (get:=get') ig (λk hk=>⟨EW S.bs (ui k hk).1,(ui k hk).2,λL o ho dh=>by
                  have iy:gW g L o k:=dh;have:=iI (S.obj L o ho) iy;have:=(ui k hk).1;omega⟩) (by
                refine⟨⟨Zr,iF⟩,nH,zs,?_,hrz⟩;rw[show((⟨h2,g.bk,g.sv,g.iv⟩:Gh).setSv dst v').sv dst=v' by simp[Gh.setSv]];exact zwo)
              refine⟨v',rfl,(⟨h2,g.bk,g.sv,g.iv⟩:Gh).setSv dst v',_,rfl,?_⟩;rw[gm];refine S3.put (v:=v') hd (d:=.cl (.vec dst)) ⟨by simp[Gh.setSv],VM⟩ ?_ _;intro L hL;simp[df,dE,bD]at hL;subst hL;exact⟨_,by rw[aZ,eX rfl]⟩
            · subst hA;exact hs.elim
          · subst hA;exact hs.elim
        · subst hA;exact hs.elim
      · subst hA;exact hs.elim
    · subst hA;exact hs.elim
  · subst hA;exact hs.elim
theorem znv{o:Oper}{f:Operand}{args:Array Operand}{ts:Array TypeId}{A:aC}{gf:FuncId}(GN:jw P Γ)(S:cO P nt B w0 h0 g σ a w)(hd:dJ nt o.dst=true)
    (bu:o.op=.call {callee:=.value f,args,argTypes:=ts}) (NM:a.eval f=.func (.func gf) #[] #[])
    (hA:kG P Γ o (Γ.own gf) (args.toList.map (fU σ.env)) (lk σ.aB)=A) (hs:A.safe):jo P nt B w0 h0 r n i o A σ a w Q:=by
  have enter:∀x,args = #[x]->dD P gf->(execOp a.eval o).run P w=.ok (.enter gf #[a.eval x]) w:=by
    rintro x rfl fO;simp only[execOp,bu,resolve,NM,Deferred.ofValue,Sem.run_bind,Sem.run_pure,Result.andThen_ok,invoke];rw[show(#[]++Array.map a.eval #[x] ++ #[]) = #[a.eval x]by simp];exact eG fO
  have gp:=GN.own gf;unfold kG at hA;split at hA
  · subst hA;exact hs.elim
  · rename_i e s b hk;rw[hk] at gp;split at hA
    · rename_i L hf caps gB;obtain⟨x,y,rfl,hx,hy⟩:=Kt gB;obtain⟨⟨xQ,lU⟩,_⟩:=iJ S hx;split at hA
      · rename_i e' s' b' m get ag hL uP;split at hA
        · rename_i dC;obtain⟨rfl,rfl,rfl⟩:=dC;subst hA;have qJ:zv1 m (λi j=>(JK (Γ.cfn hf) caps ag get i j).isSome) (nY (Γ.cfn hf) caps ag get):=hs;obtain⟨iF,nH,xs,hxs,hr⟩:=S.obj L _ hL;have jd:∀k,(g.sv L).ownBlock=some k->g.h k=none:=λk hk=>(S.own L _ k hL hk).2;have uh:=jF S hy;generalize QI:a.eval y=yv at uh;cases uh with
          | fn _ _ _ fv cv l1 l2 hf1 EH =>
            have e1:fv=[]:=qdI l1.symm;subst e1;obtain⟨ii,zz,hi1,hi2,_⟩:=nH;obtain⟨fO,dA⟩:=gp w g.h B (g.sv L) m get hf caps cv ag (Γ.cfn hf) (GN.cmp hf) (KN l2 EH) uP ⟨ii,hi1,hi2⟩ iF.2 ⟨xs,hxs,hr⟩ (by rw[<- xQ];exact lU) S.hw jd S.bs qJ;refine rM (by simp[bu]) (w':=w) (f:=gf) (args:=#[a.eval x,a.eval y]) ?_ ?_
            · simp only [execOp,bu,resolve,NM,Deferred.ofValue,Sem.run_bind,Sem.run_pure,Result.andThen_ok,invoke];rw[show(#[]++Array.map a.eval #[x,y] ++ #[]) = #[a.eval x,a.eval y]by simp];exact eG fO
            · rw [xQ, QI];refine dA.mono ?_;rintro r0 w' ⟨rfl,⟨xs',zPL,uT⟩,hg⟩;refine⟨.tuple #[],rfl,g,_,rfl,?_⟩;rw[gm];have hold:∀ k,k < w.heap.size->¬ (g.sv L).ownBlock=some k->w'.heap[k]? = w.heap[k]?:=λ k hk ja=>hg.block k hk (λ e=>ja e.symm)
              have S' := S.write2 (o' := .vec e' s' b' m (JL m (nY (Γ.cfn hf) caps ag get) get)) hL (fun b hb => hb) ⟨⟨hg.os, hg.tape, hg.output, hg.size, fun k hk => hold k (qdF hk S.bs) (fun e => by have := (S.own L _ k hL e).1; omega)⟩, hg.drawn⟩
                hold ⟨⟨wE iF.1 _,iF.2⟩,⟨ii,zz,hi1,hi2,by assumption⟩,xs',zPL,uT⟩ (λM hM=>by simp[dR]at hM)
              exact S'.put (d:=.tup []) hd ⟨[],rfl,trivial⟩ (λL hL=>by simp[df]at hL) _
        · subst hA;exact hs.elim
      · subst hA;exact hs.elim
    · subst hA;exact hs.elim
  · rename_i e s b hk;rw[hk] at gp;split at hA
    · rename_i m s' get dst gB GL;obtain⟨x,rfl,hx⟩:=znu S gB;split at hA
      · rename_i ie z ig hi hz;split at hA
        · rename_i dC;obtain⟨rfl,jO,rfl,iF⟩:=dC;subst hA;have qJ:m*ie.bytes<=140737488355328/\m<=9223372036854775807:=hs;obtain⟨zv,GM,Ak⟩:=jc hz hi;obtain⟨fO,dA⟩:=gp w g.h (a.eval x) m get hx S.hw qJ.1 qJ.2;refine rM (by simp[bu]) (w':=w) (f:=gf) (args:=#[a.eval x]) (enter x rfl fO) (dA.mono ?_);rintro r0 w' ⟨h',v',rfl,lU,⟨xs,hxs,hr⟩,hnh,hb,hle,IU,hn'⟩;refine⟨v',rfl,?_⟩;have S2:=S.world hle IU hn' hb;have ui:∀k,v'.ownBlock=some k->w.heap.size<=k:=λk hk=>(hxs.lt k hk).1;have S3:=S2.adopt (t:=dst) (v:=v') (e:=e) (s:=s') (b:=ie.bytes) (n:=m) (get:=get) ig (λk hk=>⟨EW S.bs (ui k hk),hnh k hk,λL o ho dh=>by
              have iy:gW g L o k:=dh;have:=iI (S.obj L o ho) iy;have:=ui k hk;omega⟩) (by
            refine⟨⟨hx.un.rows.2,iF⟩,⟨ie,zv,hi,jO,rfl,GM,by rw[Ak,jO]⟩,xs,?_,hr⟩;rw[show((⟨h',g.bk,g.sv,g.iv⟩:Gh).setSv dst v').sv dst=v' by simp[Gh.setSv]];exact ownsRow_base hxs λk hk _=>EW S.bs hk)
          refine⟨(⟨h',g.bk,g.sv,g.iv⟩:Gh).setSv dst v',_,rfl,?_⟩;rw[gm];refine S3.put (v:=v') hd (d:=.cl (.vec dst)) ⟨by simp[Gh.setSv],lU⟩ ?_ _;intro L hL;simp[df,dE,bD]at hL;subst hL;exact⟨_,by rw[aZ,eX rfl]⟩
        · subst hA;exact hs.elim
      · subst hA;exact hs.elim
    · subst hA;exact hs.elim
  · rename_i e s b F hk;rw[hk] at gp;split at hA
    · rename_i az u dst has GL;split at hA
      · rename_i n get rs ie z hF ig hi hz;split at hA
        · rename_i dC;obtain⟨jO,rfl,iF,zEQ,zER⟩:=dC;subst hA;obtain⟨zv,GM,Ak⟩:=jc hz hi;obtain⟨h',S1,F'⟩:=S.freeze (yM has);have gB:=F'.repDs has (λ y hy=>hy) (CY S args.toList);obtain⟨fO,dA⟩:=gp w h' az (args.toList.map a.eval) n get rs hF gB S1.hw;refine rM (by simp[bu]) (w':=w) (f:=gf) (args:=(args.toList.map a.eval).toArray) ?_ (dA.mono ?_)
          · simp only [execOp,bu,resolve,NM,Deferred.ofValue,Sem.run_bind,Sem.run_pure,Result.andThen_ok,invoke];rw[show(#[]++Array.map a.eval args ++ #[])=(args.toList.map a.eval).toArray by cases args;simp];exact eG fO
          rintro r0 w' ⟨h2,v',xs,rfl,hxr,lU,Zr,⟨ys,Yz,hr⟩,hnh,hb,hle,Yw,hn2⟩;have hlr:∀i,i<n->RL (Rep (yR g.h h' h2)) (get i) ((ys.drop (i*s)).take s):=λi hi=>by
            cases u with
            | nil =>
              refine(hr i hi).mono λ_ _ h=>Rep.mono (λb o hbo=>?_) h;show(match g.h b,h' b with|none,some _=>none|_,_=>h2 b)=some o;cases e1:g.h b with
              | some y=>exact hbo
              | none =>
                cases e2:h' b with
                | none=>exact hbo
                | some y =>
                  obtain⟨L,x,o',hm,_⟩:=F'.new b e1 _ e2;simp at hm
            | cons x l =>
              have h3:=zEQ;unfold zg0 at h3;split at h3
              · rename_i e;cases e
              · split at h3
                · rename_i e;exact(hr i hi).mono_mem λp v hp h=>Qb F' (yM has) (VG e) hle (VJ (VH Zr h3 hp) (by
                    obtain⟨j,hj⟩:=Za hp;obtain⟨z,hz,r⟩:=RL.get (Zr i i) j p hj;rw[hj]at hz;cases hz;exact r)) h
                · exact Dc (zhz (Zr 0 i) h3) (hr i hi)
          have S2:=S.borrow F' hb Yw (VF F'.le hle) FM (Qa F'.le hn2);have ui:∀k,v'.ownBlock=some k->w.heap.size<=k:=λk hk=>(Yz.lt k hk).1;have S3:=S2.adopt (t:=dst) (v:=v') (e:=e) (s:=s) (b:=ie.bytes) (n:=n) (get:=get) ig (λk hk=>⟨EW S.bs (ui k hk),ZB (hnh k hk),λL o ho dh=>by
              have iy:gW g L o k:=dh;have:=iI (S.obj L o ho) iy;have:=ui k hk;omega⟩) (by
            refine⟨⟨Zr,iF⟩,⟨ie,zv,hi,jO,rfl,GM,by rw[Ak,jO]⟩,ys,?_,hlr⟩;rw[show((⟨yR g.h h' h2,g.bk,g.sv,g.iv⟩:Gh).setSv dst v').sv dst=v' by simp[Gh.setSv]];exact ownsRow_base Yz λk hk _=>EW S.bs hk)
          refine⟨U7 v' xs rs,rfl,(⟨yR g.h h' h2,g.bk,g.sv,g.iv⟩:Gh).setSv dst v',_,rfl,?_⟩;rw[gm];have hvx:RL (Rep (yR g.h h' h2)) rs xs:=Dc zER hxr;cases rs with
          | nil =>
            refine S3.put (v:=v') hd (d:=.cl (.vec dst)) ⟨by simp[Gh.setSv],lU⟩ ?_ _;intro L hL;simp[df,dE,bD]at hL;subst hL;exact⟨_,by rw[aZ,eX rfl]⟩
          | cons x l =>
            refine S3.put (v:=.tuple (v'::xs).toArray) hd (d:=.tup (.c (.vec dst)::(x::l).map λv=>.c (.p v))) ⟨v'::xs,rfl,⟨by simp[Gh.setSv],lU⟩,?_⟩ ?_ _
            · refine RL.map_left.2 (hvx.mono λ_ _ h=>h)
            · intro L hL;have QM:L=dst:=by
                simp only[df,oK,dU,lK,xR]at hL;rcases hL with hL|⟨d,⟨v,_,rfl⟩,hL⟩
                · simpa [dE,bD]using hL
                · simp[dE,bD]at hL
              subst QM;exact⟨_,by rw[aZ,eX rfl]⟩
        · subst hA;exact hs.elim
      · subst hA;exact hs.elim
    · subst hA;exact hs.elim
  · rename_i e s b F hk;rw[hk]at gp;exact zhA (Γ:=Γ) gp S hd bu NM hA hs
theorem znw{g:Gh}{ob:Nat→Option AO}{u:mF}{h' h2:Fz}{n s:Nat}{get:Nat→List PV}{v:Value}(F:fK g ob u h')(hu:fE ob u)(ww:u.all zts=true)(hle:jV h' h2)(hg:∀i,sc2 (get i)=true)
    (hr:Rep h2 (.sl n s get) v):Rep (yR g.h h' h2) (.sl n s get) v:=by
  cases hr with
  | sl0 _ _ Iy=>exact .sl0 _ _ Iy
  | sle _ _ a cap Iy=>exact .sle _ _ a cap Iy
  | sl _ _ _ Iy b o cap C ty fr vs hb kE hlen hc hr =>
    cases n with
    | zero=>exact .sle _ _ _ _ Iy
    | succ m =>
    have hsc:∀i j x,(get i)[j]? = some x->jP x=true:=λi j x hx=>by
      have:=hg i;simp only[sc2,gG,Aa]at this;exact this.1 x (JB hx)
    refine .sl _ _ _ Iy b o cap C ty fr vs ?_ kE hlen hc λi j x hi hx=>Jg (hsc i j x hx) (hr i j x hi hx);show(match g.h b,h' b with|none,some _=>none|_,_=>h2 b)=_;cases e1:g.h b with
    | some y=>exact hb
    | none =>
      cases e2:h' b with
      | none=>exact hb
      | some y =>
        exfalso;have hy:y=.fz (.cells C ty fr):=by
          have:=hle b y e2;rw[hb]at this;exact(YR this).symm
        subst hy;obtain⟨L,x,o',hm,hL,hk⟩:=F.new b e1 _ e2;have hna:=Aa.1 ww _ hm;have z1H:2<=(get 0).length:=by
          have:=hg 0;simp only[sc2,gG,Uz]at this;exact this.2
        rcases hu _ hm with⟨e,s,b',n,get',_,e3⟩|⟨YX,cells,l,us,e4,e3,e5,e6⟩|⟨te,bb,e,s,b',n,ln,get',_,e3⟩
        · simp only at e3;subst e3;cases hna
        · simp only at e3 e4;subst e3;rw[hL]at e4;simp only[bW]at e4;subst e4;obtain⟨C',Yu,nT⟩:=F.box L YX cells l us hL e5 e6 hm;have hk:g.bk L=b:=hk;subst hk;rw[e2]at Yu;simp only[bW,U6.fz.injEq,Obj.cells.injEq]at Yu;obtain⟨rfl,rfl,rfl⟩:=Yu;obtain⟨x0,hx0⟩:∃x,(get 0)[0]? = some x:=⟨_,BR omY⟩;obtain⟨x1,hx1⟩:∃x,(get 0)[1]? = some x:=⟨_,BR omY⟩;have c0:=hc 0 0 x0 omY hx0;have c1:=hc 0 1 x1 omY hx1;simp only[qzb,qjd]at c0 c1;have hl:=nT.length;have l0:o<l.length:=by
            have:=(UV.1 c0).1;simp at hl;omega
          have l1:o+1<l.length:=by
            have:=(UV.1 c1).1;simp at hl;omega
          obtain⟨v0,hv0,r0⟩:=nT.get o _ (BR l0);obtain⟨v1,hv1,r1⟩:=nT.get (o+1) _ (BR l1);have hv0:C[o]? = some v0:=by simpa using hv0
          have hv1:C[o+1]? = some v1:=by simpa using hv1
          rw[hv0]at c0;rw[hv1]at c1;simp only[bW]at c0 c1;subst c0 c1;exact zbR hna (BR l0) (BR l1) (KT (hsc 0 0 x0 hx0) (hr 0 0 x0 omY hx0) r0) (KT (hsc 0 1 x1 hx1) (hr 0 1 x1 omY hx1) r1)
        · simp only at e3;subst e3;cases hna
theorem zhC{g:Gh}{ob:Nat->Option AO}{u:mF}{h' h2:Fz}{r:List PA}{v:Value}(F:fK g ob u h')(hu:fE ob u)(hl:UZ u r=true)(hle:jV h' h2)(hr:qK h2 r v):qK (yR g.h h' h2) r v:=by
 unfold UZ at hl;split at hl
 ·rename_i n s get x us;have Iy:Sm (.sl n s get) (.sl n s get):=Rep.un (h:=h2) (v:=v) hr;have Zr:ut get:=Iy.rows.2;cases hg:sc2 (get 0)with
  | true =>
   simp only[hg]at hl;exact znw (n:=n) (s:=s) (get:=get) (v:=v) F hu hl hle (λi=>zwt (Zr 0 i) hg) hr
  | false =>
   simp only[hg,gG]at hl;exact Qb F hu (λy hy=>VG hl.1 y hy) hle (VJ hl.2 Iy) hr
 ·cases hl
theorem VN{o:Oper}{gf:FuncId}{args:Array Operand}{az pre post:List PA}{pv qv:List Value}{u:mF}{A:aC}(gp:jw P Γ)(S:cO P nt B w0 h0 g σ a w)(hd:dJ nt o.dst=true)
    (zC:∀c,o.op ≠ .defer c) (zXt:RL (nU g.h) pre pv) (zKz:RL (nU g.h) post qv) (has:iD (lk σ.aB) (args.toList.map (fU σ.env))=some (az,u))
    (zES:dD P gf->(execOp a.eval o).run P w=.ok (.enter gf (pv++args.toList.map a.eval++qv).toArray) w) {jh:List Nat} {rs:List PA}
    (hC:(Γ.fn gf (pre++az++post)).o=some rs) (hA:lH jh u rs=A):jo P nt B w0 h0 r n i o A σ a w Q:=by
    obtain⟨h',S1,F⟩:=S.freeze (yM has);have gB:=F.repDs has (λy hy=>hy) (CY S args.toList);have up:∀{l:List PA}{vs:List Value},RL (nU g.h) l vs->RL (nU h') l vs:=λhr=>hr.mono λx v hx=>by
      cases x with
      | one p=>exact Rep.mono F.le hx
      | agg cs=>obtain⟨ws,e,hr⟩:=hx;exact⟨ws,e,hr.mono λ_ _ h=>h.mono F.le⟩
    have GN:RL (nU h') (pre++az++post) (pv++args.toList.map a.eval++qv):=((up zXt).append gB).append (up zKz);obtain⟨fO,dA⟩:=gp.fn gf (pre++az++post) rs hC w h' _ GN S1.hw;refine rM zC (w':=w) (f:=gf) (args:=(pv++args.toList.map a.eval++qv).toArray) (zES fO) (dA.mono ?_);rintro e w' ⟨h2,v,rfl,oI,hb,hle,Yw,hn2⟩;refine⟨v,rfl,?_⟩;have fin:∀{g':Gh},cO P nt B w0 h0 g' σ a w'->qK g'.h rs v->∃g'' σ',σ'=σ.upd i o.dst (rd jh) (resD rs) [] []/\cO P nt B w0 h0 g'' σ' (a.put o.dst v) w':=λS2 hr =>
      ⟨_,_,rfl,by rw[gm];exact S2.put (v:=v) (d:=resD rs) hd (Ry hr) (λL hL=>by rw[CX]at hL;simp at hL) σ.log⟩
    subst hA;unfold lH;cases hsc:UY rs with
    | true=>exact fin (S.borrow F hb Yw (λ_ _ h=>h) (λb x hx=>hle b x (F.le b x hx)) (λ_ _ h=>.inl h)) (zhx hsc oI)
    | false =>
      cases hl:UZ u rs with
      | true=>exact fin (S.borrow F hb Yw (VF F.le hle) FM (Qa F.le hn2)) (zhC F (yM has) hl hle oI)
      | false =>
        exact⟨⟨h2,g.bk,g.sv,g.iv⟩,_,rfl,by
          rw[gm];exact(S1.world hle Yw hn2 hb).put (v:=v) (d:=resD rs) hd (Ry (g:=g) oI) (λL hL=>by rw[CX]at hL;simp at hL) σ.log⟩
theorem zhD{o:Oper}{f:Operand}{args:Array Operand}{ts:Array TypeId}{A:aC}(gp:jw P Γ)(S:cO P nt B w0 h0 g σ a w)(hd:dJ nt o.dst=true)
    (bu:o.op=.call {callee:=.value f,args,argTypes:=ts})
    (hA:act P Γ o (fU σ.env) (lk σ.aB)=A) (hs:A.safe):jo P nt B w0 h0 r n i o A σ a w Q:=by
  simp only[act,aCl,bu]at hA;split at hA
  · rename_i gf caps hf;split at hA
    · rename_i C hC;obtain⟨cv,NM,kE⟩:=(iJ S hf).1;refine zbO (vals:=args.toList.map a.eval++cv) gp S hd (by simp[bu]) hC (λfO=>?_) ((CY S args.toList).append (RF kE)) (zhu kE (by simp)) hA hs;simp only[execOp,bu,resolve,NM,Deferred.ofValue,Sem.run_bind,Sem.run_pure,Result.andThen_ok,invoke];rw[show(#[]++Array.map a.eval args++cv.toArray)=(args.toList.map a.eval++cv).toArray by cases args;simp];exact eG fO
    · subst hA;exact hs.elim
  · rename_i gf first caps hf
    split at hA
    · rename_i C hC;have uh:=jF S hf;generalize NM:a.eval f=fvv at uh;cases uh with
      | fn _ _ _ fv cv l1 l2 hf1 EH =>
        have hp:∀{l:List PV}{vs:List Value},RL (Rep g.h) l vs->RL (rH g) (l.map λv=>DV.p v) vs:=λhr=>RL.map_left.2 hr;refine zbO (vals:=fv++args.toList.map a.eval++cv) gp S hd (by simp[bu]) hC (λfO=>?_) (((hp (KN l1 hf1)).append (CY S args.toList)).append (hp (KN l2 EH))) (λ_ _ _ e=>by cases e) hA hs;simp only[execOp,bu,resolve,NM,Deferred.ofValue,Sem.run_bind,Sem.run_pure,Result.andThen_ok,invoke];rw[show(fv.toArray++Array.map a.eval args++cv.toArray)=(fv++args.toList.map a.eval++cv).toArray by cases args;simp];exact eG fO
    split at hA
    · split at hA
      · have uh:=jF S hf;generalize NM:a.eval f=fvv at uh;cases uh with
        | fn _ _ _ fv cv l1 l2 hf1 EH =>
          have e1:fv=[]:=qdI l1.symm;have e2:cv=[]:=qdI l2.symm;subst e1 e2;exact znv gp S hd bu NM hA hs
      · subst hA;exact hs.elim
    split at hA
    · rename_i az u has;have uh:=jF S hf;generalize NM:a.eval f=fvv at uh;cases uh with
      | fn _ _ _ fv cv l1 l2 hf1 EH =>
        split at hA
        · rename_i rs hrs;refine VN gp S hd (by simp[bu]) (Zx (KN l1 hf1)) (Zx (KN l2 EH)) has (λfO=>?_) hrs hA;simp only[execOp,bu,resolve,NM,Deferred.ofValue,Sem.run_bind,Sem.run_pure,Result.andThen_ok,invoke];rw[show(fv.toArray++Array.map a.eval args++cv.toArray)=(fv++args.toList.map a.eval++cv).toArray by cases args;simp];exact eG fO
        · subst hA;exact hs.elim
    · subst hA;exact hs.elim
  · rename_i gf cells hf;split at hA
    · rename_i az u has;have uh:=jF S hf;generalize NM:a.eval f=fvv at uh;cases uh with
      | fna _ _ vs l1 hf1 =>
        split at hA
        · rename_i rs hrs;refine VN (pre:=[.agg cells]) (post:=[]) (pv:=[.agg vs.toArray]) (qv:=[]) gp S hd (by simp[bu]) ⟨⟨vs,rfl,KN l1 hf1⟩,trivial⟩ trivial has (λfO=>?_) (by simpa using hrs) hA;simp only[execOp,bu,resolve,NM,Deferred.ofValue,Sem.run_bind,Sem.run_pure,Result.andThen_ok,invoke];rw[show(#[Value.agg vs.toArray]++Array.map a.eval args ++ #[])=([Value.agg vs.toArray]++args.toList.map a.eval++[]).toArray by cases args;simp];exact eG fO
        · subst hA;exact hs.elim
    · subst hA;exact hs.elim
  · subst hA;exact hs.elim
theorem FN{o:Oper}{A:aC}(gp:jw P Γ)(S:cO P nt B w0 h0 g σ a w)(hd:dJ nt o.dst=true)(hA:act P Γ o (fU σ.env) (lk σ.aB)=A)(hs:A.safe) :
  jo P nt B w0 h0 r n i o A σ a w Q:=by
 have sZ:=hA;cases bu:o.op with
 | move x=>simp only[act,aCl,bu]at hA;subst hA;exact Vm S hd (.inl bu)
 | assign x=>simp only[act,aCl,bu]at hA;subst hA;exact Vm S hd (.inr bu)
 | pick c x y =>
  simp only[act,aPk,bu]at hA;split at hA
  ·rename_i t hc;subst hA;exact zg8 S hd bu hc
  ·subst hA;exact hs.elim
 | alloc e =>
  simp only[act,aAl,bu]at hA;split at hA
  ·rename_i z hz;exact zdG S hd bu hz hA hs
  ·subst hA;exact hs.elim
 | box e x =>
  simp only[act,aBx,bu]at hA;split at hA
  ·rename_i d m hx hm;split at hA
   ·rename_i dC;simp only[gG]at dC;exact zng S hd bu hx dC.2 hA hs
   ·subst hA;exact hs.elim
  ·subst hA;exact hs.elim
 | build t parts =>
  simp only[act,aBd,bu]at hA;split at hA
  ·rename_i z hf hz;split at hA
   ·rename_i l hl;subst hA;refine zdH S hd bu hf hz hl (λ L hL=>?_);rcases Kr _ _ _ hl L hL with h | ⟨x,_,h⟩
    ·rw[PN hz]at h;simp at h
    ·exact S.evLab x.2 L h
   ·subst hA;exact hs.elim
  ·subst hA;exact hs.elim
 | buildSlice t m parts=>exact KA S hd bu sZ hs
 | load t x=>exact zg9 S hd bu sZ hs
 | store t x y=>exact zdM S hd bu sZ hs
 | nilCheck x=>exact Rw S hd bu sZ hs
 | binOp op t x y t'=>exact zdK S hd bu sZ hs
 | unOp op t x=>exact zha S hd bu sZ hs
 | convert t1 t2 x=>exact Vq S hd bu sZ hs
 | fieldAddr t x f=>exact Ov S hd bu sZ hs
 | indexAddr t x y=>exact Ox S hd bu sZ hs
 | extract x k=>exact Vr S hd bu sZ hs
 | index t x y=>exact zdI S hd bu sZ hs
 | field t x f=>exact zdJ S hd bu sZ hs
 | slice t x lo hi mx =>
  cases mx with
  | none=>simp only[act,bu]at hA;exact zdQ S hd bu hA hs
  | some m=>simp only[act,bu]at hA;subst hA;exact hs.elim
 | lookup t x y k =>
  simp only[act,bu]at hA;exact Zv S hd bu hA hs
 | mapUpdate t x y z =>
  simp only[act,bu]at hA;exact zdP S hd bu hA hs
 | makeMap t x =>
  cases x with
  | none =>
   simp only[act,aMm,bu]at hA;split at hA
   ·split at hA
    ·split at hA
     ·rename_i hE;exact Zw S hd bu hE hA hs
     ·subst hA;exact hs.elim
    ·subst hA;exact hs.elim
   ·subst hA;exact hs.elim
  | some x=>simp only[act,aMm,bu]at hA;subst hA;exact hs.elim
 | makeSlice t x y=>simp only[act,bu]at hA;exact Oy S hd bu hA hs
 | makeFunc fn first caps =>
  cases fn with
  | func f=>exact RG S hd bu sZ hs
  | _=>simp only[act,aMf,bu]at hA;subst hA;exact hs.elim
 | call c =>
  obtain⟨callee,args,ts⟩:=c;cases callee with
  | value f=>exact zhD gp S hd bu sZ hs
  | invoke x m=>simp only[act,bu]at hA;subst hA;exact hs.elim
  | builtin b =>
   cases b with
   | len=>exact znh S hd bu sZ hs
   | max=>exact zni S hd bu sZ hs
   | min=>exact znj S hd bu sZ hs
   | append=>exact Zq S hd bu sZ hs
   | _=>simp only[act,bu]at hA;subst hA;exact hs.elim
 | _=>simp only[act,bu]at hA;subst hA;exact hs.elim
end
end Go.Pm
namespace Go.Pm
variable [aJ]
open Go.RowKit (Below)
theorem lF{α:Type}{f:α→α}{l:List (Nat×α)}:∀{ks:List Nat}{t:Nat}{x:α},lk (xH f l ks) t=some x→∃y,lk l t=some y∧x=f y∧t∈ks
  | [],t,x,h=>by simp[xH,lk]at h
  | k::ks,t,x,h=>by
    simp only[xH]at h;split at h
    · rename_i d hd;rw[aZ] at h;split at h
      · rename_i e;simp only[bW]at h;subst e;exact⟨d,hd,h.symm,lq⟩
      · obtain⟨y,h1,h2,h3⟩:=lF h;exact⟨y,h1,h2,jU _ h3⟩
    · obtain⟨y,h1,h2,h3⟩:=lF h;exact⟨y,h1,h2,jU _ h3⟩
theorem qM{α:Type}{f:α→α}{l:List (Nat×α)}:∀{ks:List Nat}{t:Nat}{y:α},lk l t=some y→t∈ks→lk (xH f l ks) t=some (f y)
  | [],t,y,_,ht=>by simp at ht
  | k::ks,t,y,h,ht=>by
    simp only[xH];by_cases hk:k=t
    · subst hk;rw[h];rw[aZ,eX rfl]
    · have ht' : t ∈ ks := (kR.1 ht).elim (fun h => absurd h.symm hk) fun h => h;split
      · rw[aZ,fB hk];exact qM h ht'
      · exact qM h ht'
section
variable{P:Program}{Γ:bU}{nt B:Nat}{w0:World}{h0:Fz}{g:Gh}{σ:St}{a:Act}{w:World}{r:Option Nat}{n i:Nat}{Q:Exit->Act->World->Prop}
theorem Qd{c:Cl}{x:Value}(h:jg g c x):jg g (tJ c) x:=by
 cases c<;>exact h
theorem Bh:∀{cs:List Cl}{vs:List Value},RL (jg g) cs vs→RL (jg g) (cs.map tJ) vs
  | [],[],_=>trivial
  | [],_::_,h=>h.elim
  | _::_,[],h=>h.elim
  | _::_,_::_,h=>⟨Qd h.1,Bh h.2⟩
theorem KU{d:D1}{x:Value}(h:AA g d x):AA g (yH d) x:=by
 cases d with
 | c y=>exact Qd h
 | agg cs=>obtain⟨vs,rfl,hr⟩:=h;exact⟨vs,rfl,Bh hr⟩
theorem Ho:∀{cs:List D1}{vs:List Value},RL (AA g) cs vs→RL (AA g) (cs.map yH) vs
  | [],[],_=>trivial
  | [],_::_,h=>h.elim
  | _::_,[],h=>h.elim
  | _::_,_::_,h=>⟨KU h.1,Ho h.2⟩
theorem zhE{d:DV}{x:Value}(h:rH g d x):rH g (Q7 d) x:=by
 cases d with
 | one y=>exact KU h
 | tup ds=>obtain⟨vs,rfl,hr⟩:=h;exact⟨vs,rfl,Ho hr⟩
theorem Hq{c:Cl}:∀M∈bD (tJ c),M∈bD c:=by
 cases c<;>first|exact λ_ h=>h|(intro M h;simp[tJ,bD]at h)
theorem Hr{cs:List Cl}:∀M∈(cs.map tJ).flatMap bD,M∈cs.flatMap bD:=by
 intro M hM;simp only[lK,xR]at hM ⊢;obtain⟨_,⟨c,hc,rfl⟩,hM⟩:=hM;exact⟨c,hc,Hq M hM⟩
theorem Di{d:D1}:∀M∈dE (yH d),M∈dE d:=by
 cases d with
 | c y=>exact Hq
 | agg cs=>exact Hr
theorem ZC{d:DV}:∀M∈df (Q7 d),M∈df d:=by
 cases d with
 | one y=>exact Di
 | tup ds =>
  intro M hM;simp only[Q7,df,lK,xR]at hM ⊢;obtain⟨_,⟨d,hd,rfl⟩,hM⟩:=hM;exact⟨d,hd,Di M hM⟩
theorem VO{o:AO}:∀M∈dR (I7 o),M∈dR o:=by
 cases o with
 | box ty cs=>exact Hr
 | _=>exact λ_ h=>h
theorem zdT{B L:Nat}{o:AO}(h:NZ P g w B L o):NZ P g w B L (I7 o):=by
 cases o with
 | box ty cs=>obtain⟨C,hC,hr⟩:=h;exact⟨C,hC,Bh hr⟩
 | _=>exact h
theorem Ht{L:Nat}{o:AO}:gW g L (I7 o)=gW g L o:=by cases o<;>rfl
theorem cO.env'(S:cO P nt B w0 h0 g σ a w){t:Nat}{d:DV}(hv:rH g d (a.tmps.getD t undef))(hl:∀L∈df d,∃o,lk σ.aB L=some o) :
  cO P nt B w0 h0 g {σ with env:=(t,d)::σ.env} a w:=by
 refine⟨S.dfr,S.size,?_,S.obj,S.own,S.sep,S.hw,S.le0,S.hn,S.below,S.bs,?_,S.clO⟩
 ·intro u e hu;simp only[aZ] at hu;split at hu
  ·rename_i h;simp only[bW]at hu;subst hu;rw[<- h];exact hv
  ·exact S.env u e hu
 ·intro u e hu;simp only[aZ] at hu;split at hu
  ·simp only[bW]at hu;subst hu;exact hl
  ·exact S.clE u e hu
theorem Jh{P:Program}{e:TypeId}:RS (Cm P e) (Cm P e):=by
 unfold Cm;split
 ·rename_i z hz;split
  ·rename_i l hl;obtain⟨vs,hv⟩:∃vs,jC vs=some z:=by
    unfold gV at hz
    repeat' split at hz
    all_goals first|(cases hz;done)|(cases hz;exact⟨_,by assumption⟩)
   have h:=kP (g:=⟨λ_=>none,λ_=>0,λ_=>undef,λ_ _=>undef⟩) _ _ hv;rw[oz hl]at h;have h:=RL.map_left.1 h;exact yJ (uX h)
  ·trivial
 ·trivial
theorem cO.coerce(S:cO P nt B w0 h0 g σ a w){L e:Nat}{ie:TypeInfo}{z:List Cl}{get:Nat→List PV}(hu:ut get)(hL:lk σ.aB L=none)(hi:P.info? e=some ie)(hz:gV P e=some z)(hp:0<ie.size) :
  cO P nt B w0 h0 (g.setSv L (.slice none 0 0)) {σ with aB:=(L,.vec e ie.size ie.bytes 0 get)::σ.aB} a w:=by
 obtain⟨zv,GM,Ak⟩:=jc hz hi;refine S.newVec hL (.refl B w) (λ_ _=>rfl) (λb hb=>by simp[Value.ownBlock]at hb) ⟨⟨hu,hp⟩,⟨ie,zv,hi,rfl,rfl,GM,Ak⟩,[],?_,λk hk=>absurd hk omY⟩;rw[show(g.setSv L (.slice none 0 0)).sv L=.slice none 0 0 by simp[Gh.setSv]];exact World.ownsRow_nil w B e ie.size
theorem KW{h:Fz}{v:Value}(hr:Rep h .nils v):v=.slice none 0 0:=by cases hr;rfl
theorem uy:∀(l:List (Nat×Nat×Nat))(σ σ':St)(g:Gh),mP P l σ=some σ'→cO P nt B w0 h0 g σ a w→∃g',cO P nt B w0 h0 g' σ' a w
  | [],σ,σ',g,h,S=>by simp[mP]at h;subst h;exact⟨g,S⟩
  | (t,L,e)::l,σ,σ',g,h,S=>by
    simp only[mP]at h;split at h
    · rename_i ht;split at h
      · rename_i ie z hL hi hz;split at h
        · rename_i hp;have S1:=S.coerce (get:=λ_=>Cm P e) (JR Jh) hL hi hz (qj8 (qd7 hp));have hv:a.tmps.getD t undef=.slice none 0 0:=KW (S.env t _ ht);have S2:=S1.env' (t:=t) (d:=.cl (.vec L)) (by rw[hv];simp[rH,AA,jg,Gh.setSv,Value.oneCell']) (λM hM=>by simp[df,dE,bD]at hM;subst hM;exact⟨_,by rw[aZ,eX rfl]⟩);exact uy l _ σ' _ h S2
        · cases h
      · cases h
    · exact uy l σ σ' g h S
    · cases h
theorem uz:∀(l:List (Nat×Nat×Nat×Nat))(σ σ':St)(g:Gh),mQ P l σ=some σ'→cO P nt B w0 h0 g σ a w→∃g',cO P nt B w0 h0 g' σ' a w
  | [],σ,σ',g,h,S=>by simp[mQ]at h;subst h;exact⟨g,S⟩
  | (bx,k,L,e)::l,σ,σ',g,h,S=>by
    simp only[mQ]at h;split at h
    · rename_i ty cs EU;split at h
      · rename_i hk;split at h
        · rename_i ie z hL hi hz;split at h
          · rename_i hp;have S1:=S.coerce (get:=λ _=>Cm P e) (JR Jh) hL hi hz (qj8 (qd7 hp));have ja:L ≠ bx:=λ e=>by subst e;rw[hL] at EU;cases EU
            have KX:lk ({σ with aB:=(L,AO.vec e ie.size ie.bytes 0 (λ_=>Cm P e))::σ.aB}:St).aB bx=some (.box ty cs):=by
              show lk ((L,AO.vec e ie.size ie.bytes 0 (λ_=>Cm P e))::σ.aB) bx=_;rw[aZ,fB ja];exact EU
            obtain⟨C,hC,hr⟩:=S1.obj bx _ KX;obtain⟨v,hv,hkv⟩:=hr.get k _ hk;have hv0:v=.slice none 0 0:=KW hkv;subst hv0;have VP:C.toList.set k (.slice none 0 0)=C.toList:=by
              apply qdq;intro j;by_cases hj:j=k
              · subst hj;have iC:=(AY.1 hv).1;rw[jqb iC,hv]
              · rw[qjO (λe=>hj e.symm)]
            have S2 := S1.write (o' := .box ty (cs.set k (.vec L))) (w' := w) KX (fun b hb => hb) (.refl B w) (fun _ _ => rfl)
              ⟨C,hC,by rw[<- VP];exact hr.set k (by simp[jg,Gh.setSv,Value.oneCell'])⟩
              (λM hM=>by
                simp only[dR,lK]at hM;obtain⟨c,hc,hM⟩:=hM;rcases qdn hc with h|h
                · exact S1.clO bx _ KX M (lK.2 ⟨c,h,hM⟩)
                · subst h;simp[bD]at hM;subst hM;exact⟨_,by rw[aZ,eX rfl]⟩)
            exact uz l _ σ' _ h S2
          · cases h
        · cases h
      · exact uz l σ σ' g h S
      · cases h
    · cases h
theorem cO.adopt0(S:cO P nt B w0 h0 g σ a w){t:Nat}{o':AO}{g':Gh}(ht:lk σ.aB t=none)(hh:g'.h=g.h)(hs:∀M,M≠t→jb g g' M)
    (hv:∀k,¬gW g' t o' k) (hr:NZ P g' w B t o') (Am:dR o'=[]):cO P nt B w0 h0 g' {σ with aB:=(t,o')::σ.aB} a w:=by
  have ja:∀L o,lk σ.aB L=some o->L≠t:=λL o h e=>by subst e;rw[ht]at h;cases h
  have fF:∀L o,lk σ.aB L=some o->jb g g' L:=λL o h=>hs L (ja L o h);have hle:jV g.h g'.h:=by rw[hh];exact λ_ _ h=>h
  have kD:∀L o,lk ((t,o')::σ.aB) L=some o->(L=t/\o=o')\/(L≠t/\lk σ.aB L=some o):=by
    intro L o h;rw[aZ]at h;split at h
    · rename_i e;simp only[bW]at h;exact .inl ⟨e.symm,h.symm⟩
    · rename_i e;exact .inr ⟨λe'=>e e'.symm,h⟩
  refine S.change (g':=g') fF hle (by rw[hh];exact S.hw) (λb o h=>.inl (by rw[hh]at h;exact h)) (.refl _ B w) ?_ ?_ ?_ ?_ ?_
  · intro L o ho;rcases kD L o ho with ⟨rfl,rfl⟩ | ⟨_,ho⟩
    · exact hr
    · exact jS (S.obj L o ho) (fF L o ho) (λM hM=>by obtain⟨o',kQ⟩:=S.clO L o ho M hM;exact fF M o' kQ) hle λ_ _=>rfl
  · intro L o k ho hk;rcases kD L o ho with ⟨rfl,rfl⟩ | ⟨_,ho⟩
    · exact(hv k hk).elim
    · rw[gJ (fF L o ho)]at hk;rw[hh];exact S.own L o k ho hk
  · intro L o k L' o2 ho kQ hk jJ;rcases kD L o ho with ⟨rfl,rfl⟩ | ⟨_,nV⟩ <;> rcases kD L' o2 kQ with ⟨rfl,rfl⟩ | ⟨_,nJ⟩
    · rfl
    · exact(hv k hk).elim
    · exact(hv k jJ).elim
    · rw [gJ (fF L o nV)]at hk;rw [gJ (fF L' o2 nJ)]at jJ;exact S.sep L o k L' o2 nV nJ hk jJ
  · intro L o ho;refine⟨o,?_⟩;rw[aZ,fB (λe=>ja L o ho e.symm)];exact ho
  · intro L o ho M hM;rcases kD L o ho with ⟨rfl,rfl⟩ | ⟨_,ho⟩
    · rw[Am]at hM;simp at hM
    · obtain⟨o2,nV⟩:=S.clO L o ho M hM;exact⟨o2,by rw[aZ,fB (λe=>ja M o2 nV e.symm)];exact nV⟩
theorem uA:∀(l:List (Nat×Nat×Nat×Nat×Nat))(σ σ':St)(g:Gh),mV P l σ=some σ'→cO P nt B w0 h0 g σ a w→∃g',cO P nt B w0 h0 g' σ' a w
  | [],σ,σ',g,h,S=>by simp[mV]at h;subst h;exact⟨g,S⟩
  | (bx,k,L,te,e)::l,σ,σ',g,h,S=>by
    simp only[mV]at h;split at h
    · rename_i ty cs EU;split at h
      · rename_i hk;split at h
        · rename_i it zt hL hit hzt;split at h
          · rename_i ie z hi hz;split at h
            · rename_i hp;simp only[gG] at hp;have hs1:=kL hp.1;have iF:0 < ie.size:=qj8 (qd7 hp.2);obtain⟨zv,GM,Ak⟩:=jc hz hi;obtain⟨tv,htv,hts⟩:=jc hzt hit;let g':=g.setVv L (.slice none 0 0) (λ _=>.slice none 0 0);have l9:g'.sv L=.slice none 0 0:=by simp[g',Gh.setVv]
              have S1 := S.adopt0 (t := L) (o' := .vv te it.bytes e ie.size ie.bytes 0 (fun _ => 0) (fun _ _ => Cm P e)) (g' := g') hL rfl Zo
                (λk hk=>by
                  rcases hk with hk|⟨i,hi,_⟩
                  · rw[l9]at hk;cases hk
                  · omega)
                ⟨⟨λ_ _ _ _=>Jh,iF⟩,⟨it,tv,hit,hs1,rfl,htv,by rw[hts,hs1]⟩,⟨ie,zv,hi,rfl,rfl,GM,Ak⟩,by rw[l9];exact World.ownsRow_nil w B te 1,λi hi=>absurd hi omY,λi k hi=>absurd hi omY⟩ rfl
              have ja:L≠bx:=λe=>by subst e;rw[hL]at EU;cases EU
              have KX:lk ({σ with aB:=(L,AO.vv te it.bytes e ie.size ie.bytes 0 (λ_=>0) (λ_ _=>Cm P e))::σ.aB}:St).aB bx=some (.box ty cs):=by
                show lk ((L,AO.vv te it.bytes e ie.size ie.bytes 0 (λ_=>0) (λ_ _=>Cm P e))::σ.aB) bx=_;rw[aZ,fB ja];exact EU
              obtain⟨C,hC,hr⟩:=S1.obj bx _ KX;obtain⟨v,hv,hkv⟩:=hr.get k _ hk;have hv0:v=.slice none 0 0:=KW hkv;subst hv0;have VP:C.toList.set k (.slice none 0 0)=C.toList:=by
                apply qdq;intro j;by_cases hj:j=k
                · subst hj;have iC:=(AY.1 hv).1;rw[jqb iC,hv]
                · rw[qjO (λe=>hj e.symm)]
              have S2 := S1.write (o' := .box ty (cs.set k (.vec L))) (w' := w) KX (fun b hb => hb) (.refl B w) (fun _ _ => rfl)
                ⟨C,hC,by rw[<- VP];exact hr.set k ⟨l9.symm,rfl⟩⟩
                (λM hM=>by
                  simp only[dR,lK]at hM;obtain⟨c,hc,hM⟩:=hM;rcases qdn hc with h|h
                  · exact S1.clO bx _ KX M (lK.2 ⟨c,h,hM⟩)
                  · subst h;simp[bD]at hM;subst hM;exact⟨_,by rw[aZ,eX rfl]⟩)
              exact uA l _ σ' _ h S2
            · cases h
          · cases h
        · cases h
      · exact uA l σ σ' g h S
      · cases h
    · cases h
theorem Dj{ob:Nat→Option AO}:∀{ks:List Nat}{x:Nat×AO},x∈Fp ob ks→∃ty cells l,ob x.1=some (.box ty cells)∧x.2 = .fbox l∧jE ob cells=some (l,[])
  | [],x,h=>by simp[Fp]at h
  | k::ks,x,h=>by
    simp only[Fp]at h;split at h
    · rename_i ty cells hk;split at h
      · rename_i l hl;rcases kR.1 h with rfl | h
        · exact⟨ty,cells,l,hk,rfl,hl⟩
        · exact Dj h
      · exact Dj h
    · exact Dj h
theorem VQ{ob:Nat->Option AO}{ks:List Nat}:fE ob (Fp ob ks):=λx hx=>by
 obtain⟨ty,cells,l,h1,h2,h3⟩:=Dj hx;exact .inr (.inl ⟨ty,cells,l,[],h1,h2,Rj h3,λy hy=>by simp at hy⟩)
theorem KY{ob:Nat→Option AO}:∀{ks:List Nat},fE ob (Ot ob ks)
  | []=>fE.nil ob
  | L::r=>λx hx=>by
    simp only[Ot]at hx;split at hx
    · rename_i e s b n get hL;rcases kR.1 hx with rfl | hx
      · exact .inl ⟨_,_,_,_,_,hL,rfl⟩
      · exact(KY x hx).mono λy hy=>by simp only[Ot,hL];exact jU _ hy
    · rename_i hn;refine (KY x hx).mono λ y hy=>?_;show y∈Ot ob (L :: r);unfold Ot;split
      · exact jU _ hy
      · exact hy
theorem uC:∀(l:List Nat)(σ σ':St)(g:Gh),mW l σ=some σ'→cO P nt B w0 h0 g σ a w→∃g',cO P nt B w0 h0 g' σ' a w
  | [],σ,σ',g,h,S=>by simp[mW]at h;subst h;exact⟨g,S⟩
  | t::r,σ,σ',g,h,S=>by
    unfold mW at h;split at h
    · rename_i x hx;have hv:=S.env t _ hx;split at h
      · exact uC r _ σ' g h S
      · split at h
        · rename_i v u hf;obtain⟨h',S1,F⟩:=S.freeze (Zp hf);have hr:=F.rep hf (λy hy=>hy) hv;exact uC r _ σ' _ h (S1.env' (t:=t) (d:=.p v) hr (λL hL=>by simp[df,dE,bD]at hL))
        · cases h
    · cases h
theorem zbT{P:Program}{e:Nat}{g:Gh}{x:Cl}{v:Value}(r:jg g x v):jg g (Fq P e x) v:=by
 unfold Fq;split
 ·split
  ·exact Rep.up (.nil _ _ (JR Jh)) r
  ·exact r
 ·exact r
theorem VS{P:Program}{e:Nat}{x:Cl}:bD (Fq P e x)=bD x:=by
 unfold Fq;split
 ·split<;>rfl
 ·rfl
theorem zhF{P:Program}{e b:Nat}{g:Gh}{cs:List Cl}{vs:List Value}(r:RL (jg g) cs vs):RL (jg g) (U4 b (Fq P e) cs) vs:=by
 unfold U4;split
 ·rename_i x hx;obtain⟨v,hv,xQ⟩:=r.get b _ hx;have:=r.set b (a:=Fq P e x) (b:=v) (zbT xQ);have e:vs.set b v=vs:=by
   obtain⟨iC,hv⟩:=AY.1 hv;rw[<- hv,qza]
  rwa[e]at this
 ·exact r
theorem VT{P:Program}{e b:Nat}{cs:List Cl}{M:Nat}(h:M∈(U4 b (Fq P e) cs).flatMap bD):M∈cs.flatMap bD:=by
 unfold U4 at h;split at h
 ·rename_i x hx;obtain⟨c,hc,hM⟩:=lK.1 h;rcases qdn hc with hc | rfl
  ·exact lK.2 ⟨c,hc,hM⟩
  ·rw [VS]at hM;exact lK.2 ⟨x,JB hx,hM⟩
 ·exact h
theorem Dk{α:Type}{k:Nat}{x:α}:∀{l:List (Nat×α)},(∃y,lk l k=some y)→∀n,lk (Zg k x l) n=lk ((k,x)::l) n
  | [],⟨_,h⟩,_=>by cases h
  | (j,y)::r,h,n=>by
    unfold Zg;cases hb:Nat.beq j k with
    | true =>
      have:=kL hb;subst this;simp only[aZ];split<;>rfl
    | false =>
      have ja:=qde hb;obtain⟨z,hz⟩:=h;rw[aZ,fB ja]at hz;have ih:=Dk (x:=x) ⟨z,hz⟩ n;simp only[aZ]at ih ⊢;by_cases h1:j=n
      · rw[eX h1,fB (λe=>ja (h1.trans e.symm)),eX h1]
      · rw[fB h1,ih,fB h1]
theorem cO.lk_congr(S:cO P nt B w0 h0 g σ a w){τ:St}(h1:∀L,lk τ.env L=lk σ.env L)(h2:∀L,lk τ.aB L=lk σ.aB L):cO P nt B w0 h0 g τ a w :=
 ⟨S.dfr,S.size,λt d ht=>S.env t d (by rw[<- h1];exact ht),λL o ho=>S.obj L o (by rw[<- h2];exact ho),λL o b ho=>S.own L o b (by rw[<- h2];exact ho),
  λL o b L' o' ho kQ=>S.sep L o b L' o' (by rw[<- h2];exact ho) (by rw[<- h2];exact kQ),S.hw,S.le0,S.hn,S.below,S.bs,
  λt d ht L hL=>by rw[h2];exact S.clE t d (by rw[<- h1];exact ht) L hL,λL o ho M hM=>by rw[h2];exact S.clO L o (by rw[<- h2];exact ho) M hM⟩
theorem zdU{k b e L:Nat}(S:cO P nt B w0 h0 g σ a w):cO P nt B w0 h0 g (nf1 P k L b e σ) a w:=by
 unfold nf1;split
 ·split
  ·rename_i x hx;exact(S.env' (d:=.one (.c (Fq P e x))) (zbT (S.env L _ hx)) λM hM=>S.clE L _ hx M (by simpa [df,dE,VS]using hM)).lk_congr (Dk ⟨_,hx⟩) λ_=>rfl
  ·rename_i cs hx;obtain⟨vs,hv,hr⟩:=S.env L _ hx;exact(S.env' (d:=.one (.agg (U4 b (Fq P e) cs))) ⟨vs,hv,zhF hr⟩ λM hM=>S.clE L _ hx M (VT hM)).lk_congr (Dk ⟨_,hx⟩) λ_=>rfl
  ·exact S
 ·split
  ·rename_i ty cs hL;obtain⟨D,hD,hr⟩:=S.obj L _ hL;exact(S.write2 (w':=w) (o':=.box ty (U4 b (Fq P e) cs)) hL (λ_ h=>h) (.refl B w) (λ_ _ _=>rfl) ⟨D,hD,zhF hr⟩ λM hM=>S.clO L _ hL M (VT hM)).lk_congr (λ_=>rfl) (Dk ⟨_,hL⟩)
  ·exact S
theorem AC:∀{l:List (Nat×Nat×Nat×Nat)}{σ:St},cO P nt B w0 h0 g σ a w→cO P nt B w0 h0 g (I8 P l σ) a w
  | [],_,S=>S
  | (_,_,_,_)::l,_,S=>AC (l:=l) (zdU S)
theorem RH{k:Keep}{s:St}{g:Gh}{σ:St}(h:yI P k σ=some s)(S:cO P nt B w0 h0 g σ a w):∃g',cO P nt B w0 h0 g' s a w:=by
 unfold yI at h;split at h
 ·cases h
 ·rename_i σ1 h1;obtain⟨g1,S1⟩:=uy k.coT σ σ1 g h1 S;split at h
  ·cases h
  ·rename_i σ2 h2;obtain⟨g2',S2'⟩:=uz k.coB σ1 σ2 g1 h2 S1;split at h
   ·cases h
   rename_i σ3 h3;obtain⟨g2,S2⟩:=uA k.coV σ2 σ3 g2' h3 S2';simp only[]at h;split at h
   ·rename_i Aq;simp only[bW]at h;subst h;simp only[gG,Aa]at Aq;obtain⟨EH,hc2⟩:=Aq;have hin:∀{jh l:List Nat},Zf jh l=true->∀L∈l,L∈jh:=by
     intro jh l h L hL;have:=Aa.1 h L hL;simpa using this
    refine⟨g2,S2.dfr,S2.size,?_,?_,?_,?_,S2.hw,S2.le0,S2.hn,S2.below,S2.bs,?_,?_⟩
    ·intro t d ht;obtain⟨y,h1,rfl,_⟩:=lF ht;exact zhE (S2.env t y h1)
    ·intro L o ho;obtain⟨y,h1,rfl,_⟩:=lF ho;exact zdT (S2.obj L y h1)
    ·intro L o b ho hb;obtain⟨y,h1,rfl,_⟩:=lF ho;rw[Ht]at hb;exact S2.own L y b h1 hb
    ·intro L o b L' o' ho kQ hb mf;obtain⟨y,h1,rfl,_⟩:=lF ho;obtain⟨y',h1',rfl,_⟩:=lF kQ;rw[Ht]at hb mf;exact S2.sep L y b L' y' h1 h1' hb mf
    ·intro t d ht L hL;have hm:=hin (EH (t,d) (fM ht)) L hL;obtain⟨y,h1,rfl,_⟩:=lF ht;obtain⟨o,ho⟩:=S2.clE t y h1 L (ZC L hL);exact⟨_,qM ho hm⟩
    ·intro L o ho M hM;have hm:=hin (hc2 (L,o) (fM ho)) M hM;obtain⟨y,h1,rfl,_⟩:=lF ho;obtain⟨o',kQ⟩:=S2.clO L y h1 M (VO M hM);exact⟨_,qM kQ hm⟩
   ·cases h
theorem ZE{n:Nat}(S:cO P nt B w0 h0 g σ a w):∃g',cO P nt B w0 h0 g' (zdu σ n) a w:=by
  unfold zdu;generalize (n-1000000)/64=bx;generalize (n-1000000)%64=kx;split
  · exact⟨g,S⟩
  · split
    · rename_i ty cs EU;split
      · rename_i L hk;split
        · rename_i e s b len get hL;obtain⟨h',S1,F⟩:=S.freeze (u:=[(L,.fvec s len get)]) (λx hx=>by
            simp only[mg]at hx;subst hx;exact .inl ⟨_,_,_,_,_,hL,rfl⟩)
          have ja:L≠bx:=λe=>by subst e;rw[hL]at EU;cases EU
          have KX:lk ([(L,AO.fvec s len get)]++σ.aB) (bx)=some (.box ty cs):=by
            show lk ((L,AO.fvec s len get)::σ.aB) _=_;rw[aZ,fB ja];exact EU
          obtain⟨C,hC,hr⟩:=S1.obj _ _ KX;obtain⟨v,hv,hkv⟩:=hr.get _ _ hk;have zfR:Rep h' (.sl len s get) v:=by
            have hkv:v=g.sv L/\_:=hkv;rw[hkv.1];exact F.vec L e s b len get hL (by simp)
          have VP:C.toList.set kx v=C.toList:=by
            apply qdq;intro j;by_cases hj:j=kx
            · subst hj;have iC:=(AY.1 hv).1;rw[jqb iC,hv]
            · rw[qjO (λe=>hj e.symm)]
          have S2 := S1.write (o' := .box ty (cs.set kx (.p (.sl len s get)))) (w' := w) KX (fun b hb => hb) (.refl B w) (fun _ _ => rfl)
            ⟨C,hC,by rw[<- VP];exact hr.set _ zfR⟩
            (λM hM=>by
              simp only[dR,lK]at hM;obtain⟨c,hc,hM⟩:=hM;rcases qdn hc with h|h
              · exact S1.clO _ _ KX M (lK.2 ⟨c,h,hM⟩)
              · subst h;simp[bD]at hM)
          exact⟨_,S2⟩
        · exact⟨g,S⟩
      · exact⟨g,S⟩
    · exact⟨g,S⟩
theorem Qe:∀(l:List Nat)(σ:St)(g:Gh),cO P nt B w0 h0 g σ a w→∃g',cO P nt B w0 h0 g' (coP l σ) a w
  | [],σ,g,S=>⟨g,S⟩
  | n::r,σ,g,S=>by
    obtain⟨g1,S1⟩:=ZE (n:=n) S;exact Qe r _ g1 S1
theorem eQ{k:Keep}{s:St}(h:canon P k σ=some s)(S:cO P nt B w0 h0 g σ a w):∃g',cO P nt B w0 h0 g' s a w:=by
 obtain⟨h',S1,_⟩:=S.freeze ((VQ (ob:=lk σ.aB) (ks:=k.coF)).append (KY (ob:=lk σ.aB) (ks:=k.coF)));unfold canon at h;split at h
 ·rename_i s1 h1;obtain⟨g0,S0⟩:=Qe k.coF (zdt k.coF σ) _ S1;obtain⟨g1,S2⟩:=uC k.coZ (coP k.coF (zdt k.coF σ)) s1 _ h1 S0;split at h
  ·rename_i s2 h2;obtain⟨g2,S3⟩:=RH h2 S2;cases h;exact⟨g2,AC S3⟩
  ·cases h
 ·cases h
end
end Go.Pm
namespace Go.Pm
variable [aJ]
open Go.RowKit (Below)
section
variable{P:Program}{Γ:bU}{nt B:Nat}{w0:World}{h0:Fz}{g:Gh}{σ:St}{a:Act}{w:World}{r:Option Nat}{n i:Nat}{Q:Exit->Act->World->Prop}
theorem Ji{o:Oper}{R R':Act->World->Prop}(h:o.wpIn (FR r) n P a w R Q)(hR:∀a w,R a w->R' a w):o.wpIn (FR r) n P a w R' Q:=by
 refine⟨h.1,?_⟩;have h2:=h.2;generalize (o.semAt (FR r).round a.eval).run P w=res at h2 ⊢
 match res,h2 with
 | .ok (.value v) w',h2=>exact hR _ _ h2
 | .ok .skip w',h2=>exact hR _ _ h2
 | .ok (.defer d) w',h2=>exact hR _ _ h2
 | .ok (.enter f args) w',h2 =>
  refine⟨h2.1,h2.2.mono ?_⟩;intro e zZ he;cases e with
  | returned v=>exact hR _ _ he
  | panicked ch=>exact he
  | outgrown=>exact he
 | .ok (.row row args) w',h2=>exact⟨h2.1,h2.2.mono λv zZ hv=>hR _ _ hv⟩
 | .ok (.round l f tmps x y) w',h2 =>
  refine⟨h2.1,h2.2.mono ?_⟩;intro e zZ he;cases e with
  | returned v=>exact hR _ _ he
  | panicked ch=>exact he
  | outgrown=>exact he
 | .halt (.panic v) w',h2=>exact h2
theorem znx{o:Oper}{R:Act->World->Prop}{Q':Exit->Act->World->Prop}(h:o.wpIn (FR r) n P a w R Q')(hp:∀ch a w,Q' (.panic ch) a w->Q (.panic ch) a w)(ho:LetsOut Q'->LetsOut Q):o.wpIn (FR r) n P a w R Q:=by
 refine⟨h.1,?_⟩;have h2:=h.2;generalize (o.semAt (FR r).round a.eval).run P w=res at h2 ⊢
 match res,h2 with
 | .ok (.value v) w',h2=>exact h2
 | .ok .skip w',h2=>exact h2
 | .ok (.defer d) w',h2=>exact h2
 | .ok (.enter f args) w',h2 =>
  refine⟨h2.1,h2.2.mono ?_⟩;intro e zZ he;cases e with
  | returned v=>exact he
  | panicked ch=>exact hp _ _ _ he
  | outgrown=>exact ho he
 | .ok (.row row args) w',h2=>exact h2
 | .ok (.round l f tmps x y) w',h2 =>
  refine⟨h2.1,h2.2.mono ?_⟩;intro e zZ he;cases e with
  | returned v=>exact he
  | panicked ch=>exact hp _ _ _ he
  | outgrown=>exact ho he
 | .halt (.panic v) w',h2=>exact hp _ _ _ h2
theorem rO {ops : Array Oper} {l2 : List Nat} : ∀ (l1 : List Nat) (a : Act) (w : World), wpOpsIn (FR r) n P ops (fun e a w => match e with | .normal => wpOpsIn (FR r) n P ops Q l2 a w | e => Q e a w) l1 a w → wpOpsIn (FR r) n P ops Q (l1 ++ l2) a w
  | [],a,w,h=>h
  | i::l1,a,w,h=>by
    simp only[qdZ,wpOpsIn]at h ⊢;split at h
    · exact rO l1 a w h
    · split at h
      · rename_i hw;rw[eX hw];exact znx (Ji h λa w h=>rO l1 a w h) (λch a w h=>h) (λ⟨a,w,h⟩=>⟨a,w,h⟩)
      · rename_i hw;rw[fB hw];exact⟨h.1,rO l1 _ w h.2⟩
theorem ZF{o:Oper}{R:Act->World->Prop}(h:o.wpIn (FR r) n P a w R Q):o.wpIn (FR r) n P a w (λa' w'=>R a' w'/\∃v ds,a'=({a with defers:=ds}:Act).put o.dst v) Q:=by
 refine⟨h.1,?_⟩;have h2:=h.2;generalize (o.semAt (FR r).round a.eval).run P w=res at h2 ⊢
 match res,h2 with
 | .ok (.value v) w',h2=>exact⟨h2,v,a.defers,rfl⟩
 | .ok .skip w',h2=>exact⟨h2,undef,a.defers,rfl⟩
 | .ok (.defer d) w',h2=>exact⟨h2,undef,d::a.defers,rfl⟩
 | .ok (.enter f args) w',h2 =>
  refine⟨h2.1,h2.2.mono ?_⟩;intro e zZ he;cases e with
  | returned v=>exact⟨he,v,a.defers,rfl⟩
  | panicked ch=>exact he
  | outgrown=>exact he
 | .ok (.row row args) w',h2=>exact⟨h2.1,h2.2.mono λv zZ hv=>⟨hv,v,a.defers,rfl⟩⟩
 | .ok (.round l f tmps x y) w',h2 =>
  refine⟨h2.1,h2.2.mono ?_⟩;intro e zZ he;cases e with
  | returned v=>exact⟨he,v,a.defers,rfl⟩
  | panicked ch=>exact he
  | outgrown=>exact he
 | .halt (.panic v) w',h2=>exact h2
def Kp(D:List Nat)(a a':Act):Prop:=(∀t,t∉D->a'.tmps.getD t undef=a.tmps.getD t undef)/\a'.tmps.size=a.tmps.size/\(G7∉D->a'.defers=a.defers)/\∀d∈a'.defers,d∈a.defers\/∃b,d.target=.collected b
theorem Kp.refl(D:List Nat)(a:Act):Kp D a a:=⟨λ_ _=>rfl,rfl,λ_=>rfl,λ_ h=>.inl h⟩
theorem Kp.put{D:List Nat}{a0 a:Act}(h:Kp D a0 a){dst:Option Nat}(hd:∀t,dst=some t->t∈D)(v:Value)(ds:List Deferred)(OX:ds=a.defers):Kp D a0 (({a with defers:=ds}:Act).put dst v):=by
 subst OX;cases dst with
 | none=>exact h
 | some t =>
  refine⟨λu hu=>?_,by simp[Act.put,h.2.1],λhr=>h.2.2.1 hr,λd hd=>h.2.2.2 d hd⟩;have ja:t≠u:=λe=>hu (e▸hd t rfl);rw[<- h.1 u hu];simp[Act.put,xX,qdQ ja]
theorem wM{ops:Array Oper}{tmps:Array Value}{j g:Nat}{b:Bool}(hg:(ops[j]?).bind (·.dst)=some g)(hv:tmps.getD g undef=.bool b):yielded ops tmps j=some b:=by
 unfold yielded;rw[hg];simp only[jqI];rw[xX]at hv;cases h:tmps[g]? with
 | none=>rw[h]at hv;simp[undef]at hv
 | some v=>rw[h]at hv;simp only[qd0]at hv;subst hv;rfl
theorem uD{ops:Array Oper}{tmps:Array Value}{j g:Nat}(hg:(ops[j]?).bind (·.dst)=some g)(hv:tmps.getD g undef=undef):yielded ops tmps j=none:=by
 unfold yielded;rw[hg];simp only[jqI];rw[xX]at hv;cases h:tmps[g]? with
 | none=>rfl
 | some v=>rw[h]at hv;simp only[qd0]at hv;subst hv;rfl
theorem cO.skip(S:cO P nt B w0 h0 g σ a w){dst:Option Nat}(hd:dJ nt dst=true):cO P nt B w0 h0 g (σ.skip dst) (a.put dst undef) w:=by
 have:=S.put (d:=.cl .undef) (v:=undef) hd rfl (λL hL=>by simp[df,dE,bD]at hL) σ.log;cases dst<;>exact this
theorem yS(gp:jw P Γ){ops:Array Oper}{K:St→Prop}{D:List Nat}{a0:Act}{ad:List Deferred}(hD:∀(j:Nat)(o:Oper),ops[j]? = some o→∀t,o.dst=some t→t∈D)
    (hQ:∀σ',K σ'->∀g' a' w',cO P nt B w0 h0 g' σ' a' w'->Kp D a0 a'->a'.defers=ad->Q .normal a' w') :
    ∀(l:List Oper)(i:Nat)(σ:St)(g:Gh)(a:Act)(w:World),(∀j,j<l.length->l[j]? = ops[i+j]?)->ku P Γ nt ops i l K σ->cO P nt B w0 h0 g σ a w->Kp D a0 a->a.defers=ad ->
      wpOpsIn (FR r) n P ops Q (List.range' i l.length) a w:=by
  intro l
  induction l with
  | nil=>intro i σ g a w _ h S hk had;exact hQ σ h g a w S hk had
  | cons o l ih =>
    intro i σ g a w hl h S kX had;have ho:ops[i]? = some o:=by have:=hl 0 (by simp);simpa using this.symm
    have zY:∀j,j<l.length->l[j]? = ops[i+1+j]?:=λj hj=>by have:=hl (j+1) (by rw[Cc];omega);rw[Y9]at this;rw[this];congr 1;omega
    simp only[Cc,YA,wpOpsIn,ho];simp only[ku]at h;split at h
    · exact h.elim
    · rename_i hd;have run:∀(σ:St),cO P nt B w0 h0 g σ a w->nN (act P Γ o (fU σ.env) (lk σ.aB)) (oV σ i o) i o.dst (ku P Γ nt ops (i+1) l K) σ->o.wpIn (FR r) n P a w (wpOpsIn (FR r) n P ops Q (List.range' (i+1) l.length)) Q:=by
        intro σ S h;obtain⟨hs,hk⟩:=FB.1 h;refine Ji (ZF (FN (i:=i) (Q:=Q) (r:=r) (n:=n) gp S hd rfl hs)) ?_;rintro a' w' ⟨⟨EJ,g',σ',Fb,S'⟩,v,ds,rfl⟩;exact ih (i+1) _ g' _ w' zY (hk σ' Fb) (S'.log _) (kX.put (hD i o ho) v ds ((put_defers _ _ _).symm.trans EJ)) (EJ.trans had)
      have skp:∀(σ:St),cO P nt B w0 h0 g σ a w->ku P Γ nt ops (i+1) l K (σ.skip o.dst)->wpOpsIn (FR r) n P ops Q (List.range' (i+1) l.length) (a.put o.dst undef) w:=by
        intro σ S h;exact ih (i+1) _ g _ w zY h (S.skip hd) (kX.put (hD i o ho) undef a.defers rfl) ((put_defers _ _ _).trans had)
      split at h
      · rename_i hg;rw[eX (by simp[Region.wanted,hg])];exact run σ S h
      · rename_i j want hg;split at h
        · exact h.elim
        · rename_i gt UU;split at h
          · rename_i b hb;have hv:a.tmps.getD gt undef=.bool b:=by
              have:=S.env gt _ hb;generalize a.tmps.getD gt undef=v at this;cases this;rfl
            have hy:=wM UU hv;have S1:∀c,b=c->cO P nt B w0 h0 g (σ.setT gt (.bool c)) a w:=by
              intro c hc;refine S.env' (t:=gt) (d:=.bool c) ?_ (kH _);rw[hv,hc];exact .bool c
            have h2:=qW.1 h;cases b with
            | true =>
              have h3:=h2.1 rfl;cases want with
              | true=>rw[eX (by simp[Region.wanted,hg,hy])];exact run _ (S1 true rfl) h3
              | false=>rw[fB (by simp[Region.wanted,hg,hy])];exact⟨λ_ _=>trivial,skp _ (S1 true rfl) h3⟩
            | false =>
              have h3:=h2.2 rfl;cases want with
              | true=>rw[fB (by simp[Region.wanted,hg,hy])];exact⟨λ_ _=>trivial,skp _ (S1 false rfl) h3⟩
              | false=>rw[eX (by simp[Region.wanted,hg,hy])];exact run _ (S1 false rfl) h3
          · rename_i hb;have hv:a.tmps.getD gt undef=undef:=S.env gt _ hb;have hy:=uD UU hv;rw[fB (by simp[Region.wanted,hg,hy])];exact⟨λ_ _=>trivial,skp _ S h⟩
          · exact h.elim
theorem Hu(gp:jw P Γ){ops:Array Oper}{K:St→Prop}{D:List Nat}{a0:Act}(hD:∀(j:Nat)(o:Oper),ops[j]? = some o→∀t,o.dst=some t→t∈D)
    (h:ku P Γ nt ops 0 ops.toList K σ) (S:cO P nt B w0 h0 g σ a w) (kX:Kp D a0 a)
    (hQ:∀σ',K σ'->∀g' a' w',cO P nt B w0 h0 g' σ' a' w'->Kp D a0 a'->a'.defers=a.defers->Q .normal a' w'):wpOpsIn (FR r) n P ops Q (List.range ops.size) a w:=by
  have:=yS (r:=r) (n:=n) gp hD hQ ops.toList 0 σ g a w (λj _=>by simp) h S kX rfl;rw[dqQ];simpa using this
end
end Go.Pm
namespace Go.Pm
variable [aJ]
def aC.fp:aC→List (Nat×Bool)
  | .no=>[]
  | .val fp _ _ _=>fp
  | .chk fp _ _ _ _=>fp
def aC.u:aC→List (Nat×AO)
  | .no=>[]
  | .val _ _ u _=>u
  | .chk _ _ _ u _=>u
def aC.kl:aC→List Nat
  | .no=>[]
  | .val _ _ _ k=>k
  | .chk _ _ _ _ k=>k
def aC.gives:aC→DV→Prop
  | .no,_=>False
  | .val _ d _ _,d'=>d'=d
  | .chk _ _ d _ _,d'=>d'=d
def Men(o:Oper)(ev:Operand->DV)(ob:Nat->Option AO)(fp:List (Nat×Bool))(L:Nat):Prop :=
 (∃x∈o.op.operands.toList,L∈lW (ev x))\/∃y∈fp,∃o',ob y.1=some o'/\L∈pK o'
structure cZ (P : Program) (Γ : bU) (o : Oper) (ev : Operand → DV) (ob : Nat → Option AO) (A : aC) : Prop where
  wr:∀x∈A.u,(x.1,true)∈A.fp
  kl:A.kl=[]\/∃L,A.kl=[L]/\(L,true)∈A.fp
  labu:∀x∈A.u,∀L∈pK x.2,Men o ev ob A.fp L
  labd:∀d,A.gives d->∀L∈lW d,Men o ev ob A.fp L\/(L,true)∈A.fp
  congr:∀ev' ob',(∀x∈o.op.operands.toList,ev' x=ev x)->(∀y∈A.fp,ob' y.1=ob y.1)->act P Γ o ev' ob'=A
section
variable{P:Program}{Γ:bU}{o:Oper}{ev:Operand->DV}{ob:Nat->Option AO}{A:aC}
theorem cZ.pure{fp:List (Nat×Bool)}{d:DV}(hd:∀L∈lW d,Men o ev ob fp L∨(L,true)∈fp)
    (hc:∀ev' ob',(∀x∈o.op.operands.toList,ev' x=ev x)->(∀y∈fp,ob' y.1=ob y.1)->act P Γ o ev' ob'=.val fp d [] []):cZ P Γ o ev ob (.val fp d [] []) :=
  ⟨λx hx=>by simp[aC.u]at hx,.inl rfl,λx hx=>by simp[aC.u]at hx,λd' h=>by simp only[aC.gives]at h;subst h;exact hd,hc⟩
theorem cZ.pchk{fp:List (Nat×Bool)}{s:CP}{d:DV}(hd:∀L∈lW d,Men o ev ob fp L∨(L,true)∈fp)
    (hc:∀ev' ob',(∀x∈o.op.operands.toList,ev' x=ev x)->(∀y∈fp,ob' y.1=ob y.1)->act P Γ o ev' ob'=.chk fp s d [] []):cZ P Γ o ev ob (.chk fp s d [] []) :=
  ⟨λx hx=>by simp[aC.u]at hx,.inl rfl,λx hx=>by simp[aC.u]at hx,λd' h=>by simp only[aC.gives]at h;subst h;exact hd,hc⟩
theorem iW{fp:List (Nat×Bool)}(v:PV):∀L∈lW (.p v),Men o ev ob fp L\/(L,true)∈fp:=λL hL=>by simp[lW,um,nI]at hL
theorem rP{fp:List (Nat×Bool)}{x:Operand}{d:DV}(hx:x∈o.op.operands.toList)(h:∀L∈lW d,L∈lW (ev x)):∀L∈lW d,Men o ev ob fp L\/(L,true)∈fp :=
 λL hL=>.inl (.inl ⟨x,hx,h L hL⟩)
theorem RI{c:Cl}:∀L∈nI c,L∈bD c:=by cases c<;>simp[nI,bD]
theorem RJ{ag:Bool}{m off:Nat}{cells:List Cl}{d:D1}(hr:nX ag m cells off=some d):∀L∈um d,L∈cells.flatMap nI:=by
 cases ag with
 | true =>
  simp only[nX]at hr;split at hr
  ·simp only [bW]at hr;subst hr;intro L hL;simp only[um,lK]at hL ⊢;obtain⟨c,hc,hL⟩:=hL;exact⟨c,qzk (qzl hc),hL⟩
  ·cases hr
 | false =>
  simp only[nX]at hr;split at hr
  ·rename_i x hx;simp only[bW]at hr;subst hr;intro L hL;simp only[um]at hL;exact lK.2 ⟨x,JB hx,hL⟩
  ·cases hr
theorem VU(cells:List PV):(cells.map Cl.p).flatMap nI=[]:=by
 induction cells with
 | nil=>rfl
 | cons c r ih=>simp[nI,ih]
theorem Jj{ag:Bool}{m off:Nat}{cells:List PV}{d:D1}(hr:nX ag m (cells.map .p) off=some d):um d=[]:=by
 have:=RJ hr;rw[VU]at this;cases hd:um d with
 | nil=>rfl
 | cons x l=>have:=this x (by rw[hd];exact lq);simp at this
theorem Bi{ob':Nat->Option AO}{c:Cl}(h:∀L∈bD c,ob' L=ob L):Ae ob' c=Ae ob c:=by
 cases c<;>first|rfl|(simp only[Ae];rw[h _ (by simp[bD])])
theorem yU{ob':Nat→Option AO}:∀{cs:List Cl},(∀L∈cs.flatMap bD,ob' L=ob L)→jE ob' cs=jE ob cs
  | [],_=>rfl
  | c::cs,h=>by
    simp only[jE];rw[Bi (λL hL=>h L (by simp[hL])),yU (λL hL=>h L (by simp only[oK,dU];exact .inr hL))]
theorem ZG{ob':Nat->Option AO}{c:Cl}(h:∀L∈bD c,ob' L=ob L/\∀o',ob L=some o'->∀M∈dR o',ob' M=ob M):Oo ob' c=Oo ob c:=by
 cases c with
 | ptr L off =>
  obtain⟨h1,h2⟩:=h L (by simp[bD]);simp only[Oo];rw[h1];cases hL:ob L with
  | none=>rfl
  | some o' =>
   cases o' with
   | box ty cells=>simp only[];rw[yU (λM hM=>h2 _ hL M hM)]
   | _=>rfl
 | _=>exact Bi λL hL=>(h L hL).1
theorem Hy{ob':Nat→Option AO}:∀{cs:List Cl},(∀L∈cs.flatMap bD,ob' L=ob L∧∀o',ob L=some o'→∀M∈dR o',ob' M=ob M)→nM ob' cs=nM ob cs
  | [],_=>rfl
  | c::cs,h=>by
    simp only[nM];rw[ZG (λL hL=>h L (by simp[hL])),Hy (λL hL=>h L (by simp only[oK,dU];exact .inr hL))]
def DC(ob ob':Nat->Option AO)(L:Nat):Prop:=ob' L=ob L/\∀o',ob L=some o'->∀M∈dR o',ob' M=ob M/\∀o2,ob M=some o2->∀N∈dR o2,ob' N=ob N
theorem KZ{ob':Nat->Option AO}{c:Cl}(h:∀L∈bD c,DC ob ob' L):JD ob' c=JD ob c:=by
 cases c with
 | ptr L off =>
  obtain⟨h1,h2⟩:=h L (by simp[bD]);simp only[JD];rw[h1];cases hL:ob L with
  | none=>rfl
  | some o' =>
   cases o' with
   | box ty cells=>simp only[];rw[Hy (λM hM=>h2 _ hL M hM)]
   | _=>rfl
 | _=>exact Bi λL hL=>(h L hL).1
theorem Hz{ob':Nat→Option AO}:∀{cs:List Cl},(∀L∈cs.flatMap bD,DC ob ob' L)→tC ob' cs=tC ob cs
  | [],_=>rfl
  | c::cs,h=>by
    simp only[tC];rw[KZ (λL hL=>h L (by simp[hL])),Hz (λL hL=>h L (by simp only[oK,dU];exact .inr hL))]
theorem Dl:∀caps:List uk,(caps.map zdq).flatMap bD=lL caps
  | []=>rfl
  | .v _::r=>by simp only[oU,oK,zdq,bD,Pg,lL];exact Dl r
  | .b L::r=>by simp only[oU,oK,zdq,bD,lL,qdZ,Pg];rw[Dl r]
theorem Qg{ob':Nat->Option AO}{c:Cl}(h:∀L∈bD c,DC ob ob' L):frz ob' c=frz ob c:=by
 cases c with
 | clo f caps =>
  simp only[frz];rw[Hz (ob:=ob) (ob':=ob') (cs:=caps.map zdq) (λL hL=>h L (by rw[Dl]at hL;exact hL))]
 | _=>exact KZ h
theorem Bj{ob':Nat→Option AO}:∀{cs:List Cl},(∀L∈cs.flatMap bD,DC ob ob' L)→ul ob' cs=ul ob cs
  | [],_=>rfl
  | c::cs,h=>by
    simp only[ul];rw[Qg (λL hL=>h L (by simp[hL])),Bj (λL hL=>h L (by simp only[oK,dU];exact .inr hL))]
theorem mY{ob:Nat->Option AO}{d:DV}{k:Nat}:k∈bK ob d↔∃L∈df d,k=L\/∃o,ob L=some o/\∃M∈dR o,k=M\/∃o2,ob M=some o2/\k∈dR o2:=by
 unfold bK;rw[lK];refine exists_congr λL=>and_congr_right λ_=>?_;rw[kR];refine or_congr_right ?_;cases ob L with
 | none=>simp
 | some o =>
  simp only[bW,exists_eq_left',lK,kR];refine exists_congr λM=>and_congr_right λ_=>or_congr_right ?_;cases ob M with
  | none=>simp
  | some o2=>simp
theorem La{ob':Nat->Option AO}{d:DV}(h:∀L∈bK ob d,ob' L=ob L):Af ob' d=Af ob d:=by
 have key:∀L∈df d,DC ob ob' L:=λL hL =>
  ⟨h L (mY.2 ⟨L,hL,.inl rfl⟩),λo' kQ M hM=>⟨h M (mY.2 ⟨L,hL,.inr ⟨o',kQ,M,hM,.inl rfl⟩⟩),λo2 nV N hN=>h N (mY.2 ⟨L,hL,.inr ⟨o',kQ,M,hM,.inr ⟨o2,nV,hN⟩⟩⟩)⟩⟩
 cases d with
 | one d =>
  cases d with
  | c c=>simp only[Af];rw[Qg key]
  | agg cs=>simp only[Af];rw[Bj key]
 | tup ds=>rfl
theorem lY{ob':Nat→Option AO}:∀{ds:List DV},(∀L∈ds.flatMap (bK ob),ob' L=ob L)→iD ob' ds=iD ob ds
  | [],_=>rfl
  | d::ds,h=>by
    simp only[iD];rw[La (λL hL=>h L (by simp[hL])),lY (λL hL=>h L (by simp only[oK,dU];exact .inr hL))]
theorem jr{ob':Nat->Option AO}{d:DV}(h:∀L∈bK ob d,ob' L=ob L):bK ob' d=bK ob d:=by
 have fm:∀(l:List Nat)(f f':Nat->List Nat),(∀L∈l,f' L=f L)->l.flatMap f'=l.flatMap f:=by
  intro l f f'
  induction l with
  | nil=>intro _;rfl
  | cons L l ih =>
   intro h;simp only[oK];rw[h L (by simp),ih (λM hM=>h M (jU _ hM))]
 unfold bK;refine fm _ _ _ λL hL=>?_;rw[h L (mY.2 ⟨L,hL,.inl rfl⟩)];cases hL2:ob L with
 | none=>rfl
 | some o =>
  refine jX (L :: ·) (fm _ _ _ λM hM=>?_);rw[h M (mY.2 ⟨L,hL,.inr ⟨o,hL2,M,hM,.inl rfl⟩⟩)]
theorem qZ{c:Cl}{v:PV}{u:mF}(h:Ae ob c=some (v,u)):∀x∈u,x.1∈bD c/\pK x.2=[]:=by
 unfold Ae at h;split at h
 ·simp only[bW,gy]at h;rw[<- h.2];intro x hx;simp at hx
 ·split at h
  ·simp only[bW,gy]at h;rw[<- h.2];intro x hx;simp at hx;subst hx;exact⟨by simp[bD],rfl⟩
  ·simp only[bW,gy]at h;rw[<- h.2];intro x hx;simp at hx
  ·simp only[bW,gy]at h;rw[<- h.2];intro x hx;simp only[mg]at hx;subst hx;exact⟨by simp[bD],rfl⟩
  ·cases h
 ·cases h
theorem rQ:∀{cs:List Cl}{l:List PV}{u:mF},jE ob cs=some (l,u)→∀x∈u,x.1∈cs.flatMap bD∧pK x.2=[]
  | [],l,u,h=>by simp[jE]at h;rw[h.2];intro x hx;simp at hx
  | c::cs,l,u,h=>by
    simp only[jE]at h;split at h
    · rename_i v u1 l2 u2 h1 h2;simp only[bW,gy] at h;rw[<- h.2];intro x hx;simp only[oK,dU];rcases dU.1 hx with hx | hx
      · exact⟨.inl (qZ h1 x hx).1,(qZ h1 x hx).2⟩
      · exact⟨.inr (rQ h2 x hx).1,(rQ h2 x hx).2⟩
    · cases h
theorem zdV{c:Cl}{v:PV}{u:mF}(h:Oo ob c=some (v,u)):∀x∈u,(x.1∈bD c\/∃L∈bD c,∃o',ob L=some o'/\x.1∈dR o')/\pK x.2=[]:=by
 unfold Oo at h;split at h
 ·split at h
  ·rename_i L off _x ty cells hL;split at h
   ·rename_i l us hl;simp only[bW,gy] at h;rw[<- h.2];intro x hx;rcases dU.1 hx with hx | hx
    ·exact⟨.inr ⟨L,by simp[bD],_,hL,(rQ hl x hx).1⟩,(rQ hl x hx).2⟩
    ·simp at hx;subst hx;exact⟨.inl (by simp[bD]),rfl⟩
   ·cases h
  ·simp only[bW,gy]at h;rw[<- h.2];intro x hx;simp at hx
  ·cases h
 ·intro x hx;exact⟨.inl (qZ h x hx).1,(qZ h x hx).2⟩
theorem Lc:∀{cs:List Cl}{l:List PV}{u:mF},nM ob cs=some (l,u)→∀x∈u,(x.1∈cs.flatMap bD∨∃L∈cs.flatMap bD,∃o',ob L=some o'∧x.1∈dR o')∧pK x.2=[]
  | [],l,u,h=>by simp[nM]at h;rw[h.2];intro x hx;simp at hx
  | c::cs,l,u,h=>by
    simp only[nM]at h;split at h
    · rename_i v u1 l2 u2 h1 h2;simp only[bW,gy] at h;rw[<- h.2];intro x hx;simp only[oK,dU];rcases dU.1 hx with hx | hx
      · obtain ⟨h3, h4⟩ := zdV h1 x hx;refine⟨?_,h4⟩;rcases h3 with h3 | ⟨L,hL,o',h5,h6⟩
        · exact .inl (.inl h3)
        · exact .inr ⟨L,.inl hL,o',h5,h6⟩
      · obtain ⟨h3, h4⟩ := Lc h2 x hx;refine⟨?_,h4⟩;rcases h3 with h3 | ⟨L,hL,o',h5,h6⟩
        · exact .inl (.inr h3)
        · exact .inr ⟨L,.inr hL,o',h5,h6⟩
    · cases h
def RC(ob:Nat->Option AO)(k:Nat)(l:List Nat):Prop:=∃L∈l,k=L\/∃o,ob L=some o/\∃M∈dR o,k=M\/∃o2,ob M=some o2/\k∈dR o2
theorem RC.mono{ob:Nat->Option AO}{k:Nat}{l m:List Nat}(h:RC ob k l)(hl:∀x∈l,x∈m):RC ob k m:=by
 obtain⟨L,h1,h2⟩:=h;exact⟨L,hl L h1,h2⟩
theorem FO{c:Cl}{v:PV}{u:mF}(h:JD ob c=some (v,u)):∀x∈u,RC ob x.1 (bD c)/\pK x.2=[]:=by
 unfold JD at h;split at h
 ·split at h
  ·rename_i L off _x ty cells hL;split at h
   ·rename_i l us hl;simp only[bW,gy] at h;rw[<- h.2];intro x hx;rcases dU.1 hx with hx | hx
    ·obtain ⟨h3, h4⟩ := Lc hl x hx;refine⟨⟨L,by simp[bD],.inr ⟨_,hL,?_⟩⟩,h4⟩;rcases h3 with h3 | ⟨M,hM,o2,h5,h6⟩
     ·exact⟨x.1,h3,.inl rfl⟩
     ·exact⟨M,hM,.inr ⟨o2,h5,h6⟩⟩
    ·simp at hx;subst hx;exact⟨⟨L,by simp[bD],.inl rfl⟩,rfl⟩
   ·cases h
  ·simp only[bW,gy]at h;rw[<- h.2];intro x hx;simp at hx
  ·cases h
 ·intro x hx;exact⟨⟨x.1,(qZ h x hx).1,.inl rfl⟩,(qZ h x hx).2⟩
theorem Bl:∀{cs:List Cl}{l:List PV}{u:mF},tC ob cs=some (l,u)→∀x∈u,RC ob x.1 (cs.flatMap bD)∧pK x.2=[]
  | [],l,u,h=>by simp[tC]at h;rw[h.2];intro x hx;simp at hx
  | c::cs,l,u,h=>by
    simp only[tC]at h;split at h
    · rename_i v u1 l2 u2 h1 h2;simp only[bW,gy] at h;rw[<- h.2];intro x hx;simp only[oK];rcases dU.1 hx with hx | hx
      · exact⟨(FO h1 x hx).1.mono λy hy=>dU.2 (.inl hy),(FO h1 x hx).2⟩
      · exact⟨(Bl h2 x hx).1.mono λy hy=>dU.2 (.inr hy),(Bl h2 x hx).2⟩
    · cases h
theorem Ld{c:Cl}{v:PV}{u:mF}(h:frz ob c=some (v,u)):∀x∈u,RC ob x.1 (bD c)/\pK x.2=[]:=by
 unfold frz at h;split at h
 ·rename_i f caps;split at h
  ·rename_i l us hl;simp only[bW,gy]at h;obtain⟨rfl,rfl⟩:=h;have:=Bl hl;rw[Dl]at this;exact this
  ·cases h
 ·exact FO h
theorem zJ:∀{cs:List Cl}{l:List PV}{u:mF},ul ob cs=some (l,u)→∀x∈u,RC ob x.1 (cs.flatMap bD)∧pK x.2=[]
  | [],l,u,h=>by simp[ul]at h;rw[h.2];intro x hx;simp at hx
  | c::cs,l,u,h=>by
    simp only[ul]at h;split at h
    · rename_i v u1 l2 u2 h1 h2;simp only[bW,gy] at h;rw[<- h.2];intro x hx;simp only[oK];rcases dU.1 hx with hx | hx
      · exact⟨(Ld h1 x hx).1.mono λy hy=>dU.2 (.inl hy),(Ld h1 x hx).2⟩
      · exact⟨(zJ h2 x hx).1.mono λy hy=>dU.2 (.inr hy),(zJ h2 x hx).2⟩
    · cases h
theorem Qh{d:DV}{v:PA}{u:mF}(h:Af ob d=some (v,u)):∀x∈u,x.1∈bK ob d/\pK x.2=[]:=by
 have deep:∀k,RC ob k (df d)->k∈bK ob d:=λk hk=>mY.2 hk;unfold Af at h;split at h
 ·split at h
  ·rename_i v' u' h1;simp only[bW,gy]at h;rw[<- h.2];intro x hx;obtain⟨h3,h4⟩:=Ld h1 x hx;exact⟨deep _ h3,h4⟩
  ·cases h
 ·split at h
  ·rename_i v' u' h1;simp only[bW,gy]at h;rw[<- h.2];intro x hx;obtain⟨h3,h4⟩:=zJ h1 x hx;exact⟨deep _ h3,h4⟩
  ·cases h
 ·cases h
theorem Bo:∀{ds:List DV}{l:List PA}{u:mF},iD ob ds=some (l,u)→∀x∈u,x.1∈ds.flatMap (bK ob)∧pK x.2=[]
  | [],l,u,h=>by simp[iD]at h;rw[h.2];intro x hx;simp at hx
  | d::ds,l,u,h=>by
    simp only[iD]at h;split at h
    · rename_i v u1 l2 u2 h1 h2;simp only[bW,gy] at h;rw[<- h.2];intro x hx;simp only[oK,dU];rcases dU.1 hx with hx | hx
      · exact⟨.inl (Qh h1 x hx).1,(Qh h1 x hx).2⟩
      · exact⟨.inr (Bo h2 x hx).1,(Bo h2 x hx).2⟩
    · cases h
end
end Go.Pm
namespace Go.Pm
variable [aJ]
section
variable{P:Program}{Γ:bU}{o:Oper}{ev:Operand->DV}{ob:Nat->Option AO}{A:aC}
theorem fmc{α β:Type}{f h:α→List β}:∀{l:List α},(∀x∈l,f x=h x)→l.flatMap f=l.flatMap h
  | [],_=>rfl
  | x::l,hf=>by simp only[oK];rw[hf x lq,fmc λy hy=>hf y (jU _ hy)]
theorem zbV{x:Operand}(bu:o.op=.move x\/o.op=.assign x):cZ P Γ o ev ob (.val [] (ev x) [] []):=by
 have hx:x∈o.op.operands.toList:=by rcases bu with h|h<;>simp[h,Op.operands]
 refine cZ.pure (rP hx λL hL=>hL) λev' ob' he _=>?_;rcases bu with h|h<;>simp only[act,h,he x hx]
theorem zny{b:Bool}{x y:DV}:∀L∈lW (Az b x y),L∈lW x\/L∈lW y:=by
 unfold Az;split
 ·intro L hL;simp[lW,um,nI]at hL
 ·cases b with
  | true=>exact λL hL=>.inl hL
  | false=>exact λL hL=>.inr hL
theorem znz{c x y:Operand}{t:Bool}(bu:o.op=.pick c x y)(hc:ev c=.one (.c (.p (.bool t)))):cZ P Γ o ev ob (.val [] (Az t (ev x) (ev y)) [] []):=by
 have hcm:c∈o.op.operands.toList:=by simp[bu,Op.operands]
 have hx:x∈o.op.operands.toList:=by simp[bu,Op.operands]
 have hy:y∈o.op.operands.toList:=by simp[bu,Op.operands]
 refine cZ.pure (λL hL=>?_) λev' ob' he _=>?_
 ·rcases zny L hL with h | h
  ·exact .inl (.inl ⟨x,hx,h⟩)
  ·exact .inl (.inl ⟨y,hy,h⟩)
 ·simp only[act,aPk,bu,he c hcm,he x hx,he y hy,hc]
theorem RN{ao:AO}{d:Nat→DV}(hlo:∀L∈pK ao,Men o ev ob [] L)(hld:∀t,∀L∈lW (d t),L=t)
    (hc:∀ev' ob',(∀x∈o.op.operands.toList,ev' x=ev x)->act P Γ o ev' ob'=Fg ob' o.dst ao d) (hA:Fg ob o.dst ao d=A) (hs:A.safe):cZ P Γ o ev ob A:=by
  have sZ:=hA;unfold Fg at hA;split at hA
  · rename_i t ht;split at hA
    · rename_i hn;subst hA;have men:∀ L,Men o ev ob [] L->Men o ev ob [(t,true)] L:=λ L h=>h.imp_right λ ⟨y,hy,_⟩=>by simp at hy
      refine⟨λx hx=>?_,.inl rfl,λx hx L hL=>?_,λd' gu L hL=>?_,λev' ob' he dh=>?_⟩
      · simp only[aC.u,mg]at hx;subst hx;simp[aC.fp]
      · simp only[aC.u,mg]at hx;subst hx;exact men L (hlo L hL)
      · simp only[aC.gives]at gu;subst gu;rw[hld t L hL];exact .inr (by simp[aC.fp])
      · rw [hc ev' ob' he];have:=dh (t,true) (by simp[aC.fp]);simp only at this;simp only[Fg,ht,this,hn]
    · subst hA;exact hs.elim
  · subst hA;exact hs.elim
theorem zbW{t:TypeId}{z:List Cl}(h:gV P t=some z):z.flatMap nI=[]:=by
 have h1:=PN h;cases hz:z.flatMap nI with
 | nil=>rfl
 | cons L l =>
  have:L∈z.flatMap nI:=by rw[hz];exact lq
  obtain⟨c,hc,hL⟩:=lK.1 this;have:L∈z.flatMap bD:=lK.2 ⟨c,hc,RI L hL⟩;rw[h1]at this;simp at this
theorem RP(d:D1):d.cells.flatMap nI=um d:=by cases d<;>simp[D1.cells,um]
theorem VV{t:TypeId}:∀(parts:List (Nat×Operand))(z l:List Cl),iH P t ev z parts=some l→∀L∈l.flatMap nI,L∈z.flatMap nI∨∃x∈parts,L∈lW (ev x.2)
  | [],z,l,h=>by simp[iH]at h;subst h;exact λL hL=>.inl hL
  | (i,x)::r,z,l,h=>by
    simp only[iH]at h;split at h
    · rename_i d hd;have zPN:∀(l' l:List Cl)(off:Nat),∀L∈(spl l off l').flatMap nI,L∈l.flatMap nI\/L∈l'.flatMap nI:=by
        intro l'
        induction l' with
        | nil=>intro l off L hL;exact .inl hL
        | cons c l' ih =>
          intro l off L hL;simp only[spl]at hL;rcases ih _ _ L hL with h|h
          · obtain ⟨c', hc', QM⟩ := lK.1 h;rcases qdn hc' with h2 | h2
            · exact .inl (lK.2 ⟨c',h2,QM⟩)
            · subst h2;exact .inr (lK.2 ⟨c',lq,QM⟩)
          · exact .inr (by simp only[oK,dU];exact .inr h)
      have step:∀off,iH P t ev (spl z off d.cells) r=some l->∀L∈l.flatMap nI,L∈z.flatMap nI\/∃y∈(i,x)::r,L∈lW (ev y.2):=by
        intro off hb L hL;rcases VV r _ l hb L hL with h|⟨y,hy,hL⟩
        · rcases zPN _ _ _ L h with h | h
          · exact .inl h
          · refine .inr ⟨(i,x),lq,?_⟩;simp only[hd,lW];rw[<- RP];exact h
        · exact .inr ⟨y,jU _ hy,hL⟩
      split at h
      · split at h
        · split at h
          · split at h
            · exact step _ h
            · cases h
          · cases h
        · cases h
      · split at h
        · split at h
          · exact step _ h
          · cases h
        · cases h
      · cases h
    · cases h
theorem Dn{ev':Operand→DV}{t:TypeId}:∀(parts:List (Nat×Operand))(z:List Cl),(∀x∈parts,ev' x.2=ev x.2)→iH P t ev' z parts=iH P t ev z parts
  | [],z,_=>rfl
  | (i,x)::r,z,h=>by
    have hx:ev' x=ev x:=h (i,x) lq;have ih:∀z,iH P t ev' z r=iH P t ev z r:=λz=>Dn r z λy hy=>h y (jU _ hy);simp only[iH,hx,ih]
theorem AL{ev':Operand->DV}{ob':Nat->Option AO}{s:Nat}:∀(parts:List (Nat×Operand))(i:Nat)(ls:List (List PV))(u:mF)(jh:List Nat),jy ob ev s i parts=some (ls,u,jh) ->
  (∀x∈parts,ev' x.2=ev x.2)->(∀L∈jh,ob' L=ob L)->jy ob' ev' s i parts=some (ls,u,jh)
 | [],i,ls,u,jh,h,_,_=>by simpa [jy]using h
 | (j,x)::r,i,ls,u,jh,h,he,dh=>by
  have hx:ev' x=ev x:=he (j,x) lq;simp only[jy]at h ⊢;rw[hx];split at h
  ·rename_i O5;split at h
   ·rename_i d hd;split at h
    ·rename_i l u1 ls' us ztA h1 h2;split at h
     ·rename_i hlen;simp only[bW,gy]at h;obtain⟨rfl,rfl,rfl⟩:=h;have e1:jE ob' d.cells=some (l,u1):=by
       rw[<- h1];refine yU λL hL=>dh L (dU.2 (.inl ?_));cases d<;>simpa [D1.cells,dE]using hL
      have e2:=AL r (i+1) ls' us ztA h2 (λy hy=>he y (jU _ hy)) (λL hL=>dh L (dU.2 (.inr hL)));simp only[e1,e2,hlen]
     ·cases h
    ·cases h
   ·cases h
  ·cases h
theorem wO{s:Nat}:∀(parts:List (Nat×Operand))(i:Nat)(ls:List (List PV))(u:mF)(jh:List Nat),jy ob ev s i parts=some (ls,u,jh)→∀x∈u,x.1∈jh∧pK x.2=[]
  | [],i,ls,u,jh,h=>by simp[jy]at h;rw[h.2.1];intro x hx;simp at hx
  | (j,x)::r,i,ls,u,jh,h=>by
    simp only[jy]at h;split at h
    · split at h
      · rename_i d hd;split at h
        · rename_i l u1 ls' us ztA h1 h2;split at h
          · simp only [bW, gy] at h;obtain⟨rfl,rfl,rfl⟩:=h;intro y hy;rcases dU.1 hy with hy | hy
            · obtain⟨h3,h4⟩:=rQ h1 y hy;refine⟨dU.2 (.inl ?_),h4⟩;cases d<;>simpa [D1.cells,dE]using h3
            · obtain⟨h3,h4⟩:=wO r _ _ _ _ h2 y hy;exact⟨dU.2 (.inr h3),h4⟩
          · cases h
        · cases h
      · cases h
    · cases h
theorem zhG{t:TypeId}{parts:Array (Nat×Operand)}{z l:List Cl}(bu:o.op = .build t parts)(hf:yF P t=true)(hz:gV P t=some z)(hl:iH P t ev z parts.toList=some l) :
  cZ P Γ o ev ob (.val [] (.one (.agg l)) [] []):=by
 have hm:∀x∈parts.toList,x.2∈o.op.operands.toList:=λx hx=>by
  simp only[bu,Op.operands];exact xR.2 ⟨x,hx,rfl⟩
 refine cZ.pure (λL hL=>?_) λev' ob' he _=>?_
 ·rcases VV _ _ _ hl L hL with h | ⟨x, hx, h⟩
  ·rw[zbW hz]at h;simp at h
  ·exact .inl (.inl ⟨x.2,hm x hx,h⟩)
 ·simp only[act,aBd,bu,hf,hz,Dn parts.toList z (λx hx=>he x.2 (hm x hx)),hl]
theorem Le{l:List Nat}{L:Nat}(h:L∈l):(L,true)∈wr l:=xR.2 ⟨L,h,rfl⟩
theorem Oz{t:TypeId}{n:Nat}{parts:Array (Nat×Operand)}(bu:o.op=.buildSlice t n parts)(hA:act P Γ o ev ob=A)(hs:A.safe):cZ P Γ o ev ob A:=by
 have hm:∀x∈parts.toList,x.2∈o.op.operands.toList:=λx hx=>by
  simp only[bu,Op.operands];exact xR.2 ⟨x,hx,rfl⟩
 simp only[act,aBs,bu]at hA;split at hA
 ·rename_i e hu;split at hA
  ·rename_i ie hie;split at hA
   ·rename_i ls u jh hp;split at hA
    ·rename_i z dst hb hz hd;split at hA
     ·rename_i hn;subst hA;refine⟨λ x hx=>?_,.inl rfl,λ x hx L hL=>?_,λ d' gu L hL=>?_,λ ev' ob' he dh=>?_⟩
      ·simp only [aC.u, kR] at hx;simp only[aC.fp,dU];rcases hx with rfl | hx
       ·exact .inr (by simp)
       ·exact .inl (Le (wO _ _ _ _ _ hp x hx).1)
      ·simp only [aC.u, kR] at hx;rcases hx with rfl | hx
       ·simp[pK]at hL
       ·rw[(wO _ _ _ _ _ hp x hx).2]at hL;simp at hL
      ·simp only [aC.gives]at gu;subst gu;simp only[lW,um,nI,mg]at hL;subst hL;exact .inr (by simp[aC.fp])
      ·have e1:=AL (ev':=ev') (ob':=ob') _ _ _ _ _ hp (fun x hx=>he x.2 (hm x hx)) (fun L hL=>dh (L,true) (dU.2 (.inl (Le hL))));have e2:=dh (dst,true) (dU.2 (.inr (by simp)));simp only at e2;simp only[act,aBs,bu,hu,hie,e1,hb,hz,hd,e2,hn]
     ·subst hA;exact hs.elim
    ·subst hA;exact hs.elim
   ·subst hA;exact hs.elim
  ·subst hA;exact hs.elim
 ·subst hA;exact hs.elim
theorem zwv{L:Nat}{ao:AO}{w:Bool}{d:D1}(hL:ob L=some ao)(h:∀M∈um d,M∈pK ao):∀M∈lW (.one d),Men o ev ob [(L,w)] M\/(M,true)∈[(L,w)] :=
 λM hM=>.inl (.inr ⟨(L,w),by simp,ao,hL,h M hM⟩)
theorem znA{t:TypeId}{x:Operand}(bu:o.op=.load t x)(hA:act P Γ o ev ob=A)(hs:A.safe):cZ P Γ o ev ob A:=by
 have hm:x∈o.op.operands.toList:=by simp[bu,Op.operands]
 simp only[act,aLd,bu]at hA;split at hA
 ·rename_i ag n uP hn;split at hA
  ·rename_i L off hx;split at hA
   ·rename_i ty cells hL;split at hA
    ·rename_i d hr;subst hA;refine cZ.pure (zwv hL (RJ hr)) λev' ob' he dh=>?_;have e:=dh (L,false) (by simp);simp only at e;simp only[act,aLd,bu,uP,hn,he x hm,hx,e,hL,hr]
    ·subst hA;exact hs.elim
   ·rename_i cells hL;split at hA
    ·rename_i d hr;subst hA;refine cZ.pure (λ M hM=>?_) λ ev' ob' he dh=>?_
     ·simp only[lW]at hM;rw[Jj hr]at hM;simp at hM
     have e:=dh (L,false) (by simp);simp only at e;simp only[act,aLd,bu,uP,hn,he x hm,hx,e,hL,hr]
    ·subst hA;exact hs.elim
   ·subst hA;exact hs.elim
  ·rename_i cells off hx;split at hA
   ·rename_i d hr;subst hA;refine cZ.pure (λ M hM=>?_) λ ev' ob' he dh=>?_
    ·simp only[lW]at hM;rw[Jj hr]at hM;simp at hM
    simp only[act,aLd,bu,uP,hn,he x hm,hx,hr]
   ·subst hA;exact hs.elim
  ·rename_i L s i k hx;split at hA
   ·rename_i e s' b len get hL;split at hA
    ·rename_i d OQ hr;subst hA;refine cZ.pchk (λ M hM=>?_) λ ev' ob' he dh=>?_
     ·simp only[lW]at hM;rw[Jj hr]at hM;simp at hM
     have e:=dh (L,false) (by simp);simp only at e;simp only[act,aLd,bu,uP,hn,he x hm,hx,e,hL,OQ,hr]
    ·subst hA;exact hs.elim
   ·rename_i s' len get hL;split at hA
    ·rename_i d OQ hr;subst hA;refine cZ.pchk (λ M hM=>?_) λ ev' ob' he dh=>?_
     ·simp only[lW]at hM;rw[Jj hr]at hM;simp at hM
     have e:=dh (L,false) (by simp);simp only at e;simp only[act,aLd,bu,uP,hn,he x hm,hx,e,hL,OQ,hr]
    ·subst hA;exact hs.elim
   ·rename_i hL0;split at hA
    ·rename_i OQ;split at hA
     ·rename_i dst GL;split at hA
      ·rename_i ig hL;subst hA;refine⟨λ x hx=>?_,.inl rfl,λ x hx L hL=>?_,λ d' gu L hL=>?_,λ ev' ob' he dh=>?_⟩
       ·simp only [aC.u,kR,qjN,jq2]at hx;rcases hx with rfl|rfl<;>simp[aC.fp]
       ·simp only [aC.u,kR,qjN,jq2]at hx;rcases hx with rfl|rfl<;>simp[pK]at hL
       ·simp only [aC.gives]at gu;subst gu;simp only[lW,um,nI,mg]at hL;subst hL;exact .inr (by simp[aC.fp])
       ·have e1:=dh (L,true) (by simp [aC.fp]);have e2:=dh (dst,true) (by simp[aC.fp]);simp only at e1 e2;simp only[act,aLd,bu,uP,hn,he x hm,hx,e1,e2,hL,OQ,GL,ig]
      ·subst hA;exact hs.elim
     ·subst hA;exact hs.elim
    ·subst hA;exact hs.elim
   ·subst hA;exact hs.elim
  ·subst hA;exact hs.elim
 ·subst hA;exact hs.elim
theorem zET:∀(l' l:List Cl)(off:Nat),∀L∈(spl l off l').flatMap nI,L∈l.flatMap nI\/L∈l'.flatMap nI:=by
 intro l'
 induction l' with
 | nil=>intro l off L hL;exact .inl hL
 | cons c l' ih =>
  intro l off L hL;simp only[spl]at hL;rcases ih _ _ L hL with h|h
  ·obtain ⟨c', hc', QM⟩ := lK.1 h;rcases qdn hc' with h2 | h2
   ·exact .inl (lK.2 ⟨c',h2,QM⟩)
   ·subst h2;exact .inr (lK.2 ⟨c',lq,QM⟩)
  ·exact .inr (by simp only[oK,dU];exact .inr h)
theorem zhH{t:TypeId}{x y:Operand}(bu:o.op=.store t x y)(hA:act P Γ o ev ob=A)(hs:A.safe):cZ P Γ o ev ob A:=by
 have hx:x∈o.op.operands.toList:=by simp[bu,Op.operands]
 have hy:y∈o.op.operands.toList:=by simp[bu,Op.operands]
 simp only[act,aSt,bu]at hA;split at hA
 ·rename_i n L off d hn hex YS;split at hA
  ·rename_i ty cells hL;split at hA
   ·rename_i hb;subst hA;refine⟨λ z hz=>?_,.inl rfl,λ z hz M hM=>?_,λ d' gu M hM=>?_,λ ev' ob' he dh=>?_⟩
    ·simp only[aC.u,mg]at hz;subst hz;simp[aC.fp]
    ·simp only [aC.u, mg] at hz; subst hz;simp only[pK] at hM;rcases zET _ _ _ M hM with h | h
     ·exact .inr ⟨(L,true),by simp[aC.fp],_,hL,h⟩
     ·refine .inl ⟨y,hy,?_⟩;rw[YS];simp only[lW];rw[<- RP];exact h
    ·simp only[aC.gives]at gu;subst gu;simp[lW,um,nI]at hM
    ·have e:=dh (L,true) (by simp [aC.fp]);simp only at e;simp only[act,aSt,bu,hn,he x hx,he y hy,hex,YS,e,hL,hb]
   ·subst hA;exact hs.elim
  ·subst hA;exact hs.elim
 ·rename_i n L s i k d hn hex YS;split at hA
  ·rename_i e s' b len get hL;split at hA
   ·rename_i l hl;split at hA
    ·rename_i hb;subst hA;refine⟨λ z hz=>?_,.inl rfl,λ z hz M hM=>?_,λ d' gu M hM=>?_,λ ev' ob' he dh=>?_⟩
     ·simp only[aC.u,mg]at hz;subst hz;simp[aC.fp]
     ·simp only[aC.u,mg]at hz;subst hz;simp[pK]at hM
     ·simp only[aC.gives]at gu;subst gu;simp[lW,um,nI]at hM
     ·have e:=dh (L,true) (by simp [aC.fp]);simp only at e;simp only[act,aSt,bu,hn,he x hx,he y hy,hex,YS,e,hL,hl,hb]
    ·subst hA;exact hs.elim
   ·subst hA;exact hs.elim
  ·rename_i te bb e s' OT len ln get hL;split at hA
   ·rename_i M';split at hA
    ·rename_i e2 s2 b2 mm lM hM';split at hA
     ·rename_i hb;split at hA
      ·rename_i hq;subst hA;refine⟨λ z hz=>?_,.inl rfl,λ z hz M hM=>?_,λ d' gu M hM=>?_,λ ev' ob' he dh=>?_⟩
       ·simp only [aC.u,kR,qjN,jq2]at hz;rcases hz with rfl|rfl<;>simp[aC.fp]
       ·simp only [aC.u,kR,qjN,jq2]at hz;rcases hz with rfl|rfl<;>simp[pK]at hM
       ·simp only[aC.gives]at gu;subst gu;simp[lW,um,nI]at hM
       ·have e:=dh (L,true) (by simp [aC.fp]);simp only at e;have e2:=dh (M',true) (by simp[aC.fp]);simp only at e2;simp only[act,aSt,bu,hn,he x hx,he y hy,hex,YS,e,hL,e2,hM',hb];rw[eX hq]
      ·subst hA;exact hs.elim
     ·subst hA;exact hs.elim
    ·subst hA;exact hs.elim
   ·subst hA;exact hs.elim
  ·subst hA;exact hs.elim
 ·subst hA;exact hs.elim
theorem VW{x:Operand}(bu:o.op=.nilCheck x)(hA:act P Γ o ev ob=A)(hs:A.safe):cZ P Γ o ev ob A:=by
 have hx:x∈o.op.operands.toList:=by simp[bu,Op.operands]
 simp only[act,aNc,bu]at hA;split at hA
 ·rename_i L off h;subst hA;exact cZ.pure (rP hx λL hL=>by rw[h];exact hL) λev' ob' he _=>by simp only[act,aNc,bu,he x hx,h]
 ·rename_i L off h;subst hA;exact cZ.pure (rP hx λL hL=>by rw[h];exact hL) λev' ob' he _=>by simp only[act,aNc,bu,he x hx,h]
 ·rename_i L s i k h;subst hA;exact cZ.pure (rP hx λL hL=>by rw[h];exact hL) λev' ob' he _=>by simp only[act,aNc,bu,he x hx,h]
 ·subst hA;exact hs.elim
theorem zhI{op:BinOp}{k:IntKind}{p q:Int}(hs:(U0 op k p q).safe)
    (hc:∀ev' ob',(∀x∈o.op.operands.toList,ev' x=ev x)->act P Γ o ev' ob'=U0 op k p q):cZ P Γ o ev ob (U0 op k p q):=by
  cases op<;>first
    | exact hs.elim
    | exact cZ.pure (iW _) λev' ob' he _=>hc ev' ob' he
    | exact cZ.pchk (iW _) λev' ob' he _=>hc ev' ob' he
theorem zhJ{op:BinOp}{t t':TypeId}{x y:Operand}(bu:o.op=.binOp op t x y t')(hA:act P Γ o ev ob=A)(hs:A.safe):cZ P Γ o ev ob A:=by
 have hx:x∈o.op.operands.toList:=by simp[bu,Op.operands]
 have hy:y∈o.op.operands.toList:=by simp[bu,Op.operands]
 simp only[act,aBn,bu]at hA;split at hA
 ·rename_i k p k' q hex YS;split at hA
  ·rename_i hk;subst hA;exact zhI hs λev' ob' he=>by simp only[act,aBn,bu,he x hx,he y hy,hex,YS,hk,Pn]
  ·rename_i hk;subst hA;have hc:∀ ev' ob',(∀ x∈o.op.operands.toList,ev' x=ev x)->act P Γ o ev' ob'=zgU op k p q:=λ ev' ob' he=>by simp only[act,aBn,bu,he x hx,he y hy,hex,YS,hk,qjr]
   cases op<;>first
    | exact hs.elim
    | exact cZ.pchk (iW _) λev' ob' he _=>hc ev' ob' he
 ·rename_i p q hex YS;split at hA
  ·rename_i hu;subst hA;exact cZ.pure (iW _) λev' ob' he _=>by simp only[act,aBn,bu,he x hx,he y hy,hex,YS,hu]
  ·rename_i hu;subst hA;exact cZ.pure (iW _) λev' ob' he _=>by simp only[act,aBn,bu,he x hx,he y hy,hex,YS,hu]
  ·subst hA;exact hs.elim
 ·rename_i cs ds hex YS;have hc:∀ev' ob',(∀x∈o.op.operands.toList,ev' x=ev x)->act P Γ o ev' ob'=A:=λev' ob' he=>by
   simp only[act,aBn,bu,he x hx,he y hy,hex,YS];exact hA
  unfold zbn at hA;split at hA
  ·split at hA
   ·subst hA;exact cZ.pure (iW _) λev' ob' he _=>hc ev' ob' he
   ·subst hA;exact cZ.pure (iW _) λev' ob' he _=>hc ev' ob' he
   ·subst hA;exact hs.elim
  ·subst hA;exact hs.elim
 ·subst hA;exact hs.elim
theorem zhK{t:TypeId}{x y:Operand}(bu:o.op=.index t x y)(hA:act P Γ o ev ob=A)(hs:A.safe):cZ P Γ o ev ob A:=by
 have hx:x∈o.op.operands.toList:=by simp[bu,Op.operands]
 have hy:y∈o.op.operands.toList:=by simp[bu,Op.operands]
 have hc:∀ev' ob',(∀x∈o.op.operands.toList,ev' x=ev x)->act P Γ o ev' ob'=A:=λev' ob' he=>by
  rw[<- hA];simp only[act,bu,he x hx,he y hy]
 simp only[act,bu,JF]at hA;split at hA
 ·split at hA
  ·rename_i cs k j _ _ hex YS;split at hA
   ·rename_i d _ hr;subst hA;refine cZ.pure (rP hx λL hL=>?_) λev' ob' he _=>hc ev' ob' he;rw[hex];exact RJ hr L hL
   ·subst hA;exact hs.elim
  ·subst hA;exact hs.elim
 ·subst hA;exact hs.elim
theorem zhL{t:TypeId}{x:Operand}{f:Nat}(bu:o.op=.field t x f)(hA:act P Γ o ev ob=A)(hs:A.safe):cZ P Γ o ev ob A:=by
 have hx:x∈o.op.operands.toList:=by simp[bu,Op.operands]
 have hc:∀ev' ob',(∀x∈o.op.operands.toList,ev' x=ev x)->act P Γ o ev' ob'=A:=λev' ob' he=>by
  rw[<- hA];simp only[act,bu,he x hx]
 simp only[act,bu,JG]at hA;split at hA
 ·split at hA
  ·split at hA
   ·rename_i hex;split at hA
    ·rename_i d hr;subst hA;refine cZ.pure (rP hx λL hL=>?_) λev' ob' he _=>hc ev' ob' he;rw[hex];exact RJ hr L hL
    ·subst hA;exact hs.elim
   ·subst hA;exact hs.elim
  ·subst hA;exact hs.elim
 ·subst hA;exact hs.elim
theorem ok_slice{t:TypeId}{x:Operand}{lo hi:Option Operand}(bu:o.op=.slice t x lo hi none)(hA:act P Γ o ev ob=A)(hs:A.safe):cZ P Γ o ev ob A:=by
 have hx:x∈o.op.operands.toList:=by simp[bu,Op.operands]
 have hlo:∀y,lo=some y->y∈o.op.operands.toList:=λy e=>by subst e;simp[bu,Op.operands]
 have hhi:∀y,hi=some y->y∈o.op.operands.toList:=λy e=>by subst e;simp[bu,Op.operands]
 have hc:∀ev' ob',(∀x∈o.op.operands.toList,ev' x=ev x)->act P Γ o ev' ob'=A:=λev' ob' he=>by
  have e1:Ff ev' lo=Ff ev lo:=by
   cases lo with
   | none=>rfl
   | some y=>simp only[Ff,he y (hlo y rfl)]
  have e2:Ff ev' hi=Ff ev hi:=by
   cases hi with
   | none=>rfl
   | some y=>simp only[Ff,he y (hhi y rfl)]
  rw[<- hA];simp only[act,bu,he x hx,e1,e2]
 simp only[act,bu,CB]at hA;split at hA
 ·split at hA
  ·split at hA
   ·subst hA;exact cZ.pchk (λL hL=>by simp[lW,um,nI]at hL) λev' ob' he _=>hc ev' ob' he
   ·subst hA;exact hs.elim
  ·subst hA;exact hs.elim
 ·subst hA;exact hs.elim
theorem znB{d:D1}:∀L,L∈um d->L∈dE d:=by
 intro L hL;cases d with
 | c y=>exact RI L hL
 | agg cs =>
  obtain⟨c,hc,hL⟩:=lK.1 hL;exact lK.2 ⟨c,hc,RI L hL⟩
theorem zdW{q:MQ}{kd:DV}{ok:Bool}{F:List Int->Option (List Int)}{fin:DV->aC}(hA:found q kd ok F fin=A)(hs:A.safe):∃d,(∀M∈lW d,False)/\fin d=A:=by
 unfold found at hA;split at hA
 ·split at hA
  ·rename_i d hdv;have hV:∀ M,M∈um d->False:=λ M hM=>by have:=znB M hM;rw[Vx hdv] at this;simp at this
   cases ok with
   | true =>
    refine⟨_,λM hM=>?_,hA⟩;simp only[lW,oK,List.flatMap_nil,List.append_nil,dU]at hM;rcases hM with hM|hM
    ·exact hV M hM
    ·simp[um,nI]at hM
   | false=>exact⟨.one d,λM hM=>hV M hM,hA⟩
  ·subst hA;exact hs.elim
 ·subst hA;exact hs.elim
theorem zdX{t:TypeId}{x y:Operand}{k:Bool}(bu:o.op=.lookup t x y k)(hA:act P Γ o ev ob=A)(hs:A.safe):cZ P Γ o ev ob A:=by
 have hx:x∈o.op.operands.toList:=by simp[bu,Op.operands]
 have hy:y∈o.op.operands.toList:=by simp[bu,Op.operands]
 have EH:∀ev' ob',(∀x∈o.op.operands.toList,ev' x=ev x)->act P Γ o ev' ob'=JI P t (ev x) (ev y) k ob':=λev' ob' he=>by simp only[act,bu,he x hx,he y hy]
 rw[EH ev ob (λ_ _=>rfl)]at hA;unfold JI at hA EH;split at hA
 ·rename_i kt vt L hu hex;split at hA
  ·rename_i q kt' vt' q' n F hE hL;split at hA
   ·rename_i dC;obtain⟨d,hd,e⟩:=zdW hA hs;subst e;refine cZ.pure (λM hM=>(hd M hM).elim) λev' ob' he dh=>?_;rw[EH ev' ob' he];have:=dh (L,false) (by simp);simp only at this;simp only[hu,hex,this,hL,hE,eX dC];exact hA
   ·subst hA;exact hs.elim
  ·subst hA;exact hs.elim
 ·subst hA;exact hs.elim
theorem RQ{t:TypeId}{x y z:Operand}(bu:o.op=.mapUpdate t x y z)(hA:act P Γ o ev ob=A)(hs:A.safe):cZ P Γ o ev ob A:=by
 have hx:x∈o.op.operands.toList:=by simp[bu,Op.operands]
 have hy:y∈o.op.operands.toList:=by simp[bu,Op.operands]
 have hz:z∈o.op.operands.toList:=by simp[bu,Op.operands]
 have EH:∀ev' ob',(∀x∈o.op.operands.toList,ev' x=ev x)->act P Γ o ev' ob'=U1 P t (ev x) (ev y) (ev z) ob':=λev' ob' he=>by simp only[act,bu,he x hx,he y hy,he z hz]
 rw[EH ev ob (λ_ _=>rfl)]at hA;unfold U1 at hA EH;split at hA
 ·rename_i kt vt L hu hex;split at hA
  ·rename_i q kt' vt' q' n F hE hL;split at hA
   ·rename_i c dv hck hez;split at hA
    ·rename_i l hl;split at hA
     ·rename_i dC;have hcc:∀ev' ob',(∀x∈o.op.operands.toList,ev' x=ev x)->(∀y∈[(L,true)],ob' y.1=ob y.1)->act P Γ o ev' ob'=A:=λev' ob' he dh=>by
       rw[EH ev' ob' he];have:=dh (L,true) (by simp);simp only at this;simp only[hu,hex,this,hL,hE,hck,hez,hl,eX dC];exact hA
      subst hA;refine⟨λx hx=>?_,.inl rfl,λx hx M hM=>?_,λd' gu M hM=>?_,λev' ob' he dh=>hcc ev' ob' he dh⟩
      ·simp only[aC.u,mg]at hx;subst hx;simp[aC.fp]
      ·simp only[aC.u,mg]at hx;subst hx;simp[pK]at hM
      ·simp only[aC.gives]at gu;subst gu;simp[lW,um,nI]at hM
     ·subst hA;exact hs.elim
    ·subst hA;exact hs.elim
   ·subst hA;exact hs.elim
  ·subst hA;exact hs.elim
 ·subst hA;exact hs.elim
theorem ZH{t:TypeId}(bu:o.op=.makeMap t none)(hA:act P Γ o ev ob=A)(hs:A.safe):cZ P Γ o ev ob A:=by
 cases hv:zvZ Γ o.dst with
 | true =>
  simp only[act,aMm,bu,hv]at hA;split at hA
  ·rename_i kt vt hu;split at hA
   ·rename_i q hE;exact RN (ao:=.mo kt vt q 0 (λ_=>none)) (d:=λt=>.cl (.mo t)) (λL hL=>by simp[pK]at hL) (λt L hL=>by simpa [lW,um,nI]using hL) (λev' ob' _=>by simp only[act,aMm,bu,hv,hu,hE]) hA hs
   ·subst hA;exact hs.elim
  ·subst hA;exact hs.elim
 | false =>
  simp only[act,aMm,bu,hv]at hA;subst hA;exact hs.elim
theorem znC{op:UnOp}{t:TypeId}{x:Operand}(bu:o.op=.unOp op t x)(hA:act P Γ o ev ob=A)(hs:A.safe):cZ P Γ o ev ob A:=by
 have hx:x∈o.op.operands.toList:=by simp[bu,Op.operands]
 simp only[act,aUn,bu]at hA;split at hA
 ·rename_i h;subst hA;exact cZ.pure (iW _) λev' ob' he _=>by simp only[act,aUn,bu,he x hx,h]
 ·rename_i h;subst hA;exact cZ.pure (iW _) λev' ob' he _=>by simp only[act,aUn,bu,he x hx,h]
 ·subst hA;exact hs.elim
theorem ZI{t1 t2:TypeId}{x:Operand}(bu:o.op=.convert t1 t2 x)(hA:act P Γ o ev ob=A)(hs:A.safe):cZ P Γ o ev ob A:=by
 have hx:x∈o.op.operands.toList:=by simp[bu,Op.operands]
 simp only[act,aCv,bu]at hA;split at hA
 ·rename_i h1 h2 h;subst hA;exact cZ.pure (iW _) λev' ob' he _=>by simp only[act,aCv,bu,he x hx,h,h1,h2]
 ·subst hA;exact hs.elim
theorem RU{t:TypeId}{x:Operand}{f:Nat}(bu:o.op=.fieldAddr t x f)(hA:act P Γ o ev ob=A)(hs:A.safe):cZ P Γ o ev ob A:=by
 have hx:x∈o.op.operands.toList:=by simp[bu,Op.operands]
 simp only[act,aFa,bu]at hA;split at hA
 ·rename_i off hf;split at hA
  ·rename_i h;subst hA;exact cZ.pure (rP hx λL hL=>by rw[h];exact hL) λev' ob' he _=>by simp only[act,aFa,bu,he x hx,h,hf]
  ·rename_i h;subst hA;exact cZ.pure (rP hx λL hL=>by rw[h];exact hL) λev' ob' he _=>by simp only[act,aFa,bu,he x hx,h,hf]
  ·rename_i h;subst hA;exact cZ.pure (rP hx λL hL=>by rw[h];exact hL) λev' ob' he _=>by simp only[act,aFa,bu,he x hx,h,hf]
  ·subst hA;exact hs.elim
 ·subst hA;exact hs.elim
theorem RV{t:TypeId}{x y:Operand}(bu:o.op=.indexAddr t x y)(hA:act P Γ o ev ob=A)(hs:A.safe):cZ P Γ o ev ob A:=by
 have hx:x∈o.op.operands.toList:=by simp[bu,Op.operands]
 have hy:y∈o.op.operands.toList:=by simp[bu,Op.operands]
 simp only[act,aIa,bu]at hA;split at hA
 ·rename_i e hu;split at hA
  ·rename_i n k j hn hj;split at hA
   ·rename_i len s get hex;split at hA
    ·rename_i qJ;subst hA;exact cZ.pchk (iW _) λev' ob' he _=>by simp only[act,aIa,bu,he x hx,he y hy,hex,hu,hn,hj,qJ,Pn]
    ·subst hA;exact hs.elim
   ·rename_i L hex;split at hA
    ·rename_i e' s b len get hL;split at hA
     ·rename_i qJ; subst hA;refine cZ.pchk (λ M hM=>.inl (.inl ⟨x,hx,?_⟩)) λ ev' ob' he dh=>?_
      ·rw[hex];exact hM
      have e:=dh (L,false) (by simp);simp only at e;simp only[act,aIa,bu,he x hx,he y hy,hex,hu,hn,hj,e,hL,qJ,Pn]
     ·subst hA;exact hs.elim
    ·rename_i s len get hL;split at hA
     ·rename_i qJ;subst hA;refine cZ.pchk (iW _) λev' ob' he dh=>?_;have e:=dh (L,false) (by simp);simp only at e;simp only[act,aIa,bu,he x hx,he y hy,hex,hu,hn,hj,e,hL,qJ,Pn]
     ·subst hA;exact hs.elim
    ·rename_i hL;split at hA
     ·rename_i qJ; subst hA;refine cZ.pchk (λ M hM=>.inl (.inl ⟨x,hx,?_⟩)) λ ev' ob' he dh=>?_
      ·rw[hex];exact hM
      have e:=dh (L,false) (by simp);simp only at e;simp only[act,aIa,bu,he x hx,he y hy,hex,hu,hn,hj,e,hL,qJ,Pn]
     ·subst hA;exact hs.elim
    ·rename_i hL;split at hA
     ·rename_i qJ; subst hA;refine cZ.pchk (λ M hM=>.inl (.inl ⟨x,hx,?_⟩)) λ ev' ob' he dh=>?_
      ·rw[hex];exact hM
      have e:=dh (L,false) (by simp);simp only at e;simp only[act,aIa,bu,he x hx,he y hy,hex,hu,hn,hj,e,hL,qJ,Pn]
     ·subst hA;exact hs.elim
    ·subst hA;exact hs.elim
   ·subst hA;exact hs.elim
  ·subst hA;exact hs.elim
 ·rename_i m e hu;have hc:∀ev' ob',(∀x∈o.op.operands.toList,ev' x=ev x)->act P Γ o ev' ob'=A:=λev' ob' he=>by
   simp only[act,aIa,bu,hu,he x hx,he y hy];exact hA
  unfold Cj at hA;split at hA
  ·split at hA
   ·split at hA
    ·rename_i h;subst hA;exact cZ.pure (rP hx λL hL=>by simp[lW,um,nI]at hL) λev' ob' he _=>hc ev' ob' he
    ·rename_i h;subst hA;exact cZ.pure (iW _) λev' ob' he _=>hc ev' ob' he
    ·subst hA;exact hs.elim
   ·subst hA;exact hs.elim
  ·subst hA;exact hs.elim
 ·subst hA;exact hs.elim
theorem ZJ{x:Operand}{k:Nat}(bu:o.op=.extract x k)(hA:act P Γ o ev ob=A)(hs:A.safe):cZ P Γ o ev ob A:=by
 have hx:x∈o.op.operands.toList:=by simp[bu,Op.operands]
 simp only[act,aEx,bu]at hA;split at hA
 ·rename_i ds h;split at hA
  ·rename_i d hd; subst hA;refine cZ.pure (rP hx λ L hL=>?_) λ ev' ob' he _=>by simp only[act,aEx,bu,he x hx,h,hd]
   rw[h];exact lK.2 ⟨d,JB hd,hL⟩
  ·subst hA;exact hs.elim
 ·subst hA;exact hs.elim
theorem yV{c:Callee}{args:Array Operand}{ts:Array TypeId}(bu:o.op=.call {callee:=c,args,argTypes:=ts}):∀x∈args.toList,x∈o.op.operands.toList:=by
 intro x hx;simp only[bu,Op.operands];cases c<;>simp[Call.operands]<;>simp at hx<;>first|exact hx|exact .inr hx
theorem ztB{b:Builtin}{args:Array Operand}{ts:Array TypeId}(hb:b=.max\/b=.min)(bu:o.op=.call {callee:=.builtin b,args,argTypes:=ts})(hA:act P Γ o ev ob=A)(hs:A.safe):cZ P Γ o ev ob A:=by
 have hm:=yV bu;have Yr:∀ev':Operand->DV,(∀x∈o.op.operands.toList,ev' x=ev x)->args.toList.map ev'=args.toList.map ev:=λev' he=>qdg λx hx=>he x (hm x hx);rcases hb with rfl|rfl<;>simp only[act,aMx,aMi,bu]at hA<;>split at hA
 ·rename_i h;subst hA;exact cZ.pure (iW _) λev' ob' he _=>by simp only[act,aMx,aMi,bu,Yr ev' he,h]
 ·subst hA;exact hs.elim
 ·rename_i h;subst hA;exact cZ.pure (iW _) λev' ob' he _=>by simp only[act,aMx,aMi,bu,Yr ev' he,h]
 ·subst hA;exact hs.elim
theorem zww{args:Array Operand}{ts:Array TypeId}(bu:o.op=.call {callee:=.builtin .len,args,argTypes:=ts})(hA:act P Γ o ev ob=A)(hs:A.safe):cZ P Γ o ev ob A:=by
 have hm:=yV bu;simp only[act,aLn,bu]at hA;split at hA
 ·rename_i x t gB ht;have hx:x∈o.op.operands.toList:=hm x (by rw[gB];simp);split at hA
  ·rename_i e hu;split at hA
   ·rename_i h;subst hA;exact cZ.pure (iW _) λev' ob' he _=>by simp only[act,aLn,bu,gB,ht,hu,he x hx,h]
   ·rename_i h;subst hA;exact cZ.pure (iW _) λev' ob' he _=>by simp only[act,aLn,bu,gB,ht,hu,he x hx,h]
   ·rename_i L h;split at hA
    ·rename_i hL;subst hA;refine cZ.pure (iW _) λev' ob' he dh=>?_;have e:=dh (L,false) (by simp);simp only at e;simp only[act,aLn,bu,gB,ht,hu,he x hx,h,e,hL]
    ·rename_i hL;subst hA;refine cZ.pure (iW _) λev' ob' he dh=>?_;have e:=dh (L,false) (by simp);simp only at e;simp only[act,aLn,bu,gB,ht,hu,he x hx,h,e,hL]
    ·rename_i hL;subst hA;refine cZ.pure (iW _) λev' ob' he dh=>?_;have e:=dh (L,false) (by simp);simp only at e;simp only[act,aLn,bu,gB,ht,hu,he x hx,h,e,hL]
    ·subst hA;exact hs.elim
   ·subst hA;exact hs.elim
  ·rename_i kt vt hu;split at hA
   ·rename_i L h;split at hA
    ·rename_i hL;subst hA;refine cZ.pure (iW _) λev' ob' he dh=>?_;have e:=dh (L,false) (by simp);simp only at e;simp only[act,aLn,bu,gB,ht,hu,he x hx,h,e,hL]
    ·subst hA;exact hs.elim
   ·subst hA;exact hs.elim
  ·subst hA;exact hs.elim
 ·subst hA;exact hs.elim
theorem RX{d:DV}{ob':Nat→Option AO}{m sz:Nat}{new:Nat→List PV}{fps:List (Nat×Bool)}(h:Fj d ob=some (m,sz,new,fps))(dh:∀y∈fps,ob' y.1=ob y.1) :
  Fj d ob'=some (m,sz,new,fps):=by
 unfold Fj at h ⊢;split at h
 ·exact h
 ·rename_i M;split at h
  ·rename_i hM;have h':=h;simp only[bW,gy]at h;have e:=dh (M,false) (by rw[<- h.2.2.2];simp);simp only at e;rw[e,hM];exact h'
  ·rename_i hM;have h':=h;simp only[bW,gy]at h;have e:=dh (M,false) (by rw[<- h.2.2.2];simp);simp only at e;rw[e,hM];exact h'
  ·cases h
 ·cases h
theorem zdY{args:Array Operand}{ts:Array TypeId}(bu:o.op=.call {callee:=.builtin .append,args,argTypes:=ts})(hA:act P Γ o ev ob=A)(hs:A.safe):cZ P Γ o ev ob A:=by
 have hm:=yV bu;have hA0:=hA;simp only[act,aAp,bu]at hA;split at hA
 ·rename_i s x t t' gB ht;have hsm:s∈o.op.operands.toList:=hm s (by rw[gB];simp);have hx:x∈o.op.operands.toList:=hm x (by rw[gB];simp);split at hA
  ·rename_i e dst hu htt hd;split at hA
   ·rename_i ie z hie hz;have zBx:∀(ev':Operand->DV)(ob':Nat->Option AO),act P Γ o ev' ob'=QZ e ie dst (ev' x) (ev' s) ob':=λev' ob'=>by
     simp only[act,aAp,bu,gB,ht,hu,htt,hd,hie,hz]
    unfold QZ at hA zBx;split at hA
    ·rename_i m sz new fps oJ
     -- the source looks only at zDQ fps names
     have zKk:∀(ev':Operand->DV)(ob':Nat->Option AO),(∀x∈o.op.operands.toList,ev' x=ev x)->(∀y∈fps,ob' y.1=ob y.1) ->
       Fj (ev' x) ob'=some (m,sz,new,fps):=by
      intro ev' ob' he dh;rw[he x hx];exact RX oJ dh
     split at hA
     ·rename_i L hes;split at hA
      ·rename_i e' s' b' n' get' hL;split at hA
       ·rename_i hif;subst hA;refine⟨λ z hz=>?_,.inr ⟨L,rfl,by simp[aC.fp]⟩,λ z hz M hM=>?_,λ d' gu M hM=>?_,λ ev' ob' he dh=>?_⟩
        ·simp only[aC.u,mg]at hz;subst hz;simp[aC.fp]
        ·simp only[aC.u,mg]at hz;subst hz;simp[pK]at hM
        ·simp only [aC.gives]at gu;subst gu;simp only[lW,um,nI,mg]at hM;subst hM;exact .inr (by simp[aC.fp])
        ·have e1:=zKk ev' ob' he (fun y hy=>dh y (jU _ hy));have e2:=dh (L,true) (by simp[aC.fp]);simp only at e2;rw[zBx,e1];simp only[he s hsm,he x hx,hes,e2,hL];rw[eX hif]
       ·subst hA;exact hs.elim
      ·subst hA;exact hs.elim
     ·rename_i hes;split at hA
      ·rename_i hn;split at hA
       ·rename_i hif;subst hA;refine⟨λ z hz=>?_,.inl rfl,λ z hz M hM=>?_,λ d' gu M hM=>?_,λ ev' ob' he dh=>?_⟩
        ·simp only[aC.u,mg]at hz;subst hz;simp[aC.fp]
        ·simp only[aC.u,mg]at hz;subst hz;simp[pK]at hM
        ·simp only [aC.gives]at gu;subst gu;simp only[lW,um,nI,mg]at hM;subst hM;exact .inr (by simp[aC.fp])
        ·have e1:=zKk ev' ob' he (fun y hy=>dh y (jU _ hy));have e2:=dh (dst,true) (by simp[aC.fp]);simp only at e2;rw[zBx,e1];simp only[he s hsm,hes,e2,hn];rw[eX hif]
       ·subst hA;exact hs.elim
      ·subst hA;exact hs.elim
     ·subst hA;exact hs.elim
    ·subst hA;exact hs.elim
   ·subst hA;exact hs.elim
  ·subst hA;exact hs.elim
 ·subst hA;exact hs.elim
theorem ztC(x:PA):um (I5 x)=[]:=by
 cases x with
 | one p=>rfl
 | agg cs=>exact VU cs
theorem ZK(rs:List PA):lW (resD rs)=[]:=by
 have tup:∀l:List PA,lW (.tup (l.map I5))=[]:=by
  intro l
  induction l with
  | nil=>rfl
  | cons x l ih=>simp only[oU,lW,oK,ztC,Pg]at ih ⊢;exact ih
 match rs with
 | []=>exact tup _
 | [x]=>exact ztC x
 | x::y::l=>exact tup _
theorem zwx{k:Fe}{args:Array Operand}{c:Callee}{ts:Array TypeId}(bu:o.op = .call {callee:=c,args,argTypes:=ts})
    (hc:∀ev' ob',(∀x∈o.op.operands.toList,ev' x=ev x)->act P Γ o ev' ob'=kG P Γ o k (args.toList.map ev') ob') (hA:kG P Γ o k (args.toList.map ev) ob=A) (hs:A.safe):cZ P Γ o ev ob A:=by
  have hm:=yV bu;have Yr:∀ev':Operand->DV,(∀x∈o.op.operands.toList,ev' x=ev x)->args.toList.map ev'=args.toList.map ev:=λev' he=>qdg λx hx=>he x (hm x hx);unfold kG at hA;split at hA
  · subst hA;exact hs.elim
  · split at hA
    · rename_i L hf caps gB;split at hA
      · rename_i hL uP;split at hA
        · rename_i hif;subst hA;refine⟨λ z hz=>?_,.inl rfl,λ z hz M hM=>?_,λ d' gu M hM=>?_,λ ev' ob' he dh=>?_⟩
          · simp only[aC.u,mg]at hz;subst hz;simp[aC.fp]
          · simp only[aC.u,mg]at hz;subst hz;simp[pK]at hM
          · simp only[aC.gives]at gu;subst gu;simp[lW]at hM
          · have e2:=dh (L,true) (by simp [aC.fp]);simp only at e2;rw[hc ev' ob' he,Yr ev' he];simp only[kG,gB,e2,hL,uP];rw[eX hif]
        · subst hA;exact hs.elim
      · subst hA;exact hs.elim
    · subst hA;exact hs.elim
  · split at hA
    · rename_i dst gB hd;split at hA
      · rename_i hn hi hz;split at hA
        · rename_i hif;subst hA;refine⟨λ z hz=>?_,.inl rfl,λ z hz M hM=>?_,λ d' gu M hM=>?_,λ ev' ob' he dh=>?_⟩
          · simp only[aC.u,mg]at hz;subst hz;simp[aC.fp]
          · simp only[aC.u,mg]at hz;subst hz;simp[pK]at hM
          · simp only [aC.gives]at gu;subst gu;simp only[lW,um,nI,mg]at hM;subst hM;exact .inr (by simp[aC.fp])
          · have e2:=dh (dst,true) (by simp [aC.fp]);simp only at e2;rw[hc ev' ob' he,Yr ev' he];simp only[kG,gB,hd,e2,hn,hi,hz];rw[eX hif]
        · subst hA;exact hs.elim
      · subst hA;exact hs.elim
    · subst hA;exact hs.elim
  · split at hA
    · rename_i az u dst has hd;split at hA
      · rename_i n get rs ie z hF ig hi hz;split at hA
        · rename_i hif;subst hA;refine⟨λ z hz=>?_,.inl rfl,λ z hz M hM=>?_,λ d' gu M hM=>?_,λ ev' ob' he dh=>?_⟩
          · simp only[aC.u,mg]at hz;subst hz;simp[aC.fp]
          · simp only[aC.u,mg]at hz;subst hz;simp[pK]at hM
          · simp only [aC.gives]at gu;subst gu;cases rs with
            | nil =>
              simp only[lW,um,nI,mg]at hM;subst hM;exact .inr (by simp[aC.fp])
            | cons x l =>
              have hM2:M=dst:=by
                simp only[lW,oK,dU,um,nI,mg,lK,xR]at hM;rcases hM with hM|⟨d1,⟨v,_,rfl⟩,hM⟩
                · exact hM
                · simp[um,nI]at hM
              subst hM2;exact .inr (by simp[aC.fp])
          · have hl:∀L∈(args.toList.map ev).flatMap (bK ob),ob' L=ob L:=fun L hL=>dh (L,false) (jU _ (xR.2 ⟨L,hL,rfl⟩));have e2:=dh (dst,true) (by simp[aC.fp]);simp only at e2;have e3:iD ob' (args.toList.map ev)=some (az,u):=(lY hl).trans has;have e4:(args.toList.map ev).flatMap (bK ob')=(args.toList.map ev).flatMap (bK ob):=fmc λd hd=>jr λL hL=>hl L (lK.2 ⟨d,hd,hL⟩);rw[hc ev' ob' he,Yr ev' he];simp only[kG,hd,e2,hF,ig,hi,hz,e3,e4];rw[eX hif]
        · subst hA;exact hs.elim
      · subst hA;exact hs.elim
    · subst hA;exact hs.elim
  · split at hA
    · rename_i ds L NP;split at hA
      · rename_i az e' s' b' n get has hL;split at hA
        · rename_i m get' hF;split at hA
          · rename_i hif;subst hA;refine⟨λ z hz=>?_,.inr ⟨L,rfl,by simp[aC.fp]⟩,λ z hz M hM=>?_,λ d' gu M hM=>?_,λ ev' ob' he dh=>?_⟩
            · simp only[aC.u,mg]at hz;subst hz;simp[aC.fp]
            · simp only[aC.u,mg]at hz;subst hz;simp[pK]at hM
            · simp only [aC.gives]at gu;subst gu;simp only[lW,um,nI,mg]at hM;subst hM;exact .inr (by simp[aC.fp])
            · have hl:∀M∈ds.flatMap (bK ob),ob' M=ob M:=fun M hM=>dh (M,false) (jU _ (xR.2 ⟨M,hM,rfl⟩));have e2:=dh (L,true) (by simp[aC.fp]);simp only at e2;have e3:iD ob' ds=some (az,[]):=(lY hl).trans has;have e4:ds.flatMap (bK ob')=ds.flatMap (bK ob):=fmc λd hd=>jr λL hL=>hl L (lK.2 ⟨d,hd,hL⟩);rw[hc ev' ob' he,Yr ev' he];simp only[kG,NP,e3,e2,hL,hF,e4];rw[eX hif]
          · subst hA;exact hs.elim
        · subst hA;exact hs.elim
      · subst hA;exact hs.elim
    · rename_i ds NP;split at hA
      · rename_i az dst has hd;split at hA
        · rename_i ie z ig hi hz;split at hA
          · rename_i l hzl;split at hA
            · rename_i m get' hF;split at hA
              · rename_i hif;subst hA;refine⟨λ z hz=>?_,.inl rfl,λ z hz M hM=>?_,λ d' gu M hM=>?_,λ ev' ob' he dh=>?_⟩
                · simp only[aC.u,mg]at hz;subst hz;simp[aC.fp]
                · simp only[aC.u,mg]at hz;subst hz;simp[pK]at hM
                · simp only [aC.gives]at gu;subst gu;simp only[lW,um,nI,mg]at hM;subst hM;exact .inr (by simp[aC.fp])
                · have hl:∀M∈ds.flatMap (bK ob),ob' M=ob M:=fun M hM=>dh (M,false) (jU _ (xR.2 ⟨M,hM,rfl⟩));have e2:=dh (dst,true) (by simp[aC.fp]);simp only at e2;have e3:iD ob' ds=some (az,[]):=(lY hl).trans has;have e4:ds.flatMap (bK ob')=ds.flatMap (bK ob):=fmc λd hd=>jr λL hL=>hl L (lK.2 ⟨d,hd,hL⟩);rw[hc ev' ob' he,Yr ev' he];simp only[kG,NP,e3,hd,e2,ig,hi,hz,hzl,hF,e4];rw[eX hif]
              · subst hA;exact hs.elim
            · subst hA;exact hs.elim
          · subst hA;exact hs.elim
        · subst hA;exact hs.elim
      · subst hA;exact hs.elim
    · subst hA;exact hs.elim
theorem Dp{sf:lu}{ob:Nat->Option AO}:∀{cells l:List Cl}{ys cs:List XC}{u:List (Nat×AO)}{ms:List Nat},ik cells ys=some (l,u)->iU sf ob cells=some (cs,ms) ->
  u.map (·.1)=ms/\(∀x∈u,pK x.2=[])/\∀L∈l.flatMap nI,L∈cells.flatMap nI
 | [],l,[],cs,u,ms,h,h2=>by
  simp only[ik,bW,gy]at h;obtain⟨rfl,rfl⟩:=h;simp only[iU,bW,gy]at h2;rw[<- h2.2];exact⟨rfl,λx hx=>by simp at hx,λL hL=>hL⟩
 | [],l,_::_,cs,u,ms,h,h2=>by simp[ik]at h
 | c::cells,l,[],cs,u,ms,h,h2=>by simp[ik]at h
 | c::cells,l,y::ys,cs,u,ms,h,h2=>by
  unfold ik at h;split at h
  ·rename_i e;simp at e
  ·rename_i e1 e2;simp only[GZ] at e1 e2;obtain⟨rfl,rfl⟩:=e1;obtain⟨rfl,rfl⟩:=e2;split at h
   ·rename_i hp;simp only[bW,gy] at h;obtain⟨rfl,rfl⟩:=h;simp only[iU] at h2;split at h2
    ·rename_i hc;simp only[bW,gy]at h2;rw[<- h2.2];obtain⟨i1,i2,i3⟩:=Dp hp hc;exact⟨i1,i2,λL hL=>by simp only[oK,nI,Pg]at hL ⊢;exact i3 L hL⟩
    ·cases h2
   ·cases h
  ·rename_i e1 e2;simp only[GZ] at e1 e2;obtain⟨rfl,rfl⟩:=e1;obtain⟨rfl,rfl⟩:=e2;split at h
   ·rename_i hp;simp only[bW,gy] at h;obtain⟨rfl,rfl⟩:=h;simp only[iU] at h2;split at h2
    ·rename_i hc;split at h2
     ·simp only [bW, gy] at h2; rw [← h2.2];obtain⟨i1,i2,i3⟩:=Dp hp hc;refine⟨by simp[i1],λ x hx=>?_,λ L hL=>?_⟩
      ·rcases kR.1 hx with e | hx
       ·subst e;rfl
       ·exact i2 x hx
      ·simp only [oK,dU]at hL ⊢;exact hL.imp_right (i3 L)
     ·cases h2
    ·cases h2
   ·cases h
  ·rename_i e1 e2;simp only[GZ] at e1 e2;obtain⟨rfl,rfl⟩:=e1;obtain⟨rfl,rfl⟩:=e2;split at h
   ·rename_i hp;simp only[bW,gy] at h;obtain⟨rfl,rfl⟩:=h;simp only[iU] at h2;split at h2
    ·rename_i hc;split at h2
     ·simp only [bW, gy] at h2; rw [← h2.2];obtain⟨i1,i2,i3⟩:=Dp hp hc;refine⟨by simp[i1],λ x hx=>?_,λ L hL=>?_⟩
      ·rcases kR.1 hx with e | hx
       ·subst e;rfl
       ·exact i2 x hx
      ·simp only [oK,dU]at hL ⊢;exact hL.imp_right (i3 L)
     ·cases h2
    ·cases h2
   ·cases h
  ·rename_i e1 e2;simp only[GZ] at e1 e2;obtain⟨rfl,rfl⟩:=e1;obtain⟨rfl,rfl⟩:=e2;split at h
   ·rename_i hp;simp only[bW,gy] at h;obtain⟨rfl,rfl⟩:=h;simp only[iU] at h2;split at h2
    ·rename_i hc;split at h2
     ·simp only [bW,gy]at h2;rw [← h2.2];obtain⟨i1,i2,i3⟩:=Dp hp hc;exact⟨i1,i2,λL hL=>by simp only[oK,dU]at hL ⊢;exact hL.imp_right (i3 L)⟩
     ·cases h2
    ·cases h2
   ·cases h
  ·cases h
theorem zwy{sf:lu}{ob:Nat→Option AO}{d:DV}{x y:XA}{u:List (Nat×AO)}{ls ms:List Nat}(h:II ob d y=some u)(h2:Ah sf ob d=some (x,ls,ms)) :
  u.map (·.1)=ls/\∀x∈u,∀L∈pK x.2,∃o',ob x.1=some o'/\L∈pK o':=by
 have data:sU ob d=some (x,ls,ms)->ls=[]:=by
  intro h;unfold sU at h;split at h
  ·simp only[bW,gy]at h;exact h.2.1.symm
  ·cases h
 unfold II at h;split at h
 ·rename_i L;split at h
  ·rename_i YX cells hL;rw[o7,hL] at h2;dsimp only at h2;split at h2
   ·rename_i cs ms' hc;simp only[bW,gy] at h2;obtain⟨rfl,rfl,rfl⟩:=h2;split at h
    ·split at h
     ·rename_i l u' hty hp;simp only[bW] at h;subst h;obtain⟨i1,i2,i3⟩:=Dp hp hc;refine⟨by simp[i1],λ x hx K hK=>?_⟩;rcases kR.1 hx with e | hx
      ·subst e;exact⟨_,hL,i3 K hK⟩
      ·rw[i2 x hx]at hK;simp at hK
     ·cases h
    ·cases h
   ·cases h2
  ·rename_i ww;have hx:sU ob (.one (.c (.ptr L 0)))=some (x,ls,ms):=by
    rw[o7]at h2;cases hL:ob L with
    | none=>rw[hL]at h2;exact h2
    | some o =>
     rw[hL]at h2;cases o with
     | box ty cells=>exact absurd hL (ww _ _)
     | _=>exact h2
   rw[data hx];split at h
   ·simp only[bW]at h;subst h;exact⟨rfl,λx hx=>by simp at hx⟩
   ·cases h
 ·rename_i ww;have hx:sU ob d=some (x,ls,ms):=by
   unfold Ah at h2;split at h2
   ·exact(ww _ rfl).elim
   ·exact h2
  rw[data hx];split at h
  ·simp only[bW]at h;subst h;exact⟨rfl,λx hx=>by simp at hx⟩
  ·cases h
theorem zbX{sf:lu}{ob:Nat->Option AO}:∀{ds:List DV}{xs ys:List XA}{u:List (Nat×AO)}{ls ms:List Nat},jR ob ds ys=some u->jZ sf ob ds=some (xs,ls,ms) ->
  u.map (·.1)=ls/\∀x∈u,∀L∈pK x.2,∃o',ob x.1=some o'/\L∈pK o'
 | [],xs,[],u,ls,ms,h,h2=>by
  simp only[jR,bW]at h;subst h;simp only[jZ,bW,gy]at h2;rw[<- h2.2.1];exact⟨rfl,λx hx=>by simp at hx⟩
 | [],_,_::_,_,_,_,h,_=>by simp[jR]at h
 | _::_,_,[],_,_,_,h,_=>by simp[jR]at h
 | d::ds,xs,y::ys,u,ls,ms,h,h2=>by
  simp only[jR]at h;split at h
  ·rename_i u1 u2 e1 e2;simp only[bW] at h;subst h;simp only[jZ] at h2;split at h2
   ·rename_i x bl m1 xs' bls m2 h3 h4;simp only[bW,gy]at h2;rw[<- h2.2.1];obtain⟨i1,i2⟩:=zbX e2 h4;obtain⟨j1,j2⟩:=zwy e1 h3;exact⟨by simp[i1,j1],λx hx=>(dU.1 hx).elim (j2 x) (i2 x)⟩
   ·cases h2
  ·cases h
theorem HY{sf:lu}{ob ob':Nat→Option AO}:∀{cells:List Cl},(∀L∈cells.flatMap bD,ob' L=ob L)→iU sf ob' cells=iU sf ob cells
  | [],_=>rfl
  | c::cells,h=>by
    have ih:iU sf ob' cells=iU sf ob cells:=HY λL hL=>h L (by simp only[oK,dU];exact .inr hL);cases c with
    | vec M=>simp only[iU,ih,h M (by simp[bD])]
    | mo M=>simp only[iU,ih,h M (by simp[bD])]
    | _=>simp only[iU,ih]
theorem zdZ{sf:lu}{ob ob':Nat->Option AO}{d:DV}(h:∀L∈bK ob d,ob' L=ob L):Ah sf ob' d=Ah sf ob d/\∀y,II ob' d y=II ob d y:=by
 have hx:sU ob' d=sU ob d:=by simp only[sU,La h]
 by_cases hd:∃L,d=.one (.c (.ptr L 0))
 ·obtain⟨L,rfl⟩:=hd;have hL:ob' L=ob L:=h L (mY.2 ⟨L,by simp[df,dE,bD],.inl rfl⟩);refine⟨?_,λy=>by simp only[II,hL]⟩;rw[o7,o7,hL,hx];cases ho:ob L with
  | none=>rfl
  | some o =>
   cases o with
   | box ty cells =>
    have:iU sf ob' cells=iU sf ob cells:=HY λM hM=>h M (mY.2 ⟨L,by simp[df,dE,bD],.inr ⟨_,ho,M,hM,.inl rfl⟩⟩);simp only[this]
   | _=>rfl
 ·refine ⟨?_, fun y => ?_⟩
  ·unfold Ah;split
   ·exact(hd ⟨_,rfl⟩).elim
   ·exact hx
  ·unfold II;split
   ·exact(hd ⟨_,rfl⟩).elim
   ·rfl
theorem Lh{sf:lu}{ob ob':Nat→Option AO}:∀{ds:List DV},(∀L∈ds.flatMap (bK ob),ob' L=ob L)→jZ sf ob' ds=jZ sf ob ds∧∀ys,jR ob' ds ys=jR ob ds ys
  | [],_=>⟨rfl,λys=>by cases ys<;>rfl⟩
  | d::ds,h=>by
    obtain⟨i1,i2⟩:=Lh (sf:=sf) (ds:=ds) (ob':=ob') λL hL=>h L (by simp only[oK,dU];exact .inr hL);obtain⟨j1,j2⟩:=zdZ (sf:=sf) (ob':=ob') (d:=d) λL hL=>h L (by simp only[oK,dU];exact .inl hL);refine⟨by simp only[jZ,i1,j1],λys=>?_⟩;cases ys with
    | nil=>rfl
    | cons y ys=>simp only[jR,i2,j2]
theorem zhM{sf:lu}{C:MK}{ds:List DV}(hk:∀ev' ob',(∀x∈o.op.operands.toList,ev' x=ev x)->act P Γ o ev' ob'=uo C sf ds ob')(hA:uo C sf ds ob=A)(hs:A.safe):cZ P Γ o ev ob A:=by
 unfold uo at hA;split at hA
 ·rename_i xs ls ms has;split at hA
  ·rename_i s rs ys hCx;split at hA
   rotate_left
   ·subst hA;exact hs.elim
   rename_i hpm;unfold qB at hA;split at hA
   ·rename_i u OV;split at hA
    ·rename_i dC;subst hA;have zwz:=dC;simp only[gG,Uz] at dC;obtain⟨h1,h2⟩:=zbX OV has;have hw:∀ L∈(u.filter λ x=>!lC x.2).map (·.1),(L,true)∈wr ((u.filter λ x=>!lC x.2).map (·.1)) ++ rd (ds.flatMap (bK ob)):=λ L hL=>dU.2 (.inl (Le hL));have hul:∀ x∈u.filter λ x=>!lC x.2,x.1∈(u.filter λ x=>!lC x.2).map (·.1):=λ x hx=>xR.2 ⟨x,hx,rfl⟩;refine⟨λ x hx=>hw _ (hul x hx),?_,λ x hx L hL=>?_,λ d hd L hL=>(by simp only[aC.gives] at hd;subst hd;rw[ZK] at hL;simp at hL),λ ev' ob' he dh=>?_⟩
     ·match ms,dC.1.2,dC.2 with
      | [],_,_=>exact .inl rfl
      | [x],_,hc=>exact .inr ⟨x,rfl,hw x (by simpa using hc)⟩
      | _::_::_,h,_=>simp at h
     ·obtain⟨o',ho,hL⟩:=h2 x (UL.1 hx).1 L hL;exact .inr ⟨(x.1,true),hw _ (hul x hx),o',ho,hL⟩
     ·have hl:∀L∈ds.flatMap (bK ob),ob' L=ob L:=fun L hL=>dh (L,false) (dU.2 (.inr (xR.2 ⟨L,hL,rfl⟩)));have e1:=Lh (sf:=sf) hl;have e2:ds.flatMap (bK ob')=ds.flatMap (bK ob):=fmc λd hd=>jr λL hL=>hl L (lK.2 ⟨d,hd,hL⟩);rw[hk ev' ob' he];simp only[uo,qB,e1.1,has,hCx,hpm,e1.2,OV,zwz,e2]
    ·subst hA;exact hs.elim
   ·subst hA;exact hs.elim
  ·subst hA;exact hs.elim
 ·subst hA;exact hs.elim
theorem H5{ev':Operand→DV}:∀{l:List Operand},(∀x∈l,ev' x=ev x)→CE ev' l=CE ev l
  | [],_=>rfl
  | x::l,h=>by simp only[CE,h x lq,H5 λy hy=>h y (jU _ hy)]
theorem zbY{rs:List PA}{args:Array Operand}{c:Callee}{ts:Array TypeId}{az:List PA}{u:mF}(bu:o.op = .call {callee:=c,args,argTypes:=ts})
    (has:iD ob (args.toList.map ev)=some (az,u))
    (key:∀(ev':Operand->DV)(ob':Nat->Option AO),(∀x∈o.op.operands.toList,ev' x=ev x)->(∀L∈args.toList.flatMap λx=>bK ob (ev x),ob' L=ob L) ->
      act P Γ o ev' ob'=lH (args.toList.flatMap λx=>bK ob (ev x)) u rs) (hA:lH (args.toList.flatMap λx=>bK ob (ev x)) u rs=A):cZ P Γ o ev ob A:=by
  have zBI:∀L,L∈(args.toList.flatMap λx=>bK ob (ev x))->(L,true)∈wr (args.toList.flatMap λx=>bK ob (ev x)):=λL hL=>xR.2 ⟨L,hL,rfl⟩;have zEU:∀L,L∈(args.toList.flatMap λx=>bK ob (ev x))->(L,false)∈rd (args.toList.flatMap λx=>bK ob (ev x)):=λL hL=>xR.2 ⟨L,hL,rfl⟩;have hk:∀x∈u,(x.1,true)∈wr (args.toList.flatMap λx=>bK ob (ev x))/\pK x.2=[]:=λx hx=>by
    obtain⟨h1,h2⟩:=Bo has x hx;refine⟨zBI _ ?_,h2⟩;rw[qjs]at h1;exact h1
  generalize (args.toList.flatMap λx=>bK ob (ev x))=jh at hA key hk zBI zEU;cases hl:UY rs||UZ u rs with
  | true =>
    simp only[lH,hl]at hA key;subst hA;exact⟨λx hx=>by simp[aC.u]at hx,.inl rfl,λx hx=>by simp[aC.u]at hx,λd hd L hL=>(by cases hd;rw[ZK]at hL;simp at hL),λev' ob' he dh=>key ev' ob' he λL hL=>dh _ (zEU L hL)⟩
  | false =>
    simp only[lH,hl]at hA key;subst hA;exact⟨λx hx=>(hk x hx).1,.inl rfl,λx hx L hL=>(by rw[(hk x hx).2]at hL;simp at hL),λd hd L hL=>(by cases hd;rw[ZK]at hL;simp at hL),λev' ob' he dh=>key ev' ob' he λL hL=>dh _ (zBI L hL)⟩
theorem znD{f:Operand}{args:Array Operand}{ts:Array TypeId}(bu:o.op=.call {callee:=.value f,args,argTypes:=ts})(hA:act P Γ o ev ob=A)(hs:A.safe):cZ P Γ o ev ob A:=by
 have hm:=yV bu;have hf:f∈o.op.operands.toList:=by simp[bu,Op.operands,Call.operands]
 simp only[act,aCl,bu]at hA;have e0:∀ev':Operand->DV,(∀x∈o.op.operands.toList,ev' x=ev x)->args.toList.map ev'=args.toList.map ev:=λev' he=>qdg λx hx=>he x (hm x hx);split at hA
 ·rename_i gf caps hef;split at hA
  ·rename_i C hC;exact zhM (λev' ob' he=>by simp only[act,aCl,bu,he f hf,hef,hC,e0 ev' he]) hA hs
  ·subst hA;exact hs.elim
 ·rename_i gf first caps hef
  split at hA
  ·rename_i C hC;exact zhM (λev' ob' he=>by simp only[act,aCl,bu,he f hf,hef,hC,e0 ev' he]) hA hs
  rename_i hC;split at hA
  ·rename_i hk;split at hA
   ·exact zwx (k:=Γ.own gf) bu (λev' ob' he=>by simp only[act,aCl,bu,he f hf,hef,hC,hk]) hA hs
   ·subst hA;exact hs.elim
  rename_i hko;split at hA
  ·rename_i az u has;split at hA
   case h_2=>subst hA;exact hs.elim
   rename_i rs hrs
   have key:∀(ev':Operand->DV)(ob':Nat->Option AO),(∀x∈o.op.operands.toList,ev' x=ev x)->(∀L∈args.toList.flatMap λx=>bK ob (ev x),ob' L=ob L) ->
     act P Γ o ev' ob'=lH (args.toList.flatMap λx=>bK ob (ev x)) u rs:=by
    intro ev' ob' he hl;have e0:args.toList.map ev'=args.toList.map ev:=qdg λx hx=>he x (hm x hx);have e1:iD ob' (args.toList.map ev)=iD ob (args.toList.map ev):=lY λL hL=>hl L (by rw[qjs]at hL;exact hL);have e2:(args.toList.flatMap λx=>bK ob' (ev' x))=args.toList.flatMap λx=>bK ob (ev x):=by
     refine fmc λx hx=>?_;rw[he x (hm x hx)];exact jr λL hL=>hl L (lK.2 ⟨x,hx,hL⟩)
    simp only[act,aCl,bu,he f hf,hef,hC,hko,e0,e1,has,e2,hrs]
   exact zbY bu has key hA
  ·subst hA;exact hs.elim
 ·rename_i gf cells hef;split at hA
  ·rename_i az u has;split at hA
   case h_2=>subst hA;exact hs.elim
   rename_i rs hrs
   have key:∀(ev':Operand->DV)(ob':Nat->Option AO),(∀x∈o.op.operands.toList,ev' x=ev x)->(∀L∈args.toList.flatMap λx=>bK ob (ev x),ob' L=ob L) ->
     act P Γ o ev' ob'=lH (args.toList.flatMap λx=>bK ob (ev x)) u rs:=by
    intro ev' ob' he hl;have e0:args.toList.map ev'=args.toList.map ev:=qdg λx hx=>he x (hm x hx);have e1:iD ob' (args.toList.map ev)=iD ob (args.toList.map ev):=lY λL hL=>hl L (by rw[qjs]at hL;exact hL);have e2:(args.toList.flatMap λx=>bK ob' (ev' x))=args.toList.flatMap λx=>bK ob (ev x):=by
     refine fmc λx hx=>?_;rw[he x (hm x hx)];exact jr λL hL=>hl L (lK.2 ⟨x,hx,hL⟩)
    simp only[act,aCl,bu,he f hf,hef,e0,e1,has,e2,hrs]
   exact zbY bu has key hA
  ·subst hA;exact hs.elim
 ·subst hA;exact hs.elim
theorem VX{f:FuncId}{first caps:Array Operand}(bu:o.op=.makeFunc (.func f) first caps)(hA:act P Γ o ev ob=A)(hs:A.safe):cZ P Γ o ev ob A:=by
 have hm:∀x∈first.toList++caps.toList,x∈o.op.operands.toList:=λx hx=>by simp only[bu,Op.operands];simpa using hx
 simp only[act,aMf,bu]at hA;split at hA
 ·rename_i hmt;split at hA
  ·rename_i cs hf hc;subst hA;refine cZ.pure (λL hL=>by simp[lW,um,nI]at hL) λev' ob' he _=>?_;have e1:CE ev' caps.toList=some cs:=(H5 λx hx=>he x (hm x (dU.2 (.inr hx)))).trans hc;simp only[act,aMf,bu,hmt,hf,e1]
  ·subst hA;exact hs.elim
 rename_i hmt;have hbc:∀ev':Operand->DV,(∀x∈o.op.operands.toList,ev' x=ev x)->Pq ev' first.toList caps.toList=Pq ev first.toList caps.toList:=λev' he=>by
  unfold Pq;cases hf:first.toList with
  | nil=>rfl
  | cons x r =>
   cases r with
   | cons y r=>rfl
   | nil =>
    cases hc:caps.toList with
    | cons y r=>rfl
    | nil=>simp only[];rw[he x (hm x (by rw[hf];simp))]
 split at hA
 ·rename_i l hb;subst hA;exact cZ.pure (iW _) λev' ob' he _=>by simp only[act,aMf,bu,hmt,hbc ev' he,hb]
 rename_i hbn;split at hA
 ·rename_i l u l' u' h1 h2;subst hA;have zEV:∀(x:Operand)(c:Cl),ev x=.one (.c c)->∀k,RC ob k (bD c)->k∈bK ob (ev x):=λx c h k hk=>by
   rw[h];exact mY.2 hk
  have clm:∀(xs:List Operand),∀L∈(xs.flatMap λx=>match ev x with | .one (.c c)=>[c]|_=>[.junk]).flatMap bD,∃x∈xs,∃c,ev x=.one (.c c)/\L∈bD c:=by
   intro xs L hL;obtain⟨c,hc,hL⟩:=lK.1 hL;obtain⟨x,hx,hc⟩:=lK.1 hc;refine⟨x,hx,?_⟩;split at hc
   ·rename_i c' h;simp at hc;subst hc;exact⟨_,h,hL⟩
   ·simp at hc;subst hc;simp[bD]at hL
  have keys:∀(xs:List Operand)(l:List PV)(u:mF),ul ob (xs.flatMap λx=>match ev x with | .one (.c c)=>[c]|_=>[.junk])=some (l,u) ->
    ∀x∈u,x.1∈xs.flatMap (λx=>bK ob (ev x))/\pK x.2=[]:=by
   intro xs l u h y hy;obtain⟨h3,h4⟩:=zJ h y hy;refine⟨?_,h4⟩;obtain⟨L,hL,h3⟩:=h3;obtain⟨x,hx,c,hc,hL⟩:=clm xs _ hL;exact lK.2 ⟨x,hx,zEV x c hc _ ⟨L,hL,h3⟩⟩
  have zEW:∀(xs:List Operand)(ev':Operand->DV)(ob':Nat->Option AO),(∀x∈xs,ev' x=ev x)->(∀L∈xs.flatMap (λx=>bK ob (ev x)),ob' L=ob L) ->
    ul ob' (xs.flatMap λx=>match ev' x with | .one (.c c)=>[c]|_=>[.junk])=ul ob (xs.flatMap λx=>match ev x with | .one (.c c)=>[c]|_=>[.junk]):=by
   intro xs ev' ob' he dh;have e0:(xs.flatMap λx=>match ev' x with | .one (.c c)=>[c]|_=>[.junk])=xs.flatMap λx=>match ev x with | .one (.c c)=>[c]|_=>[.junk] :=
    fmc λx hx=>by rw[he x hx]
   rw[e0];refine Bj λL hL=>?_;obtain⟨x,hx,c,hc,hL⟩:=clm xs _ hL;have hd:∀k,RC ob k (bD c)->ob' k=ob k:=λk hk=>dh k (lK.2 ⟨x,hx,zEV x c hc _ hk⟩);exact⟨hd L ⟨L,hL,.inl rfl⟩,λo' kQ M hM=>⟨hd M ⟨L,hL,.inr ⟨o',kQ,M,hM,.inl rfl⟩⟩,λo2 nV N hN=>hd N ⟨L,hL,.inr ⟨o',kQ,M,hM,.inr ⟨o2,nV,hN⟩⟩⟩⟩⟩
  refine⟨λx hx=>?_,.inl rfl,λx hx L hL=>?_,λd' gu L hL=>?_,λev' ob' he dh=>?_⟩
  ·simp only [aC.u] at hx;refine Le ?_;rw[qd5];rcases dU.1 hx with hx | hx
   ·exact dU.2 (.inl (keys _ _ _ h1 x hx).1)
   ·exact dU.2 (.inr (keys _ _ _ h2 x hx).1)
  ·simp only [aC.u] at hx;rcases dU.1 hx with hx | hx
   ·rw[(keys _ _ _ h1 x hx).2]at hL;simp at hL
   ·rw[(keys _ _ _ h2 x hx).2]at hL;simp at hL
  ·simp only[aC.gives]at gu;subst gu;simp[lW,um,nI]at hL
  ·have hl:∀L∈(first.toList++caps.toList).flatMap fun x=>bK ob (ev x),ob' L=ob L:=fun L hL=>dh (L,true) (Le hL);have e1:=zEW first.toList ev' ob' (λx hx=>he x (hm x (dU.2 (.inl hx)))) (λL hL=>hl L (by rw[qd5];exact dU.2 (.inl hL)));have e2:=zEW caps.toList ev' ob' (λx hx=>he x (hm x (dU.2 (.inr hx)))) (λL hL=>hl L (by rw[qd5];exact dU.2 (.inr hL)));have e3:((first.toList++caps.toList).flatMap λx=>bK ob' (ev' x))=(first.toList++caps.toList).flatMap λx=>bK ob (ev x):=by
    refine fmc λx hx=>?_;rw[he x (hm x hx)];exact jr λL hL=>hl L (lK.2 ⟨x,hx,hL⟩)
   simp only[act,aMf,bu,hmt,e3,hbc ev' he,hbn];split
   ·rename_i l2 u2 l3 u3 h3 h4;have a1:some (l2,u2)=some (l,u):=h3.symm.trans (e1.trans h1);have a2:some (l3,u3)=some (l',u'):=h4.symm.trans (e2.trans h2);simp only[bW,gy]at a1 a2;obtain⟨rfl,rfl⟩:=a1;obtain⟨rfl,rfl⟩:=a2;rfl
   ·rename_i ww;exact(ww l u l' u' (e1.trans h1) (e2.trans h2)).elim
 ·subst hA;exact hs.elim
theorem RY{t:TypeId}{x y:Operand}(bu:o.op=.makeSlice t x y)(hA:act P Γ o ev ob=A)(hs:A.safe):cZ P Γ o ev ob A:=by
 have hx:x∈o.op.operands.toList:=by simp[bu,Op.operands]
 have hy:y∈o.op.operands.toList:=by simp[bu,Op.operands]
 have hc0:∀ev' ob',(∀x∈o.op.operands.toList,ev' x=ev x)->act P Γ o ev' ob'=tH P Γ t (ev x) (ev y) o.dst ob':=λev' ob' he=>by simp only[act,bu,he x hx,he y hy]
 have hA0:=hA;rw[hc0 ev ob (λ_ _=>rfl)]at hA;unfold tH at hA;split at hA
 ·rename_i e k1 j k2 j2 dst hu hex YS GL;split at hA
  ·rename_i ie z hi hz ig;have fin:∀(s:CP)(ao:AO),pK ao=[]->aC.chk [(dst,true)] s (.cl (.vec dst)) [(dst,ao)] []=A->(∀ob':Nat->Option AO,ob' dst=none->tH P Γ t (ev x) (ev y) o.dst ob'=A)->cZ P Γ o ev ob A:=by
    intro s ao hao e hcc;subst e;refine⟨λz hz=>?_,.inl rfl,λz hz M hM=>?_,λd' gu M hM=>?_,λev' ob' he dh=>?_⟩
    ·simp only[aC.u,mg]at hz;subst hz;simp[aC.fp]
    ·simp only[aC.u,mg]at hz;subst hz;rw[hao]at hM;simp at hM
    ·simp only [aC.gives]at gu;subst gu;simp only[lW,um,nI,mg]at hM;subst hM;exact .inr (by simp[aC.fp])
    ·have e2:=dh (dst,true) (by simp [aC.fp]);simp only at e2;rw[hc0 ev' ob' he];exact hcc ob' (e2.trans ig)
   have hcc:∀ob':Nat->Option AO,ob' dst=none->tH P Γ t (ev x) (ev y) o.dst ob'=A:=λob' h=>by
    have:act P Γ o ev ob=A:=hA0;rw[hc0 ev ob (λ_ _=>rfl)]at this;rw[<- this];unfold tH;simp only[hu,hex,YS,GL,hi,hz,ig,h]
   split at hA
   ·split at hA
    ·split at hA
     ·split at hA
      ·exact fin _ _ rfl hA hcc
      ·subst hA;exact hs.elim
     ·subst hA;exact hs.elim
    ·subst hA;exact hs.elim
   ·split at hA
    ·split at hA
     ·exact fin _ _ rfl hA hcc
     ·subst hA;exact hs.elim
    ·subst hA;exact hs.elim
  ·subst hA;exact hs.elim
 ·subst hA;exact hs.elim
theorem zEX(hA:act P Γ o ev ob=A)(hs:A.safe):cZ P Γ o ev ob A:=by
 have sZ:=hA;cases bu:o.op with
 | move x=>simp only[act,bu]at hA;subst hA;exact zbV (.inl bu)
 | assign x=>simp only[act,bu]at hA;subst hA;exact zbV (.inr bu)
 | pick c x y =>
  simp only[act,aPk,bu]at hA;split at hA
  ·rename_i t hc;subst hA;exact znz bu hc
  ·subst hA;exact hs.elim
 | alloc e =>
  simp only[act,aAl,bu]at hA;split at hA
  ·rename_i z hz;refine RN (ao:=.box e z) (d:=λt=>.cl (.ptr t 0)) (λL hL=>?_) (λt L hL=>by simp[lW,um,nI]at hL) (λev' ob' _=>by simp only[act,aAl,bu,hz]) hA hs;simp only[pK]at hL;rw[zbW hz]at hL;simp at hL
  ·subst hA;exact hs.elim
 | box e x =>
  have hx:x∈o.op.operands.toList:=by simp[bu,Op.operands]
  simp only[act,aBx,bu]at hA;split at hA
  ·rename_i d m hex hm;split at hA
   ·rename_i dC;refine RN (ao:=.box e d.cells) (d:=λt=>.cl (.ptr t 0)) (λL hL=>?_) (λt L hL=>by simp[lW,um,nI]at hL) (λev' ob' he=>by simp only[act,aBx,bu,he x hx,hex,hm,dC]) hA hs;simp only[pK]at hL;rw[RP]at hL;exact .inl ⟨x,hx,by rw[hex];exact hL⟩
   ·subst hA;exact hs.elim
  ·subst hA;exact hs.elim
 | build t parts =>
  simp only[act,aBd,bu]at hA;split at hA
  ·rename_i z hf hz;split at hA
   ·rename_i l hl;subst hA;exact zhG bu hf hz hl
   ·subst hA;exact hs.elim
  ·subst hA;exact hs.elim
 | buildSlice t m parts=>exact Oz bu sZ hs
 | load t x=>exact znA bu sZ hs
 | store t x y=>exact zhH bu sZ hs
 | nilCheck x=>exact VW bu sZ hs
 | binOp op t x y t'=>exact zhJ bu sZ hs
 | unOp op t x=>exact znC bu sZ hs
 | convert t1 t2 x=>exact ZI bu sZ hs
 | fieldAddr t x f=>exact RU bu sZ hs
 | indexAddr t x y=>exact RV bu sZ hs
 | extract x k=>exact ZJ bu sZ hs
 | index t x y=>exact zhK bu sZ hs
 | field t x f=>exact zhL bu sZ hs
 | slice t x lo hi mx =>
  cases mx with
  | none=>exact ok_slice bu sZ hs
  | some m=>simp only[act,bu]at hA;subst hA;exact hs.elim
 | lookup t x y k=>exact zdX bu sZ hs
 | mapUpdate t x y z=>exact RQ bu sZ hs
 | makeMap t x =>
  cases x with
  | none=>exact ZH bu sZ hs
  | some x=>simp only[act,bu]at hA;subst hA;exact hs.elim
 | makeSlice t x y=>exact RY bu sZ hs
 | makeFunc fn first caps =>
  cases fn with
  | func f=>exact VX bu sZ hs
  | _=>simp only[act,bu]at hA;subst hA;exact hs.elim
 | call c =>
  obtain⟨callee,args,ts⟩:=c;cases callee with
  | value f=>exact znD bu sZ hs
  | invoke x m=>simp only[act,bu]at hA;subst hA;exact hs.elim
  | builtin b =>
   cases b with
   | len=>exact zww bu sZ hs
   | max=>exact ztB (.inl rfl) bu sZ hs
   | min=>exact ztB (.inr rfl) bu sZ hs
   | append=>exact zdY bu sZ hs
   | _=>simp only[act,bu]at hA;subst hA;exact hs.elim
 | _=>simp only[act,bu]at hA;subst hA;exact hs.elim
end
end Go.Pm
namespace Go.Pm
variable [aJ]
structure Bq (σ τ : St) : Prop where
  env:∀t,lk σ.env t=lk τ.env t
  aB:∀L,lk σ.aB L=lk τ.aB L
  log:∀x,x∈σ.log↔x∈τ.log
theorem Bq.refl(σ:St):Bq σ σ:=⟨λ_=>rfl,λ_=>rfl,λ_=>UX⟩
theorem Bq.symm{σ τ:St}(h:Bq σ τ):Bq τ σ:=⟨λt=>(h.env t).symm,λt=>(h.aB t).symm,λx=>(h.log x).symm⟩
theorem FP{e e':List (Nat×DV)}{x:Operand}(h:∀t∈Zd x,lk e t=lk e' t):fU e x=fU e' x:=by
 cases x with
 | tmp t=>simp only[fU];rw[h t (by simp[Zd])]
 | _=>rfl
theorem FQ(x:Cl):gq [] x=x:=by cases x<;>rfl
theorem Lj(x:D1):fV [] x=x:=by
 cases x with
 | c x=>simp[fV,FQ]
 | agg cs=>simp only[fV];rw[show gq []=id from funext FQ,qjR]
theorem zd0(x:DV):gI [] x=x:=by
 cases x with
 | one x=>simp[gI,Lj]
 | tup cs=>simp only[gI];rw[show fV []=id from funext Lj,qjR]
theorem zd1(x:AO):fD [] x=x:=by
 cases x with
 | box ty cs=>simp only[fD];rw[show gq []=id from funext FQ,qjR]
 | _=>rfl
theorem Ll{l:List Nat}{x:Cl}(h:∀L∈nI x,L∉l):gq l x=x:=by
 cases x with
 | vec L =>
  have h1:l.contains L=false:=by simpa using h L (by simp[nI])
  simp only[gq,h1]
 | vptr L s i k =>
  have h1:l.contains L=false:=by simpa using h L (by simp[nI])
  simp only[gq,h1]
 | mo L =>
  have h1:l.contains L=false:=by simpa using h L (by simp[nI])
  simp only[gq,h1]
 | _=>rfl
theorem zK{α:Type}{f:α→α}:∀{l:List α},(∀x∈l,f x=x)→l.map f=l
  | [],_=>rfl
  | x::l,h=>by rw[oU,h x lq,zK λy hy=>h y (jU _ hy)]
theorem Qi{l:List Nat}{x:D1}(h:∀L∈um x,L∉l):fV l x=x:=by
 cases x with
 | c x=>simp only[fV];rw[Ll h]
 | agg cs=>simp only[fV];rw[zK λx hx=>Ll λL hL=>h L (lK.2 ⟨x,hx,hL⟩)]
theorem Lm{l:List Nat}{x:DV}(h:∀L∈lW x,L∉l):gI l x=x:=by
 cases x with
 | one x=>simp only[gI];rw[Qi h]
 | tup cs=>simp only[gI];rw[zK λx hx=>Qi λL hL=>h L (lK.2 ⟨x,hx,hL⟩)]
theorem Lp{l:List Nat}{x:AO}(h:∀L∈pK x,L∉l):fD l x=x:=by
 cases x with
 | box ty cs=>simp only[fD];rw[zK λx hx=>Ll λL hL=>h L (lK.2 ⟨x,hx,hL⟩)]
 | _=>rfl
theorem RZ{l:List Nat}{x:Cl}:nI (gq l x)=nI x:=by
 cases x with
 | vec L=>simp only[gq];split<;>rfl
 | vptr L s i k=>simp only[gq];split<;>rfl
 | mo L=>simp only[gq];split<;>rfl
 | _=>rfl
theorem VY{l:List Nat}{x:D1}:um (fV l x)=um x:=by
 cases x with
 | c x=>exact RZ
 | agg cs=>simp only[fV,um,qjs];exact fmc λx _=>RZ
theorem znE{l:List Nat}{x:DV}:lW (gI l x)=lW x:=by
 cases x with
 | one x=>exact VY
 | tup cs=>simp only[gI,lW,qjs];exact fmc λx _=>VY
theorem Si{l:List Nat}{x:AO}:pK (fD l x)=pK x:=by
 cases x with
 | box ty cs=>simp only[fD,pK,qjs];exact fmc λx _=>RZ
 | _=>rfl
theorem Bv{l m:List Nat}(x:Cl):gq l (gq m x)=gq m (gq l x):=by
 cases x with
 | vec L=>simp only[gq];cases hl:l.contains L<;>cases hm:m.contains L<;>simp only[hl,hm]
 | vptr L s i k=>simp only[gq];cases hl:l.contains L<;>cases hm:m.contains L<;>simp only[hl,hm]
 | mo L=>simp only[gq];cases hl:l.contains L<;>cases hm:m.contains L<;>simp only[hl,hm]
 | _=>rfl
theorem H6{l m:List Nat}(x:D1):fV l (fV m x)=fV m (fV l x):=by
 cases x with
 | c x=>simp only[fV];rw[Bv]
 | agg cs=>simp only[fV,qdW];rw[show gq l∘gq m=gq m∘gq l from funext Bv]
theorem ZL{l m:List Nat}(x:DV):gI l (gI m x)=gI m (gI l x):=by
 cases x with
 | one x=>simp only[gI];rw[H6]
 | tup cs=>simp only[gI,qdW];rw[show fV l∘fV m=fV m∘fV l from funext H6]
theorem ZM{l m:List Nat}(x:AO):fD l (fD m x)=fD m (fD l x):=by
 cases x with
 | box ty cs=>simp only[fD,qdW];rw[show gq l∘gq m=gq m∘gq l from funext Bv]
 | _=>rfl
theorem zbZ{α:Type}{f:α→α}:∀{l:List (Nat×α)}{t:Nat},lk (kills f l) t=(lk l t).map f
  | [],_=>rfl
  | (k,a)::r,t=>by
    simp only[kills];rw[aZ,aZ];split
    · rfl
    · exact zbZ
theorem znF{σ:St}{i:Nat}{dst:Option Nat}{fp:List (Nat×Bool)}{d:DV}{u:List (Nat×AO)}{kl:List Nat}(t:Nat) :
  lk (σ.upd i dst fp d u kl).env t=if dst=some t then some d else(lk σ.env t).map (gI kl):=by
 cases kl with
 | nil =>
  have e:(lk σ.env t).map (gI [])=lk σ.env t:=by cases lk σ.env t<;>simp[zd0]
  rw[e];cases dst with
  | none=>rfl
  | some s=>simp only[St.upd,aZ,bW]
 | cons K r =>
  cases dst with
  | none=>simp only[St.upd,zbZ];rw[fB (by simp)]
  | some s=>simp only[St.upd,aZ,zbZ,bW]
theorem zhN{σ:St}{i:Nat}{dst:Option Nat}{fp:List (Nat×Bool)}{d:DV}{u:List (Nat×AO)}{kl:List Nat}(L:Nat) :
  lk (σ.upd i dst fp d u kl).aB L=match lk u L with|some o=>some o|none=>(lk σ.aB L).map (fD kl):=by
 cases kl with
 | nil =>
  have e:(lk σ.aB L).map (fD [])=lk σ.aB L:=by cases lk σ.aB L<;>simp[zd1]
  rw[e];change lk (u++σ.aB) L=_;rw[gX];cases lk u L<;>rfl
 | cons K r =>
  simp only[St.upd,gX,zbZ];cases lk u L<;>rfl
theorem znG{σ:St}{i:Nat}{dst:Option Nat}{fp:List (Nat×Bool)}{d:DV}{u:List (Nat×AO)}{kl:List Nat}:(σ.upd i dst fp d u kl).log=σ.log:=by
 cases kl<;>rfl
abbrev aC.may:aC->DV->Prop:=aC.gives
theorem aC.may_gives{A:aC}{d:DV}(h:A.may d):A.gives d:=h
theorem aC.may_of_safe{A:aC}(h:A.safe):∃d,A.may d:=by
 cases A with
 | no=>exact h.elim
 | val fp d u kl=>exact⟨d,rfl⟩
 | chk fp s d u kl=>exact⟨d,rfl⟩
def nx(A:aC)(lg:List (Nat×Bool)->List Nat->List (Nat×Nat×Nat))(i:Nat)(dst:Option Nat)(σ:St)(d:DV):St :=
 (σ.upd i dst A.fp d A.u A.kl).relog (lg A.fp A.kl)
theorem lZ{A:aC}{lg:List (Nat×Bool)→List Nat→List (Nat×Nat×Nat)}{i:Nat}{dst:Option Nat}{K:St→Prop}{σ:St} :
  nN A lg i dst K σ↔A.safe/\∀d,A.may d->K (nx A lg i dst σ d):=by
 cases A with
 | no=>simp[nN,aC.safe]
 | val fp d u kl=>simp[nN,aC.safe,aC.may,aC.gives,nx,aC.fp,aC.u,aC.kl]
 | chk fp s d u kl=>simp[nN,aC.safe,aC.may,aC.gives,nx,aC.fp,aC.u,aC.kl]
section
variable(P:Program)(Γ:bU)(nt:Nat)(ops:Array Oper)
def nR(env:List (Nat×DV))(o:Oper):Option Bool :=
 match o.guard with
 | none=>some true
 | some (j,want) =>
  match(ops[j]?).bind (·.dst)with
  | none=>none
  | some g =>
   match lk env g with
   | some (.one (.c (.p (.bool b))))=>some (b==want)
   | some (.one (.c .undef))=>some false
   | _=>none
def vG(σ:St)(o:Oper):aC :=
 match dJ nt o.dst,nR ops σ.env o with
 | true,some true=>act P Γ o (fU σ.env) (lk σ.aB)
 | true,some false=>.val [] (.cl .undef) [] []
 | _,_=>.no
def rq(σ:St)(i:Nat)(o:Oper)(fp:List (Nat×Bool))(kl:List Nat):List (Nat×Nat×Nat) :=
 match nR ops σ.env o with
 | some true=>oV σ i o fp kl
 | _=>[]
def xZ:List Nat→(St→Prop)→St→Prop
  | [],K,σ=>K σ
  | i::r,K,σ=>match ops[i]? with
    | none=>xZ r K σ
    | some o=>nN (vG P Γ nt ops σ o) (rq ops σ i o) i o.dst (xZ r K) σ
def looks(σ:St)(o:Oper):List Nat :=
 match nR ops σ.env o with
 | some true=>uu ops o
 | _=>gdT ops o
end
section
variable{P:Program}{Γ:bU}{nt:Nat}{ops:Array Oper}{σ τ:St}{o:Oper}{i:Nat}{A:aC}
theorem yX{L k:Nat}{r:List Nat}:k∈Oq σ (L::r)↔∃o,lk σ.aB k=some o/\L∈pK o:=by
 simp only[Oq,UL,xR];constructor
 ·rintro ⟨_, h⟩;split at h
  ·rename_i o ho;exact⟨o,ho,by simpa using h⟩
  ·cases h
 ·rintro⟨o,ho,hL⟩;refine⟨⟨(k,o),fM ho,rfl⟩,?_⟩;rw[ho];simpa using hL
theorem Qj:∀t∈looks ops σ o,t∈uu ops o:=by
 unfold looks;split
 ·exact λ_ h=>h
 ·exact λt h=>dU.2 (.inr h)
theorem Qk:∀t∈gdT ops o,t∈looks ops σ o:=by
 unfold looks;split
 ·exact λt h=>dU.2 (.inr h)
 ·exact λt h=>h
theorem tV{env env':List (Nat×DV)}(h:∀t∈gdT ops o,lk env' t=lk env t):nR ops env' o=nR ops env o:=by
 unfold nR;split
 ·rfl
 ·rename_i j want hg;split
  ·rfl
  ·rename_i g UU;rw[h g (by simp[gdT,hg,UU])]
theorem zb0{b:Bool}(h:nR ops σ.env o=some b):∀t∈gdT ops o,∀v,lk σ.env t=some v->lW v=[]:=by
 intro t ht v hv;unfold gdT at ht;split at ht
 ·rename_i j want hg;split at ht
  ·rename_i g UU;simp only[mg] at ht;subst ht;unfold nR at h;rw[hg] at h;simp only[UU] at h;rw[hv] at h;split at h
   ·rename_i e;simp only[bW]at e;subst e;rfl
   ·rename_i e;simp only[bW]at e;subst e;rfl
   ·cases h
  ·simp at ht
 ·simp at ht
structure Loc (P : Program) (Γ : bU) (nt : Nat) (ops : Array Oper) (σ : St) (i : Nat) (o : Oper) (A : aC) (lg : List (Nat × Nat × Nat)) : Prop where
  fst:∀x∈lg,x.1=i
  wr:∀x∈A.u,(i,x.1,1)∈lg
  kl:A.kl=[]\/∃L,A.kl=[L]
  kl3:∀L∈A.kl,(i,L,3)∈lg
  kl1:∀L∈A.kl,(i,L,1)∈lg
  kb:∀L∈A.kl,∀k o',lk σ.aB k=some o'->L∈pK o'->(i,k,1)∈lg
  labu:∀x∈A.u,∀L∈pK x.2,(i,L,2)∈lg
  labd:∀d,A.may d->∀L∈lW d,(i,L,2)∈lg\/(i,L,1)∈lg
  see:∀t∈looks ops σ o,∀v,lk σ.env t=some v->∀L∈lW v,(i,L,2)∈lg
  fpm:∀y∈A.fp,∀o',lk σ.aB y.1=some o'->∀L∈pK o',(i,L,2)∈lg
  fpt:∀y∈A.fp,(i,y.1,0)∈lg\/(i,y.1,1)∈lg
  wfp:∀x∈A.u,(x.1,true)∈A.fp
  congr:∀τ,(∀t∈looks ops σ o,lk τ.env t=lk σ.env t)->(∀y∈A.fp,lk τ.aB y.1=lk σ.aB y.1)->vG P Γ nt ops τ o=A
  logc:∀τ,(∀t∈looks ops σ o,lk τ.env t=lk σ.env t)->(∀y∈A.fp,lk τ.aB y.1=lk σ.aB y.1) ->
    (∀L∈A.kl,∀k,(∃o',lk τ.aB k=some o'/\L∈pK o')↔∃o',lk σ.aB k=some o'/\L∈pK o')->∀x,x∈rq ops τ i o A.fp A.kl↔x∈lg
theorem jG{fp:List (Nat×Bool)}{kl:List Nat}{x:Nat×Nat×Nat}:x∈oV σ i o fp kl ↔
    (∃y∈fp,x=(i,y.1,match y.2 with|true=>1|false=>0))\/(∃L∈JU σ o fp,x=(i,L,2))\/(∃L∈kl,x=(i,L,3))\/∃k∈Oq σ kl,x=(i,k,1):=by
  simp only[oV,dU,xR,or_assoc];constructor
  · rintro (⟨y, h1, h2⟩ | ⟨y, h1, h2⟩ | ⟨y, h1, h2⟩ | ⟨y, h1, h2⟩)
    · exact .inl ⟨y,h1,h2.symm⟩
    · exact .inr (.inl ⟨y,h1,h2.symm⟩)
    · exact .inr (.inr (.inl ⟨y,h1,h2.symm⟩))
    · exact .inr (.inr (.inr ⟨y,h1,h2.symm⟩))
  · rintro (⟨y, h1, h2⟩ | ⟨y, h1, h2⟩ | ⟨y, h1, h2⟩ | ⟨y, h1, h2⟩)
    · exact .inl ⟨y,h1,h2.symm⟩
    · exact .inr (.inl ⟨y,h1,h2.symm⟩)
    · exact .inr (.inr (.inl ⟨y,h1,h2.symm⟩))
    · exact .inr (.inr (.inr ⟨y,h1,h2.symm⟩))
theorem zd2{fp:List (Nat×Bool)}{L:Nat}(h:Men o (fU σ.env) (lk σ.aB) fp L):L∈JU σ o fp:=by
 unfold JU;rcases h with⟨x,hx,hL⟩|⟨y,hy,o',ho,hL⟩
 ·exact dU.2 (.inl (lK.2 ⟨x,hx,hL⟩))
 ·refine dU.2 (.inr (lK.2 ⟨y,hy,?_⟩));rw[ho];exact hL
theorem H7{fp:List (Nat×Bool)}(he:∀x∈o.op.operands.toList,fU τ.env x=fU σ.env x)(dh:∀y∈fp,lk τ.aB y.1=lk σ.aB y.1):JU τ o fp=JU σ o fp:=by
 unfold JU;rw[fmc (f:=λx=>lW (fU τ.env x)) (h:=λx=>lW (fU σ.env x)) λx hx=>by rw[he x hx]];congr 1;exact fmc λy hy=>by rw[dh y hy]
theorem VZ(hA:vG P Γ nt ops σ o=A)(hs:A.safe):Loc P Γ nt ops σ i o A (rq ops σ i o A.fp A.kl):=by
 have sZ:=hA;unfold vG at hA;split at hA
 ·rename_i hd hw;have K:=zEX hA hs;have hlg:∀ fp kl,rq ops σ i o fp kl=oV σ i o fp kl:=λ fp kl=>by unfold rq;rw[hw]
  have Un:looks ops σ o=uu ops o:=by unfold looks;rw[hw]
  have znH:∀L,Men o (fU σ.env) (lk σ.aB) A.fp L->(i,L,2)∈rq ops σ i o A.fp A.kl:=λL h=>by
   rw[hlg];exact jG.2 (.inr (.inl ⟨L,zd2 h,rfl⟩))
  have hfw:∀L,(L,true)∈A.fp->(i,L,1)∈rq ops σ i o A.fp A.kl:=λL h=>by
   rw[hlg];exact jG.2 (.inl ⟨_,h,rfl⟩)
  have bu:∀τ:St,(∀t∈looks ops σ o,lk τ.env t=lk σ.env t)->∀x∈o.op.operands.toList,fU τ.env x=fU σ.env x:=λτ h x hx =>
   FP λt ht=>h t (by rw[Un];exact dU.2 (.inl (lK.2 ⟨x,hx,ht⟩)))
  have hwt:∀τ:St,(∀t∈looks ops σ o,lk τ.env t=lk σ.env t)->nR ops τ.env o=some true:=λτ h=>by
   rw[tV (env:=σ.env) λt ht=>h t (Qk t ht),hw]
  refine⟨λx hx=>?_,λx hx=>hfw _ (K.wr x hx),?_,λL hL=>?_,λL hL=>?_,λL hL k o' hk QM=>?_,λx hx L hL=>znH L (K.labu x hx L hL),
   λd gu L hL=>(K.labd d (aC.may_gives gu) L hL).imp (znH L) (hfw L),λt ht v hv L hL=>?_,λy hy o' ho L hL=>znH L (.inr ⟨y,hy,o',ho,hL⟩),λy hy=>?_,K.wr,λτ he dh=>?_,λτ he dh hkb x=>?_⟩
  ·rw [hlg]at hx;rcases jG.1 hx with⟨_,_,h⟩|⟨_,_,h⟩|⟨_,_,h⟩|⟨_,_,h⟩<;>rw[h]
  ·exact K.kl.imp_right λ⟨L,h,_⟩=>⟨L,h⟩
  ·rw[hlg];exact jG.2 (.inr (.inr (.inl ⟨L,hL,rfl⟩)))
  ·rcases K.kl with h | ⟨M, h, h2⟩
   ·rw[h]at hL;simp at hL
   ·rw[h]at hL;simp at hL;subst hL;exact hfw _ h2
  ·rw [hlg];refine jG.2 (.inr (.inr (.inr ⟨k,?_,rfl⟩)));rcases K.kl with h | ⟨M,h,h2⟩
   ·rw[h]at hL;simp at hL
   ·rw[h]at hL ⊢;simp at hL;subst hL;exact yX.2 ⟨o',hk,QM⟩
  ·rw [Un] at ht;rcases dU.1 ht with ht | ht
   ·obtain⟨x,hx,ht⟩:=lK.1 ht;refine znH L (.inl ⟨x,hx,?_⟩);cases x with
    | tmp s=>simp only[Zd,mg]at ht;subst ht;simp only[fU,hv];exact hL
    | _=>simp[Zd]at ht
   ·rw[zb0 hw t ht v hv]at hL;simp at hL
  ·rw [hlg];obtain⟨L,b⟩:=y;cases b with
   | true=>exact .inr (jG.2 (.inl ⟨_,hy,rfl⟩))
   | false=>exact .inl (jG.2 (.inl ⟨_,hy,rfl⟩))
  ·unfold vG;rw[hd,hwt τ he];exact K.congr _ _ (bu τ he) dh
  ·have e1 : rq ops τ i o A.fp A.kl = oV τ i o A.fp A.kl := by unfold rq; rw [hwt τ he]
   rw[e1,hlg,jG,jG,H7 (bu τ he) dh];refine jql UX (jql UX (jql UX ?_));rcases K.kl with h|⟨M,h,h2⟩
   ·rw[h];simp[Oq]
   ·rw [h];have:∀ k,k∈Oq τ [M]↔k∈Oq σ [M]:=λ k=>by rw[yX,yX];exact hkb M (by rw[h];simp) k
    constructor
    ·rintro⟨k,h1,h2⟩;exact⟨k,(this k).1 h1,h2⟩
    ·rintro⟨k,h1,h2⟩;exact⟨k,(this k).2 h1,h2⟩
 ·rename_i hd hw;subst hA;have hlg:∀ fp kl,rq ops σ i o fp kl=[]:=λ fp kl=>by unfold rq;rw[hw]
  have Un:looks ops σ o=gdT ops o:=by unfold looks;rw[hw]
  have hwt:∀τ:St,(∀t∈looks ops σ o,lk τ.env t=lk σ.env t)->nR ops τ.env o=some false:=λτ h=>by
   rw[tV (env:=σ.env) λt ht=>h t (Qk t ht),hw]
  refine⟨λx hx=>?_,λx hx=>?_,.inl rfl,λL hL=>?_,λL hL=>?_,λL hL=>?_,λx hx=>?_,λd gu L hL=>?_,λt ht v hv L hL=>?_,λy hy=>?_,λy hy=>?_,λx hx=>?_,λτ he dh=>?_,λτ he dh hkb x=>?_⟩
  ·rw[hlg]at hx;simp at hx
  ·simp[aC.u]at hx
  ·simp[aC.kl]at hL
  ·simp[aC.kl]at hL
  ·simp[aC.kl]at hL
  ·simp[aC.u]at hx
  ·simp only[aC.gives]at gu;subst gu;simp[lW,um,nI]at hL
  ·rw[Un]at ht;rw[zb0 hw t ht v hv]at hL;simp at hL
  ·simp[aC.fp]at hy
  ·simp[aC.fp]at hy
  ·simp[aC.u]at hx
  ·unfold vG;rw[hd,hwt τ he]
  ·rw [hlg];have:rq ops τ i o (aC.val [] (.cl .undef) [] []).fp (aC.val [] (.cl .undef) [] []).kl=[]:=by unfold rq;rw[hwt τ he]
   rw[this]
 ·subst hA;exact hs.elim
theorem FT{lg:List (Nat×Bool)->List Nat->List (Nat×Nat×Nat)}{dst:Option Nat}{d:DV}(t:Nat):lk (nx A lg i dst σ d).env t=if dst=some t then some d else(lk σ.env t).map (gI A.kl):=znF t
theorem zL{lg:List (Nat×Bool)->List Nat->List (Nat×Nat×Nat)}{dst:Option Nat}{d:DV}(L:Nat):lk (nx A lg i dst σ d).aB L=match lk A.u L with|some o=>some o|none=>(lk σ.aB L).map (fD A.kl):=zhN L
theorem wP{lg:List (Nat×Bool)->List Nat->List (Nat×Nat×Nat)}{dst:Option Nat}{d:DV}:(nx A lg i dst σ d).log=lg A.fp A.kl++σ.log:=by simp only[nx,St.relog,znG]
theorem zhO(h:Bq σ τ)(o:Oper):vG P Γ nt ops τ o=vG P Γ nt ops σ o:=by
 unfold vG;rw[tV (env:=σ.env) λt _=>(h.env t).symm,show fU τ.env=fU σ.env from funext λx=>FP λt _=>(h.env t).symm,show lk τ.aB=lk σ.aB from funext λt=>(h.aB t).symm]
theorem znI(h:Bq σ τ){fp:List (Nat×Bool)}{kl:List Nat}(x:Nat×Nat×Nat):x∈rq ops σ i o fp kl↔x∈rq ops τ i o fp kl:=by
 unfold rq;rw[tV (env:=σ.env) (env':=τ.env) λt _=>(h.env t).symm];split
 ·rw [jG,jG,H7 (σ:=σ) (τ:=τ) (fun x _=>FP fun t _=>(h.env t).symm) (fun y _=>(h.aB y.1).symm)];refine jql UX (jql UX (jql UX ?_));cases kl with
  | nil=>simp[Oq]
  | cons L r =>
   have:∀k,k∈Oq σ (L::r)↔k∈Oq τ (L::r):=λk=>by rw[yX,yX,h.aB k]
   constructor
   ·rintro⟨k,h1,h2⟩;exact⟨k,(this k).1 h1,h2⟩
   ·rintro⟨k,h1,h2⟩;exact⟨k,(this k).2 h1,h2⟩
 ·exact UX
theorem Jk{K:St→Prop}(hK:∀σ τ,Bq σ τ→K σ→K τ):∀(l:List Nat)(σ τ:St),Bq σ τ→xZ P Γ nt ops l K σ→xZ P Γ nt ops l K τ
  | [],σ,τ,h,hv=>hK σ τ h hv
  | i::r,σ,τ,h,hv=>by
    simp only[xZ]at hv ⊢;split at hv
    · exact Jk hK r σ τ h hv
    · rename_i o ho;rw[lZ] at hv ⊢;rw[zhO h];refine⟨hv.1,λ d hd=>Jk hK r _ _ ⟨λ t=>?_,λ L=>?_,λ x=>?_⟩ (hv.2 d hd)⟩
      · rw[FT,FT,h.env]
      · rw[zL,zL,h.aB]
      · rw [wP,wP,dU,dU,h.log x];exact jql (znI h x) UX
theorem AP{K K':St->Prop}{l l':List Nat}{i:Nat}(hK:∀σ,xZ P Γ nt ops l K σ->xZ P Γ nt ops l' K' σ)(hv:xZ P Γ nt ops (i::l) K σ):xZ P Γ nt ops (i::l') K' σ:=by
 simp only[xZ]at hv ⊢;split at hv
 ·exact hK _ hv
 ·rw [lZ]at hv ⊢;exact⟨hv.1,λd hd=>hK _ (hv.2 d hd)⟩
theorem Sj{K:St→Prop}{R:List (Nat×Nat×Nat)→Prop}(hR:∀l m,(∀x∈l,x∈m)→R m→R l)(hK:∀σ,K σ→R σ.log):∀(l:List Nat)(σ:St),xZ P Γ nt ops l K σ→R σ.log
  | [],σ,hv=>hK σ hv
  | i::r,σ,hv=>by
    simp only[xZ]at hv;split at hv
    · exact Sj hR hK r σ hv
    · rw [lZ]at hv;obtain⟨d,hd⟩:=aC.may_of_safe hv.1;refine hR _ _ (λx hx=>?_) (Sj hR hK r _ (hv.2 d hd));rw[wP];exact dU.2 (.inr hx)
def Dq(log:List (Nat×Nat×Nat))(i j:Nat):Prop:=∀L k m,(i,L,k)∈log->(j,L,m)∈log->Ze k m=false
theorem Lr{l:List Nat}{x:Option DV}(h:∀v,x=some v->∀L∈lW v,L∉l):x.map (gI l)=x:=by
 cases x with
 | none=>rfl
 | some v=>simp only[QU];rw[Lm (h v rfl)]
theorem Ls{l:List Nat}{x:Option AO}(h:∀v,x=some v->∀L∈pK v,L∉l):x.map (fD l)=x:=by
 cases x with
 | none=>rfl
 | some v=>simp only[QU];rw[Lp (h v rfl)]
theorem zhP{a b:Oper}(h:JV ops a b=false):(∀t∈uu ops b,a.dst≠some t)/\(∀t∈uu ops a,b.dst≠some t)/\∀t,a.dst=some t->b.dst≠some t:=by
 simp only[JV,qjq]at h;obtain⟨⟨h1,h2⟩,h3⟩:=h;refine⟨λt ht e=>?_,λt ht e=>?_,λt e e'=>?_⟩
 ·rw [e] at h1; simp only [meets] at h1;have:(uu ops b).contains t=true:=by simpa using ht
  rw[this]at h1;cases h1
 ·rw [e] at h2; simp only [meets] at h2;have:(uu ops a).contains t=true:=by simpa using ht
  rw[this]at h2;cases h2
 ·rw [e,e']at h3;simp only [zbq]at h3;rw[show Nat.beq t t=true from by simp]at h3;cases h3
theorem zhQ{K:St→Prop}{i j:Nat}{oi oj:Oper}{r:List Nat}(hi:ops[i]? = some oi)(hj:ops[j]? = some oj)(hT:JV ops oi oj=false)
    (hE:∀τ τ',Bq τ τ'->xZ P Γ nt ops r K τ->xZ P Γ nt ops r K τ') (hN:∀τ,xZ P Γ nt ops r K τ->Dq τ.log i j)
    (h:xZ P Γ nt ops (i::j::r) K σ):xZ P Γ nt ops (j::i::r) K σ:=by
  obtain⟨cT1,cT2,cT3⟩:=zhP hT;simp only[xZ,hi,hj]at h ⊢;rw[lZ]at h;obtain⟨hsA,hA⟩:=h;generalize hAe:vG P Γ nt ops σ oi=A at hsA hA;have LA:=VZ (i:=i) hAe hsA
  -- the second operation behind the first: az before it
  have key:∀d,A.may d->∃B,vG P Γ nt ops (nx A (rq ops σ i oi) i oi.dst σ d) oj=B/\B.safe /\
      (∀e,B.may e->xZ P Γ nt ops r K (nx B (rq ops (nx A (rq ops σ i oi) i oi.dst σ d) j oj) j oj.dst (nx A (rq ops σ i oi) i oi.dst σ d) e)) /\
      Dq (rq ops (nx A (rq ops σ i oi) i oi.dst σ d) j oj B.fp B.kl++(rq ops σ i oi A.fp A.kl)) i j:=by
    intro d hd;have h2:=hA d hd;rw[lZ]at h2;obtain⟨hsB,hB⟩:=h2;refine⟨_,rfl,hsB,hB,?_⟩;obtain⟨e,he⟩:=aC.may_of_safe hsB;have:=hN _ (hB e he);rw[wP,wP]at this;intro L k m hk hm;refine this L k m ?_ ?_
    · rcases dU.1 hk with h | h
      · exact dU.2 (.inl h)
      · exact dU.2 (.inr (dU.2 (.inl h)))
    · rcases dU.1 hm with h | h
      · exact dU.2 (.inl h)
      · exact dU.2 (.inr (dU.2 (.inl h)))
  have main:∀d,A.may d->∀B,vG P Γ nt ops (nx A (rq ops σ i oi) i oi.dst σ d) oj=B->B.safe ->
      (∀e,B.may e->xZ P Γ nt ops r K (nx B (rq ops (nx A (rq ops σ i oi) i oi.dst σ d) j oj) j oj.dst (nx A (rq ops σ i oi) i oi.dst σ d) e)) ->
      Dq (rq ops (nx A (rq ops σ i oi) i oi.dst σ d) j oj B.fp B.kl++(rq ops σ i oi A.fp A.kl)) i j ->
      vG P Γ nt ops σ oj=B/\∀e,B.may e->vG P Γ nt ops (nx B (rq ops σ j oj) j oj.dst σ e) oi=A /\
        xZ P Γ nt ops r K (nx A (rq ops (nx B (rq ops σ j oj) j oj.dst σ e) i oi) i oi.dst (nx B (rq ops σ j oj) j oj.dst σ e) d):=by
    intro d hd B hBe hsB hB ww;generalize hσ1:nx A (rq ops σ i oi) i oi.dst σ d=σ1 at hBe hB ww;have LB:=VZ (i:=j) hBe hsB;have no:∀L k m,(i,L,k)∈rq ops σ i oi A.fp A.kl->(j,L,m)∈rq ops σ1 j oj B.fp B.kl->Ze k m=true->False:=λL k m h1 h2 hc=>by
      have:=ww L k m (dU.2 (.inr h1)) (dU.2 (.inl h2));rw[this]at hc;cases hc
    have zEY:∀t,lk σ1.env t=if oi.dst=some t then some d else(lk σ.env t).map (gI A.kl):=λt=>by rw[<- hσ1,FT]
    have zhR:∀L,lk σ1.aB L=match lk A.u L with|some o=>some o|none=>(lk σ.aB L).map (fD A.kl):=λL=>by rw[<- hσ1,zL]
    -- zDQ the second looks at, the first has not changed
    have zEZ:∀t∈looks ops σ1 oj,lk σ.env t=lk σ1.env t:=by
      intro t ht;have e:=zEY t;rw[fB (cT1 t (Qj t ht))]at e;rw[e];refine(Lr λv hv L hL hk=>?_).symm;rw[hv,QU]at e;exact no L 3 2 (LA.kl3 L hk) (LB.see t ht _ e L (by rw[znE];exact hL)) rfl
    have fpB:∀y∈B.fp,lk σ.aB y.1=lk σ1.aB y.1:=by
      intro y hy;have e:=zhR y.1;have hn:lk A.u y.1=none:=by
        cases hu:lk A.u y.1 with
        | none=>rfl
        | some o' =>
          have h1:=LA.wr _ (fM hu);rcases LB.fpt y hy with h2|h2
          · exact(no _ _ _ h1 h2 rfl).elim
          · exact(no _ _ _ h1 h2 rfl).elim
      rw[hn]at e;simp only at e;rw[e];refine(Ls λv hv L hL hk=>?_).symm;rw[hv,QU]at e;exact no L 3 2 (LA.kl3 L hk) (LB.fpm y hy _ e L (by rw[Si];exact hL)) rfl
    have hBσ:=LB.congr σ zEZ fpB;refine⟨hBσ,λe he=>?_⟩;generalize hσ1':nx B (rq ops σ j oj) j oj.dst σ e=σ1';have ztD:∀t,lk σ1'.env t=if oj.dst=some t then some e else(lk σ.env t).map (gI B.kl):=λt=>by rw[<- hσ1',FT]
    have ZN:∀L,lk σ1'.aB L=match lk B.u L with|some o=>some o|none=>(lk σ.aB L).map (fD B.kl):=λL=>by rw[<- hσ1',zL]
    have zE1:∀t∈looks ops σ oi,lk σ1'.env t=lk σ.env t:=by
      intro t ht;rw[ztD,fB (cT2 t (Qj t ht))];exact Lr λv hv L hL hk=>no L 2 3 (LA.see t ht v hv L hL) (LB.kl3 L hk) rfl
    have uB:∀y∈A.fp,lk B.u y.1=none:=by
      intro y hy;cases hu:lk B.u y.1 with
      | none=>rfl
      | some o' =>
        have h1:=LB.wr _ (fM hu);rcases LA.fpt y hy with h2|h2
        · exact(no _ _ _ h2 h1 rfl).elim
        · exact(no _ _ _ h2 h1 rfl).elim
    have fpA:∀y∈A.fp,lk σ1'.aB y.1=lk σ.aB y.1:=by
      intro y hy;rw[ZN,uB y hy];exact Ls λv hv L hL hk=>no L 2 3 (LA.fpm y hy v hv L hL) (LB.kl3 L hk) rfl
    have hAσ:=LA.congr σ1' zE1 fpA;refine⟨hAσ,hE _ _ ⟨λt=>?_,λL=>?_,λx=>?_⟩ (hB e he)⟩
    · -- the temporaries
      rw[FT,FT,zEY,ztD];by_cases h1:oj.dst=some t
      · rw [eX h1, eX h1, fB fun h2 => cT3 t h2 h1, QU, Lm fun L hL hk => ?_];rcases LB.labd e he L hL with h3 | h3
        · exact no L 3 2 (LA.kl3 L hk) h3 rfl
        · exact no L 1 1 (LA.kl1 L hk) h3 rfl
      · rw [fB h1, fB h1];by_cases h2:oi.dst=some t
        · rw [eX h2, eX h2, QU, Lm fun L hL hk => ?_];rcases LA.labd d hd L hL with h3 | h3
          · exact no L 2 3 h3 (LB.kl3 L hk) rfl
          · exact no L 1 1 h3 (LB.kl1 L hk) rfl
        · rw [fB h2,fB h2];cases lk σ.env t with
          | none=>rfl
          | some v=>simp only[QU];rw[ZL]
    · -- the objects
      rw[zL,zL,zhR,ZN];cases hb:lk B.u L with
      | some ob =>
        cases ha:lk A.u L with
        | some oa=>exact(no L 1 1 (LA.wr _ (fM ha)) (LB.wr _ (fM hb)) rfl).elim
        | none =>
          simp only[QU];rw[Lp λM hM hk=>no M 3 2 (LA.kl3 M hk) (LB.labu _ (fM hb) M hM) rfl]
      | none =>
        cases ha:lk A.u L with
        | some oa =>
          simp only[QU];rw[Lp λM hM hk=>no M 2 3 (LA.labu _ (fM ha) M hM) (LB.kl3 M hk) rfl]
        | none =>
          simp only;cases lk σ.aB L with
          | none=>rfl
          | some v=>simp only[QU];rw[ZM]
    · -- the log
      rw[wP,wP];have l1:σ1.log=rq ops σ i oi A.fp A.kl++σ.log:=by rw[<- hσ1,wP]
      have l2:σ1'.log=rq ops σ j oj B.fp B.kl++σ.log:=by rw[<- hσ1',wP]
      rw[l1,l2];have e1:x∈rq ops σ j oj B.fp B.kl↔x∈rq ops σ1 j oj B.fp B.kl:=by
        refine LB.logc σ zEZ fpB (λL hL k=>?_) x;rw[zhR];cases ha:lk A.u k with
        | some oa =>
          simp only[bW];constructor
          · rintro⟨o',ho,QM⟩;exact(no L 2 3 (LA.fpm _ (LA.wfp _ (fM ha)) o' ho L QM) (LB.kl3 L hL) rfl).elim
          · rintro⟨o',rfl,QM⟩;exact(no L 2 3 (LA.labu _ (fM ha) L QM) (LB.kl3 L hL) rfl).elim
        | none =>
          simp only;cases lk σ.aB k with
          | none=>simp
          | some v=>simp[Si]
      have e2:x∈rq ops σ1' i oi A.fp A.kl↔x∈rq ops σ i oi A.fp A.kl:=by
        refine LA.logc σ1' zE1 fpA (λL hL k=>?_) x;rw[ZN];cases hb:lk B.u k with
        | some ob =>
          simp only[bW];constructor
          · rintro⟨o',rfl,QM⟩;exact(no L 3 2 (LA.kl3 L hL) (LB.labu _ (fM hb) L QM) rfl).elim
          · rintro⟨o',ho,QM⟩;exact(no k 1 1 (LA.kb L hL k o' ho QM) (LB.wr _ (fM hb)) rfl).elim
        | none =>
          simp only;cases lk σ.aB k with
          | none=>simp
          | some v=>simp[Si]
      simp only[dU];rw[e1,e2,<- or_assoc,<- or_assoc];exact jql (or_comm) UX
  rw[lZ];obtain⟨d0,hd0⟩:=aC.may_of_safe hsA;obtain⟨B,hBe,hsB,hB,ww⟩:=key d0 hd0;obtain⟨hBσ,zKC⟩:=main d0 hd0 B hBe hsB hB ww;rw[hBσ];refine⟨hsB,λe he=>?_⟩;rw[lZ];rw[(zKC e he).1];refine⟨hsA,λd hd=>?_⟩;obtain⟨B',zPO,zXr,hB',zXq⟩:=key d hd;obtain⟨zPP,zBr⟩:=main d hd B' zPO zXr hB' zXq;have hBB:B'=B:=zPP.symm.trans hBσ;subst hBB;exact(zBr e he).2
end
end Go.Pm
namespace Go.Pm
variable [aJ]
open Go.RowKit (Below)
section
variable{P:Program}{Γ:bU}{nt B:Nat}{w0:World}{h0:Fz}{g:Gh}{σ:St}{a:Act}{w:World}{r:Option Nat}{n i:Nat}{Q:Exit->Act->World->Prop}{ops:Array Oper}
theorem ZO{K:St->Prop}(hK:∀σ τ,Bq σ τ->K σ->K τ):∀(l:List Oper)(i:Nat)(σ:St),(∀j,l[j]? = ops[i+j]?)->ku P Γ nt ops i l K σ->xZ P Γ nt ops (List.range' i l.length) K σ:=by
 intro l
 induction l with
 | nil=>intro i σ _ h;exact h
 | cons o l ih =>
  intro i σ hl h;have ho:ops[i]? = some o:=by have:=hl 0;simpa using this.symm
  have zY:∀j,l[j]? = ops[i+1+j]?:=λj=>by have:=hl (j+1);rw[Y9]at this;rw[this];congr 1;omega
  rw[Cc,YA];simp only[ku]at h;split at h
  ·exact h.elim
  ·rename_i hd;have one:∀τ:St,nR ops τ.env o=some true->nN (act P Γ o (fU τ.env) (lk τ.aB)) (oV τ i o) i o.dst (ku P Γ nt ops (i+1) l K) τ->xZ P Γ nt ops (i::List.range' (i+1) l.length) K τ:=by
    intro τ hw hv;simp only[xZ,ho];have e1:vG P Γ nt ops τ o=act P Γ o (fU τ.env) (lk τ.aB):=by unfold vG;rw[hd,hw]
    have e2:rq ops τ i o=oV τ i o:=by funext fp kl;unfold rq;rw[hw]
    rw[e1,e2];rw[lZ]at hv ⊢;exact⟨hv.1,λd hd=>ih (i+1) _ zY (hv.2 d hd)⟩
   have two:∀τ:St,nR ops τ.env o=some false->ku P Γ nt ops (i+1) l K (τ.skip o.dst)->xZ P Γ nt ops (i::List.range' (i+1) l.length) K τ:=by
    intro τ hw hv;simp only[xZ,ho];have e1:vG P Γ nt ops τ o=.val [] (.cl .undef) [] []:=by unfold vG;rw[hd,hw]
    have e2:rq ops τ i o=λ_ _=>[]:=by funext fp kl;unfold rq;rw[hw]
    rw[e1,e2];change xZ P Γ nt ops (List.range' (i+1) l.length) K ((τ.upd i o.dst [] (.cl .undef) [] []).relog []);have e3:(τ.upd i o.dst [] (.cl .undef) [] []).relog []=τ.skip o.dst:=by cases o.dst<;>rfl
    rw[e3];exact ih (i+1) _ zY hv
   split at h
   ·rename_i hg;exact one σ (by unfold nR;rw[hg]) h
   ·rename_i j want hg;split at h
    ·exact h.elim
    ·rename_i gt UU;have wt:∀b,nR ops (σ.setT gt (.bool b)).env o=some (b==want):=λb=>by
      unfold nR;rw[hg];simp only[UU];rw[show lk (σ.setT gt (.bool b)).env gt=some (.bool b)by simp[St.setT,aZ]]
     split at h
     ·rename_i b hb;have eq:∀c,b=c->Bq (σ.setT gt (.bool c)) σ:=λc hc=>⟨λt=>by
       simp only[St.setT,aZ];split
       ·rename_i e;subst e;rw[hb,hc]
       ·rfl,λ_=>rfl,λ_=>UX⟩
      have h2:=qW.1 h;refine Jk hK _ _ _ (eq b rfl) ?_;cases b with
      | true =>
       have h3:=h2.1 rfl;cases want with
       | true=>exact one _ (wt true) h3
       | false=>exact two _ (wt true) h3
      | false =>
       have h3:=h2.2 rfl;cases want with
       | true=>exact two _ (wt false) h3
       | false=>exact one _ (wt false) h3
     ·rename_i hb;refine two σ ?_ h;unfold nR;rw[hg];simp only[UU];rw[hb]
     ·exact h.elim
theorem zwA(gp:jw P Γ){K:St→Prop}{l:List Nat}{R:Act→World→Prop}{D:List Nat}{a0:Act}{ad:List Deferred}(hD:∀(j:Nat)(o:Oper),ops[j]? = some o→∀t,o.dst=some t→t∈D)
    (hv:xZ P Γ nt ops (i::l) K σ) (S:cO P nt B w0 h0 g σ a w) (kX:Kp D a0 a) (had:a.defers=ad)
    (hR:∀σ' g' a' w',xZ P Γ nt ops l K σ'->cO P nt B w0 h0 g' σ' a' w'->Kp D a0 a'->a'.defers=ad->R a' w'):wpOpIn (FR r) n P ops Q i R a w:=by
  simp only[xZ]at hv;unfold wpOpIn;split at hv
  · rename_i ho;rw[ho];exact hR σ g a w hv S kX had
  · rename_i o ho;rw[ho];simp only;obtain⟨hs,hk⟩:=FB.1 hv;have wnt:∀b,nR ops σ.env o=some b->Region.wanted o (yielded ops a.tmps)=b:=by
      intro b hw;unfold nR at hw;split at hw
      · rename_i hg;simp only[bW]at hw;subst hw;simp[Region.wanted,hg]
      · rename_i j want hg;split at hw
        · cases hw
        · rename_i gt UU;split at hw
          · rename_i c hb;simp only[bW]at hw;subst hw;have hvv:a.tmps.getD gt undef=.bool c:=by
              have:=S.env gt _ hb;generalize a.tmps.getD gt undef=v at this;cases this;rfl
            simp[Region.wanted,hg,wM UU hvv]
          · rename_i hb;simp only[bW]at hw;subst hw;have hvv:a.tmps.getD gt undef=undef:=S.env gt _ hb;simp[Region.wanted,hg,uD UU hvv]
          · cases hw
    generalize hA:vG P Γ nt ops σ o=A at hs hk;have sZ:=hA;unfold vG at hA;split at hA
    · rename_i hd hw;rw[eX (wnt true hw)];refine Ji (ZF (FN (i:=i) (Q:=Q) (r:=r) (n:=n) gp S hd hA hs)) ?_;rintro a' w' ⟨⟨EJ,g',σ',Fb,S'⟩,v,ds,rfl⟩;exact hR _ g' _ w' (hk σ' Fb) (S'.log _) (kX.put (hD i o ho) v ds ((put_defers _ _ _).symm.trans EJ)) (EJ.trans had)
    · rename_i hd hw;rw[fB (by rw[wnt false hw];simp)];refine⟨λ _ _=>trivial,?_⟩;subst hA;refine hR _ g _ w (hk _ rfl) ?_ (kX.put (hD i o ho) undef a.defers rfl) ((put_defers _ _ _).trans had);have:=S.skip hd;have e:(σ.upd i o.dst [] (.cl .undef) [] [])=σ.skip o.dst:=by cases o.dst <;> rfl
      rw[e];exact this.log _
    · subst hA;exact hs.elim
theorem Ql{K:St→Prop}{i:Nat}{oi:Oper}{l2:List Nat}(hi:ops[i]? = some oi)(hE:∀σ τ,Bq σ τ→K σ→K τ){R:List (Nat×Nat×Nat)→Prop}(hR:∀l m,(∀x∈l,x∈m)→R m→R l)(hK:∀σ,K σ→R σ.log) :
  ∀(l1:List Nat)(σ:St),(∀p∈l1,(∀log,R log->Dq log p i)/\∀op,ops[p]? = some op->JV ops op oi=false) ->
   xZ P Γ nt ops (l1++i::l2) K σ->xZ P Γ nt ops (i::(l1++l2)) K σ
 | [],σ,_,h=>h
 | p::l1,σ,hp,h=>by
  have h1:xZ P Γ nt ops (p::i::(l1++l2)) K σ:=AP (λσ h=>Ql hi hE hR hK l1 σ (λq hq=>hp q (jU _ hq)) h) h;obtain⟨hN,hT⟩:=hp p lq;cases bu:ops[p]? with
  | none =>
   have e:∀l σ,xZ P Γ nt ops (p::l) K σ↔xZ P Γ nt ops l K σ:=λl σ=>by simp only[xZ,bu]
   have h2:=(e _ _).1 h1;exact AP (λτ h=>(e _ _).2 h) h2
  | some op =>
   exact zhQ bu hi (hT op bu) (λτ τ' he hv=>Jk hE _ _ _ he hv) (λτ hv=>hN _ (Sj hR hK _ _ hv)) h1
theorem H8{ms:List Nat}{S:Nat->Prop}{p:Nat}:∀(es:List Edge),(∀e∈es,Region.binds .any e=true->S e.on) ->
  (∀k m,ms[k]? = some m->S k->m.testBit p=true->S p)->(A7 ms es).testBit p=true->S p
 | [],_,_,h=>by simp[A7]at h
 | e::r,he,hm,h=>by
  have ih:=H8 (ms:=ms) (p:=p) r (λe' h'=>he e' (jU _ h')) hm;simp only[A7]at h;split at h
  ·rename_i m hb hms;have hS:=he e lq hb;rw[jqp,jqp,Zb,Zb] at h;rcases h with (h | h) | h
   ·rw [Nat.testBit_two_pow]at h;have:e.on=p:=dqS h;rw[<- this];exact hS
   ·exact hm _ _ hms hS h
   ·exact ih h
  ·exact ih h
theorem Lt{S:Nat->Prop}{p:Nat}(Aq:∀(k:Nat)(o:Oper),ops[k]? = some o->S k->∀e∈o.after,Region.binds .any e=true->S e.on):∀(l:List Oper)(ms:List Nat),(∀j,l[j]? = ops[ms.length+j]?) ->
  (∀(k:Nat)(o:Oper)(m:Nat),ops[k]? = some o->ms[k]? = some m->(∀e∈o.after,Region.binds .any e=true->S e.on)->m.testBit p=true->S p) ->
  ∀(k:Nat)(o:Oper)(m:Nat),ops[k]? = some o->(masks l ms)[k]? = some m->(∀e∈o.after,Region.binds .any e=true->S e.on)->m.testBit p=true->S p
 | [],ms,_,h=>h
 | o::r,ms,hl,h=>by
  have ho:ops[ms.length]? = some o:=by have:=hl 0;simpa using this.symm
  simp only[masks];refine Lt Aq r (ms++[A7 ms o.after.toList]) (λj=>by have:=hl (j+1);rw[Y9]at this;rw[this,Jz];congr 1;simp;omega) ?_;intro k ok m hk hm he hb;rw[List.getElem?_append]at hm;split at hm
  ·exact h k ok m hk hm he hb
  ·rename_i iC;have jJ:k=ms.length:=by
    rcases qd4 k (ms.length+1)with h1|h1
    ·omega
    ·rw[qdt (by simp;omega)]at hm;cases hm
   subst jJ;rw[ho]at hk;simp only[bW]at hk;subst hk;simp only[Nat.sub_self,qdM,bW]at hm;subst hm;refine H8 _ (λe h'=>he e (by simpa using h')) (λk' m' IZ hS mf=>?_) hb;have zsS:k'<ms.length:=by
    rcases qd4 k' ms.length with h1|h1
    ·exact h1
    ·rw[qdt h1]at IZ;cases IZ
   cases gp:ops[k']? with
   | some ok'=>exact h k' ok' m' gp IZ (Aq k' ok' gp hS) mf
   | none =>
    have hlen:ms.length<ops.size:=by
     rcases qd4 ms.length ops.size with h1|h1
     ·exact h1
     ·rw[qjE h1]at ho;cases ho
    rw[jqS]at gp;omega
def xN(ms:List Nat)(log:List (Nat×Nat×Nat)):Prop:=uV ms log=true
theorem xN.sub{ms:List Nat}(l m:List (Nat×Nat×Nat))(h:∀x∈l,x∈m)(hm:xN ms m):xN ms l:=by
 simp only[xN,uV,Aa]at hm ⊢;exact λx hx y hy=>hm x (h x hx) y (h y hy)
theorem xN.no{ms:List Nat}{log:List (Nat×Nat×Nat)}(h:xN ms log){p i:Nat}(hpi:p<i)(hb:∀m,ms[i]? = some m->m.testBit p=false):Dq log p i:=by
 intro L k m h1 h2;simp only[xN,uV,Aa]at h;have:=h _ h1 _ h2;simp only[Zb,NR]at this;rcases this with((h3|h3)|h3)|h3
 ·rw[show Nat.blt p i=true from by simpa [qjy]using hpi]at h3;cases h3
 ·rw[show Nat.beq L L=true from by simp]at h3;cases h3
 ·exact h3
 ·split at h3
  ·rename_i m' IZ;rw[hb m' IZ]at h3;cases h3
  ·cases h3
def UA(ops:Array Oper)(listed:Array Bool):List Nat:=(List.range ops.size).filter λk=>!listed.getD k true
theorem FU{listed:Array Bool}:i∈Region.ready .any ops listed↔i∈UA ops listed/\∃o,ops[i]? = some o/\∀e∈o.after,Region.binds .any e=true->listed.getD e.on false=true:=by
 simp only[Region.ready,UA,UL,gG];constructor
 ·rintro⟨h1,h2,h3⟩;refine⟨⟨h1,h2⟩,?_⟩;cases ho:ops[i]? with
  | none=>rw[ho]at h3;simp at h3
  | some o =>
   rw[ho]at h3;simp only[QU,qd0,jqy,Zb,NR]at h3;refine⟨o,rfl,λe he hb=>?_⟩;rcases h3 e he with h|h
   ·rw[hb]at h;cases h
   ·exact h
 ·rintro⟨⟨h1,h2⟩,o,ho,h3⟩;refine⟨h1,h2,?_⟩;rw[ho];simp only[QU,qd0,jqy,Zb,NR];intro e he;cases hb:Region.binds .any e with
  | false=>exact .inl rfl
  | true=>exact .inr (h3 e he hb)
theorem V3{listed:Array Bool}{i k:Nat}{b:Bool}:(listed.setIfInBounds i true).getD k b=if k=i/\k<listed.size then true else listed.getD k b:=by
 rw[xX,xX,qji];by_cases h:i=k
 ·subst h;by_cases hs:i < listed.size
  ·simp[hs]
  ·simp[hs]
 ·rw[fB h,fB omY]
theorem znJ{listed:Array Bool}(jO:listed.size=ops.size):UA ops (listed.setIfInBounds i true)=(UA ops listed).filter λk=>!(k==i):=by
 unfold UA;rw[jqx];refine qja λk hk=>?_;have hk:=JC.1 hk;rw[V3];by_cases h:k=i
 ·subst h;rw[eX ⟨rfl,omY⟩];simp
 ·rw[fB (λh'=>h h'.1)];simp[h]
theorem znK(gp:jw P Γ){K:St→Prop}{D:List Nat}{a0:Act}{ad:List Deferred}(hD:∀(j:Nat)(o:Oper),ops[j]? = some o→∀t,o.dst=some t→t∈D)(hE:∀σ τ,Bq σ τ→K σ→K τ)(za7:JW ops=true)(hT:A8 ops (masks ops.toList [])=true)
    (hL:∀σ,K σ->xN (masks ops.toList []) σ.log) (hQ:∀σ',K σ'->∀g' a' w',cO P nt B w0 h0 g' σ' a' w'->Kp D a0 a'->a'.defers=ad->Q .normal a' w') :
    ∀(fuel:Nat)(listed:Array Bool)(σ:St)(g:Gh)(a:Act)(w:World),listed.size=ops.size->(UA ops listed).length<=fuel ->
      (∀k o,ops[k]? = some o->listed.getD k false=true->∀e∈o.after,Region.binds .any e=true->listed.getD e.on false=true) ->
      xZ P Γ nt ops (UA ops listed) K σ->cO P nt B w0 h0 g σ a w->Kp D a0 a->a.defers=ad->wpAnyIn (FR r) n P .any ops Q fuel listed a w:=by
  -- if nothing is ready, nothing is left
  have stuck:∀listed:Array Bool,Region.ready .any ops listed=[]->UA ops listed=[]:=by
    intro listed hr;cases hu:UA ops listed with
    | nil=>rfl
    | cons i rest =>
      exfalso;have hi:i∈UA ops listed:=by rw[hu];exact lq
      have jO:i<ops.size:=JC.1 (UL.1 hi).1;have Iw:(UA ops listed).Pairwise (· < ·):=jqn _ jq8;have:i∈Region.ready .any ops listed:=by
        refine FU.2 ⟨hi,ops[i],qdT jO,λe he hb=>?_⟩;simp only[JW,Aa]at za7;have h1:=za7 i (JC.2 jO);rw[qdT jO]at h1;simp only[Aa,Zb,NR]at h1;have h2:e.on<i:=by
          rcases h1 e (by simpa using he)with h|h
          · rw[hb]at h;cases h
          · simpa [qjy]using h
        cases hl:listed.getD e.on false with
        | true=>rfl
        | false =>
          exfalso;have sD:e.on∈UA ops listed\/listed.getD e.on true=true:=by
            cases hl2:listed.getD e.on true with
            | true=>exact .inr rfl
            | false=>exact .inl (UL.2 ⟨JC.2 omY,by rw[hl2];rfl⟩)
          rw[hu]at sD Iw;rcases sD with sD|sD
          · rcases kR.1 sD with h | h
            · omega
            · have:=(qdy.1 Iw).1 _ h;omega
          · -- then it lies outside
            rw[xX]at hl sD;have EI:listed[e.on]? = none:=by
              cases hx:listed[e.on]? with
              | none=>rfl
              | some b=>rw[hx]at hl sD;simp at hl sD;rw[hl]at sD;cases sD
            have hi2:listed.getD i true=true:=by
              rw[jqS]at EI;rw[xX,qjE omY];rfl
            have:=(UL.1 hi).2;rw[hi2]at this;cases this
      rw[hr]at this;simp at this
  intro fuel
  induction fuel with
  | zero =>
    intro listed σ g a w jO hf Aq hv S kX had;have za4:UA ops listed=[]:=qdI omY;refine⟨?_,?_⟩
    · cases hr:Region.ready .any ops listed with
      | nil=>rfl
      | cons i l =>
        have:=(FU (i:=i) (ops:=ops) (listed:=listed)).1 (by rw[hr];exact lq);rw[za4]at this;simp at this
    · rw [za4]at hv;exact hQ σ hv g a w S kX had
  | succ fuel ih =>
    intro listed σ g a w jO hf Aq hv S kX had;refine⟨λhr=>?_,λi hi=>?_⟩
    · have za4:=stuck listed hr;rw[za4]at hv;exact hQ σ hv g a w S kX had
    · obtain⟨hu,oi,hoi,hed⟩:=FU.1 hi;have hil:i<ops.size:=JC.1 (UL.1 hu).1;have Iw:(UA ops listed).Pairwise (· < ·):=jqn _ jq8;obtain⟨l1,l2,hl⟩:=List.append_of_mem hu;rw[hl]at Iw hv;have iC:∀p∈l1,p<i:=λp hp=>(qdx.1 Iw).2.2 p hp i lq;have UU:∀p∈l2,i<p:=λp hp=>(qdy.1 (qdx.1 Iw).2.1).1 p hp;have zJ8:UA ops (listed.setIfInBounds i true)=l1++l2:=by
        rw[znJ jO,hl,qjB,dq7];rw[fB (by simp),qjS.2 λp hp=>by have:=iC p hp;simp;omega,qjS.2 λp hp=>by have:=UU p hp;simp;omega]
      have bits:∀p∈l1,∀m,(masks ops.toList [])[i]? = some m->m.testBit p=false:=by
        intro p hp m hm;cases hb:m.testBit p with
        | false=>rfl
        | true =>
          exfalso;have:=Lt (S:=λk=>listed.getD k false=true) (p:=p) (ops:=ops) (λk o ho hS=>Aq k o ho hS) ops.toList [] (λj=>by simp) (λk o m _ hm=>by simp at hm) i oi m hoi hm hed hb;have hpu:p∈UA ops listed:=by rw[hl];exact dU.2 (.inl hp)
          have h2:=(UL.1 hpu).2;rw[xX]at this h2;cases hx:listed[p]? with
          | none=>rw[hx]at this;simp at this
          | some b=>rw[hx]at this h2;simp at this h2;rw[this]at h2;cases h2
      have zwB:=Ql hoi hE (R:=xN (masks ops.toList [])) xN.sub hL l1 σ (λp hp=>⟨λlog zPQ=>zPQ.no (iC p hp) (bits p hp),λop bu=>?_⟩) hv
      · refine zwA gp hD zwB S kX had fun σ' g' a' w' AX S' zd3 zPR => ?_;refine ih (listed.setIfInBounds i true) σ' g' a' w' (by simpa using jO) ?_ ?_ ?_ S' zd3 zPR
        · rw [zJ8];rw[hl]at hf;simp only[Jz,Cc]at hf ⊢;omega
        · intro k o hk kD e he hb;rw[V3] at kD ⊢;split at kD
          · rename_i hki;rw[hki.1,hoi] at hk;simp only[bW] at hk;subst hk;have:=hed e he hb;split
            · rfl
            · exact this
          · have := Aq k o hk kD e he hb;split
            · rfl
            · exact this
        · rw[zJ8];exact AX
      · simp only [A8,Aa]at hT;have h1:=hT i (JC.2 hil) p (JC.2 (iC p hp));rw[bu,hoi]at h1;cases hm:(masks ops.toList [])[i]? with
        | none=>rw[hm]at h1;simp at h1
        | some m =>
          rw[hm]at h1;simp only[Zb,NR]at h1;rcases h1 with h|h
          · exact h
          · rw[bits p hp m hm]at h;cases h
theorem cO.drew(S:cO P nt B w0 h0 g σ a w):cO P nt B w0 h0 g σ a {w with drawn:=w.drawn+1}:=by
 refine {S with obj:=λL o h=>?_,below:=?_,hw:=S.hw,bs:=S.bs}
 ·have:=S.obj L o h;cases o<;>exact this
 ·exact S.below.drew
theorem ZP(gp:jw P Γ){K:St→Prop}{D:List Nat}{a0:Act}(hD:∀(j:Nat)(o:Oper),ops[j]? = some o→∀t,o.dst=some t→t∈D)(kX:Kp D a0 a)(hm:P.follows .mixedOrders=true)(za7:JW ops=true)(hT:A8 ops (masks ops.toList [])=true)(hE:∀σ τ,Bq σ τ→K σ→K τ)
    (h:ku P Γ nt ops 0 ops.toList (λσ'=>match uV (masks ops.toList []) σ'.log with
      | true=>K σ'
      | false=>False) σ) (S:cO P nt B w0 h0 g σ a w)
    (hQ:∀σ',K σ'->∀g' a' w',cO P nt B w0 h0 g' σ' a' w'->Kp D a0 a'->a'.defers=a.defers->Q .normal a' w') {id:Nat}:(Code.region id ops true).wpIn (FR r) n P Q a w:=by
  refine wpIn_region_any hm ?_;have hE':∀σ τ:St,Bq σ τ->(match uV (masks ops.toList []) σ.log with|true=>K σ|false=>False)->(match uV (masks ops.toList []) τ.log with|true=>K τ|false=>False):=by
    intro σ τ he hσ;split at hσ
    · rename_i hl;have:xN (masks ops.toList []) τ.log:=xN.sub _ _ (λx hx=>(he.log x).2 hx) hl;rw[show uV (masks ops.toList []) τ.log=true from this];exact hE σ τ he hσ
    · exact hσ.elim
  have Iy:UA ops (Array.replicate ops.size false)=List.range ops.size:=by
    unfold UA;refine qjS.2 λk hk=>?_;have:=JC.1 hk;simp[xX,this]
  refine znK gp hD (K:=λσ'=>match uV (masks ops.toList []) σ'.log with|true=>K σ'|false=>False) hE' za7 hT (λσ hσ=>?_) (λσ' hσ=>?_) ops.size _ σ g a _ (by simp) ?_ ?_ ?_ S.drew kX rfl
  · split at hσ
    · assumption
    · exact hσ.elim
  · split at hσ
    · exact hQ σ' hσ
    · exact hσ.elim
  · rw[Iy];simp
  · intro k o _ hk;rw[xX] at hk;by_cases hks:k < ops.size
    · simp[hks]at hk
    · rw[qjE (by simp;omega)]at hk;simp at hk
  · rw [Iy];have:=ZO hE' ops.toList 0 σ (λj=>by simp) h;rw[dqQ];simpa using this
end
end Go.Pm
