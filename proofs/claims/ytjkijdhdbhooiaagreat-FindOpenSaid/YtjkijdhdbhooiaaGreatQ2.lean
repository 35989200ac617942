/- Part 2: framework, functions, plain laws. -/
import Derived.Test.YtjkijdhdbhooiaaGreatQ1
import Derived.ChangeKeysEq
import Derived.MapKept
import Derived.Laws.Slices
import Derived.Laws.OwnMore
import Derived.Scope
import Derived.OrdersIn
set_option linter.all false
noncomputable section
namespace Go.Pm
variable [aG]
open Go.RowKit (Below)
section
variable{P:Program}{Γ:bM}{nt B:Nat}{w0:World}{h0:Fz}{g:Gh}{σ:St}{a:Act}{w:World}{r:Option Nat}{n i:Nat}{Q:Exit->Act->World->Prop}
theorem zgm(σ:St)(i:Nat)(dst:Option Nat)(fp:List (Nat×Bool))(d:DV)(u:List (Nat×AO))(L:Nat) :
  σ.upd i dst fp d u [L]=⟨Yt dst d (kills (fU [L]) σ.env),u++kills (dO [L]) σ.ay,σ.log⟩:=by
 cases dst<;>rfl
theorem GL{t e:TypeId}{ty:TypeId}{ie:TypeInfo}{base m m' s:Nat}{v x:Value}{xs news:List Value}(hu:P.underlying t=some (.slice e))(hi:P.info? e=some ie)
    {z:Value} (hz:ie.zero=some z) (zJ:z.cells.size=ie.size) (hs:ie.size=s) (jr:0<s) (Qq:base<=w.heap.size) (iU:w.ownsRow base e s v m xs) (nT:zCy w x m' s news)
    (hlen:m+m'<=9223372036854775807) (yO:(m+m')*ie.bytes<=140737488355328) :
    ∃v' w',(Builtin.append_ #[t,t] ty #[v,x]).run P w=.ok v' w'/\w'.ownsRow base e s v' (m+m') (xs++news)/\GrB w w' v.ownBlock/\(v'.ownBlock=v.ownBlock\/v'.ownBlock=some w.heap.size) /\
      v'.oneCell'=true:=by
  have jI:∃ad c,v=.slice ad m c:=by
    rcases iU.2 with⟨h1,h2⟩|⟨k,cap,cur,h1,_⟩
    subst h2;exact⟨_,_,h1⟩;exact⟨_,_,h1⟩
  obtain⟨ad,c,jI⟩:=jI;rcases nT with⟨rfl,hx|⟨a',c',hx⟩,rfl⟩|⟨b,o,cap,hx,hl,qX,h1⟩
  subst hx;have cu:=run_append_owned_none (P:=P) (w:=w) base t ty e ie s hu hi v m xs iU;refine⟨v,w,cu,by simpa using iU,⟨⟨rfl,rfl,rfl,jy _,λ_ _ _=>rfl⟩,jy _⟩,.inl rfl,by rw[jI];rfl⟩;subst hx
  obtain ⟨v', w', cu, xe, hg, _⟩ := run_append_own (P := P) w base t ty e ie z s ie.bytes hu hi hz hs rfl (by rw [zJ, hs]) jr v m xs iU a' 0 c' [] (by simp)
    (λj u hj=>by simp at hj) (λu hu=>by simp at hu) (by simp only[maxLen];omega) yO Qq
  refine⟨v',w',cu,xe,⟨hg,JV (fZ _ _ _ _ cu)⟩,?_,?_⟩;rw [jI]at cu;have:=BX (P:=P) (t:=t) (ty:=ty) w v' w' cu;rw[jI];cases ad<;>exact this;rcases xe.2 with⟨h1,_⟩|⟨k,cap,cur,h1,_⟩<;>rw[h1]<;>rfl
  subst hx
  obtain ⟨v', w', cu, xe, hg, _⟩ := run_append_own (P := P) w base t ty e ie z s ie.bytes hu hi hz hs rfl (by rw [zJ, hs]) jr v m xs iU ⟨b, o, none⟩ m' cap news hl
    (λj u hj=>by rw[addr_add];exact qX j u hj) h1 (by simp only[maxLen];omega) yO Qq
  refine⟨v',w',cu,xe,⟨hg,JV (fZ _ _ _ _ cu)⟩,?_,?_⟩;rw [jI]at cu;have:=BX (P:=P) (t:=t) (ty:=ty) w v' w' cu;rw[jI];cases ad<;>exact this;rcases xe.2 with⟨h1,_⟩|⟨k,cap,cur,h1,_⟩<;>rw[h1]<;>rfl
theorem Kz{t e:TypeId}{ty:TypeId}{ie:TypeInfo}{base m m' s:Nat}{v x:Value}{xs:List Value}{new:Nat→List PV}(hu:P.underlying t=some (.slice e))(hi:P.info? e=some ie)
    {z:Value} (hz:ie.zero=some z) (zJ:z.cells.size=ie.size) (hs:ie.size=s) (jr:0<s) (Qq:base<=w.heap.size) (iU:w.ownsRow base e s v m xs) (nT:UL g w x m' s new)
    (hlen:m+m'<=9223372036854775807) (yO:(m+m')*ie.bytes<=140737488355328) :
    ∃v' w' news,(Builtin.append_ #[t,t] ty #[v,x]).run P w=.ok v' w'/\w'.ownsRow base e s v' (m+m') (xs++news)/\GrB w w' v.ownBlock/\(v'.ownBlock=v.ownBlock\/v'.ownBlock=some w.heap.size) /\
      v'.oneCell'=true/\news.length=m'*s/\∀k,k<m'->RL (Rep g.h) (new k) ((news.drop (k*s)).take s):=by
  rcases nT with⟨rfl,hx⟩|⟨b,o,cap,news,hx,hl,qX,h1,hr⟩
  obtain⟨v',w',h⟩:=GL (P:=P) (ty:=ty) (news:=[]) hu hi hz zJ hs jr Qq iU (.inl ⟨rfl,hx,rfl⟩) hlen yO;exact⟨v',w',[],h.1,h.2.1,h.2.2.1,h.2.2.2.1,h.2.2.2.2,by simp,λk hk=>absurd hk omY⟩;obtain⟨v',w',h⟩:=GL (P:=P) (ty:=ty) (news:=news) hu hi hz zJ hs jr Qq iU (.inr ⟨b,o,cap,hx,hl,qX,h1⟩) hlen yO;exact⟨v',w',news,h.1,h.2.1,h.2.2.1,h.2.2.2.1,h.2.2.2.2,hl,hr⟩
theorem zgn{L e s b m m':Nat}{get new:Nat→List PV}{v':Value}{w':World}{xs news:List Value}(hu:tX (appG m get new))(hv0:0<s∧∃i z,P.info? e=some i∧i.size=s∧i.bytes=b∧i.zero=some z∧z.cells.size=s)
    (hx:xs.length=m*s) (hr:∀k,k<m->RL (Rep g.h) (get k) ((xs.drop (k*s)).take s)) (_hn:news.length=m'*s) (hrn:∀k,k<m'->RL (Rep g.h) (new k) ((news.drop (k*s)).take s))
    (iU:w'.ownsRow B e s v' (m+m') (xs++news)):BP P (g.setSv L v') w' B L e s b (m+m') (appG m get new):=by
  refine⟨⟨hu,hv0.1⟩,hv0.2,xs++news,by rw[show(g.setSv L v').sv L=v' by simp[Gh.setSv]];exact iU,?_⟩;intro k hk;show RL (Rep g.h) (match Nat.ble m k with|true=>new (k-m)|false=>get k) _;cases hb:Nat.ble m k with
  | true =>
    have hmk:=qdJ hb;have e:((xs++news).drop (k*s)).take s=(news.drop ((k-m)*s)).take s:=by
      rw[List.drop_append,show xs.drop (k*s)=[]from qdt (by rw[hx];exact Qs s hmk),NW,hx,<- Nat.sub_mul]
    rw[e];exact hrn (k-m) omY
  | false =>
    have hmk:k<m:=by
      have:¬m<=k:=λh=>by rw[qjQ h]at hb;cases hb
      omega
    have hle:k*s+s<=m*s:=by have:=Qs s (qdf hmk);rw[Qv]at this;exact this
    have e:((xs++news).drop (k*s)).take s=(xs.drop (k*s)).take s:=by
      rw[List.drop_append_of_le_length omY,List.take_append_of_le_length (by simp;omega)]
    rw[e];exact hr k hmk
theorem Yx{o:Oper}{args:Array Operand}{ts:Array TypeId}{A:aA}(S:bK P nt B w0 h0 g σ a w)(hd:dA nt o.dst=true)(aU:o.op = .call {callee := .builtin .append,args,argTypes:=ts})
    (hA:act P Γ o (dW σ.env) (lk σ.ay)=A) (hs:A.safe):iZ P nt B w0 h0 r n i o A σ a w Q:=by
  simp only[act,aAp,aU]at hA;split at hA;rename_i s x t t' fO hts;split at hA;rename_i e dst hu htt Gw;have htt:=kY htt;subst htt;have ha:args = #[s,x]:=by rw[<- qdh (xs:=args),fO]
  have ht:ts = #[t,t]:=by rw[<- qdh (xs:=ts),hts]
  subst ha ht;split at hA;rename_i ie z hi hz;obtain⟨zv,Gx,zJ⟩:=iP hz hi;have zgo:∀(v':Value)(w':World),(Builtin.append_ #[t,t] o.type #[a.eval s,a.eval x]).run P w=.ok v' w'->(execOp a.eval o).run P w=.ok (.value v') w':=by
    intro v' w' h;refine fb aU ?_;simp only[builtin,Sem.run_bind,List.map_toArray,nU,qdR,h,Result.andThen_ok,Sem.run_pure]
  unfold Qy at hA;split at hA;rename_i m sz new fps nT;unfold EY at nT;have zgp:sz≠0->UL g w (a.eval x) m sz new:=by
    intro jw;have jw:0<sz:=by omega
    split at nT;rename_i hx;simp only[bG,fJ]at nT;obtain⟨rfl,rfl,rfl,_⟩:=nT;exact zgl S jw (jl S hx);rename_i M hx;obtain⟨h1,_⟩:=ig S hx;split at nT;rename_i hM;simp only[bG,fJ]at nT;obtain⟨rfl,rfl,rfl,_⟩:=nT;rw[h1.1];exact zmD (S.obj M _ hM);rename_i hM;simp only[bG,fJ]at nT;obtain⟨rfl,rfl,rfl,_⟩:=nT;rw[h1.1];exact zgl S jw (S.obj M _ hM).1;cases nT;cases nT
  have UM:tX new:=by
    split at nT;rename_i hx;simp only[bG,fJ]at nT;obtain⟨rfl,rfl,rfl,_⟩:=nT;exact(jl S hx).un.rows.2;split at nT;rename_i hM;simp only[bG,fJ]at nT;obtain⟨rfl,rfl,rfl,_⟩:=nT;exact(S.obj _ _ hM).1.1;rename_i hM;simp only[bG,fJ]at nT;obtain⟨rfl,rfl,rfl,_⟩:=nT;exact(S.obj _ _ hM).1.un.rows.2;cases nT;cases nT
  split at hA;rename_i L hsL;obtain⟨h1,_⟩:=ig S hsL;split at hA;rename_i e' s' b' m0 get hL;split at hA;rename_i cO;obtain⟨rfl,rfl,rfl,zgq,jr,_,rf⟩:=cO;subst hA;have qZ:(m0+m)*ie.bytes<=140737488355328/\m0+m<=9223372036854775807:=hs;have zSk:sz≠0:=by omega
  have zcK:=zgp zSk;rw[zgq]at zcK;obtain⟨⟨Yy,hp⟩,vg,xs,hx,hr⟩:=S.obj L _ hL;obtain⟨v',w',news,cu,xe,hg,TY,pg,hnl,hrn⟩:=Kz (P:=P) (ty:=o.type) hu hi Gx zJ rfl hp S.bs hx zcK qZ.2 qZ.1;rw[<- h1.1]at cu;have hnz:nzG (get 0) (appG m0 get new)=appG m0 get new:=Yk λi=>by
    unfold appG;split;exact(JK rf (Yy 0 0) (UM 0 0)).trans (UM 0 _);exact Yy 0 _
  rw[hnz];have zgk:=zgn (P:=P) (L:=L) (zmm Yy UM (JK rf (Yy 0 0) (UM 0 0))) ⟨hp,vg⟩ hx.1 hr hnl hrn xe;have S':=S.grow (dst:=o.dst) hL hd hg (TY.imp id .inl) zgk pg σ.log;refine oW (by simp[aU]) (zgo v' w' cu) ⟨g.setSv L v',σ.upd i o.dst ((L,true)::fps) (.cl (.vec L)) [(L,.vec e' ie.size ie.bytes (m0+m) (appG m0 get new))] [L],rfl,?_⟩;rw[zgm];exact S';subst hA;exact hs.elim;subst hA;exact hs.elim;rename_i hsN;split at hA;rename_i gB;split at hA;rename_i cO;obtain⟨zgq,jr⟩:=cO;subst hA;have qZ:m*ie.bytes<=140737488355328/\m<=9223372036854775807:=hs;have zcK:=zgp omY;have zac:a.eval s=.slice none 0 0:=by
    have:=jl S hsN;generalize a.eval s=v at this;cases this;rfl
  obtain⟨v',w',news,cu,xe,hg,TY,pg,hnl,hrn⟩:=Kz (P:=P) (ty:=o.type) (base:=w.heap.size) (m:=0) (v := .slice none 0 0) (xs:=[]) hu hi Gx zJ zgq.symm jr (jy _)
    (World.ownsRow_nil w _ e sz) zcK omY (by rw[NR];exact qZ.1)
  rw[<- zac]at cu;rw[NR,NW]at xe;have zCz:w'.ownsRow B e sz v' m news:=by
    refine⟨xe.1,?_⟩;rcases xe.2 with h|⟨k,cap,cur,h1,h2,h3⟩
    exact .inl h;exact .inr ⟨k,cap,cur,h1,BH S.bs h2,h3⟩
  have zgk:BP P (g.setSv dst v') w' B dst e sz ie.bytes m new:=by
    refine⟨⟨UM,jr⟩,⟨ie,zv,hi,zgq.symm,rfl,Gx,by rw[zJ,zgq]⟩,news,?_,hrn⟩;rw[show(g.setSv dst v').sv dst=v' by simp[Gh.setSv]];exact zCz
  have hold:∀b,b<w.heap.size->w'.heap[b]? = w.heap[b]?:=λb hb=>hg.block b hb (by simp[Value.ownBlock])
  have S' := S.newVec (t := dst) (w' := w') gB ⟨⟨hg.os, hg.tape, hg.output, hg.size, fun k hk => hold k (qdi hk S.bs)⟩, hg.drawn⟩ hold
    (λb hb=>(xe.lt b hb).1) zgk
  refine oW (by simp[aU]) (zgo v' w' cu) ⟨g.setSv dst v',σ.upd i o.dst ((dst,true)::fps) (.cl (.vec dst)) [(dst,.vec e sz ie.bytes m new)] [],rfl,?_⟩;rw[fG];refine S'.put (v:=v') hd (d:=.cl (.vec dst)) ⟨by simp[Gh.setSv],pg⟩ ?_ _;intro L hL;simp[bQ,dw,aY]at hL;subst hL;exact⟨_,by rw[aS,dH rfl]⟩;subst hA;exact hs.elim;subst hA;exact hs.elim;subst hA;exact hs.elim;subst hA;exact hs.elim;subst hA;exact hs.elim;subst hA;exact hs.elim;subst hA;exact hs.elim
end
end Go.Pm
namespace Go.Pm
variable [aG]
open Go.RowKit (Below)
open Go.MapKept (IsKey findNow_spec run_checkKey)
section
variable{P:Program}{w:World}
abbrev VI(xs:List Int):List Value:=xs.map (Value.int .i64)
def mkI(ag:Bool)(c:List Int):Value:=match ag with|true=>rH c|false=>.int .i64 (c.headD 0)
theorem qx{t:TypeId}{ag:Bool}{n off:Nat}{xs:List Int}(hg:jb P t=some ag)(hs:oP P t=some n)(h1:ag=false→n=1)(hl:off+n≤xs.length) :
  (part t (VI xs).toArray off).run P w=.ok (mkI ag ((xs.drop off).take n)) w:=by
 cases ag with
 | true =>
  simp only[part,Sem.run_bind,nI hg,Result.andThen_ok,OM,run_sizeOf hs,Sem.run_pure];simp[mkI,rH,jqV,jqs,List.map_take,jqB]
 | false =>
  have:=h1 rfl;subst this;have jv:off<xs.length:=by omega
  simp only[part,Sem.run_bind,nI hg,Result.andThen_ok,qdm,qd2];rw[show(VI xs).toArray[off]? = some (.int .i64 xs[off])by simp[jv]];rw[jqt jv];rfl
theorem take_split(xs:List Int)(m k r:Nat):(xs.drop m).take (k+r)=(xs.drop m).take k++(xs.drop (m+k)).take r:=by
 rw[List.take_add,List.drop_drop]
theorem zaN{a b c d:List Int}(h:a.length=b.length):decide (a++c=b++d)=(decide (a=b)&&decide (c=d)):=by
 by_cases h1:a=b;subst h1;simp;have:¬(a++c=b++d):=fun e=>h1 (List.append_inj e h).1;simp[h1,this]
theorem take_len{xs:List Int}{m k:Nat}(h:m+k<=xs.length):((xs.drop m).take k).length=k:=by
 rw[qdC,qdD];omega
theorem uq{d:Nat}{t:TypeId}{n:Nat}{ag:Bool}(h:kH P d t=some n)(hg:jb P t=some ag):ag=false->n=1:=by
 intro e;subst e;cases d with
 | zero=>simp[kH]at h
 | succ d =>
  simp only[kH]at h;split at h;split at h;split at h;simp only[bG]at h;exact h.symm;cases h;cases h;rename_i hu;simp[jb,hu]at hg;rename_i hu;simp[jb,hu]at hg;cases h
def GM (P : Program) (d : Nat) : Option Nat → Field → Option Nat := fun acc f => match acc, f.name != "_", kH P d f.type, oP P f.type with
 | some m,true,some n,some n'=>match Nat.beq f.offset m&&Nat.beq n n' with|true=>some (m+n)|false=>none
 | _,_,_,_=>none
theorem KA{d:Nat}:∀l:List Field,l.foldl (GM P d) none=none|[]=>rfl|f::l=>by rw[qdy,show GM P d none f=none from rfl];exact KA l
theorem KC{d:Nat}{f:Field}{l:List Field}{m n:Nat}(h:(f::l).foldl (GM P d) (some m)=some n) :
  ∃ k, kH P d f.type = some k ∧ oP P f.type = some k ∧ f.name ≠ "_" ∧ f.offset = m ∧ l.foldl (GM P d) (some (m + k)) = some n := by
 rw[qdy]at h;cases hs:GM P d (some m) f with
 | none=>rw[hs,KA]at h;cases h
 | some q =>
  rw[hs]at h;unfold GM at hs;split at hs;rename_i m' k k' e1 e2 e3 e4;simp only[bG]at e1;subst e1;split at hs;rename_i hb;simp only[fH]at hb;have h1:=kY hb.1;have h2:=kY hb.2;simp only[bG]at hs;subst hs;subst h2;exact⟨k,e3,e4,by simpa using e2,h1,h⟩;cases hs;cases hs
theorem Pg {d : Nat} : ∀ (l : List Field) (m q : Nat), l.foldl (GM P d) (some m) = some q → m ≤ q ∧ ∀ f ∈ l, f.name ≠ "_" ∧ ∃ k, kH P d f.type = some k ∧ oP P f.type = some k ∧ f.offset + k ≤ q
  | [],m,q,h=>by
    simp only[List.foldl_nil,bG]at h;subst h;exact⟨jy _,λf hf=>by simp at hf⟩
  | f::l,m,q,h=>by
    obtain⟨k,h1,h2,h3,h4,h5⟩:=KC h;obtain⟨h6,h7⟩:=Pg l (m+k) q h5;refine⟨omY,λg hg=>?_⟩;rcases jW.1 hg with rfl|hg
    exact⟨h3,k,h1,h2,omY⟩;exact h7 g hg
theorem pV{d:Nat}{t:TypeId}{n:Nat}(h:kH P d t=some n):∃ag,jb P t=some ag:=by
 cases d with
 | zero=>simp[kH]at h
 | succ d =>
  simp only[kH]at h;cases hu:P.underlying t with|none=>rw[hu]at h;cases h|some x=>unfold jb;rw[hu];exact⟨_,rfl⟩
theorem I7:∀(d:Nat)(t:TypeId)(n:Nat)(ag:Bool),kH P d t=some n->jb P t=some ag->∀(e:Nat)(xs ys:List Int),xs.length=n->ys.length=n ->
  (Op.equalIn (d+e) t (mkI ag xs) (mkI ag ys)).run P w=.ok (decide (xs=ys)) w
 | 0,t,n,ag,h,_=>by simp[kH]at h
 | d+1,t,n,ag,h,hg=>by
  intro e xs ys hx hy;rw[show d+1+e=(d+e)+1 by omega];have h0:=h;simp only[kH]at h;split at h
  ·rename_i hu;have xk:ag=false:=by simp[jb,hu] at hg;exact hg
   subst xk;have hn:=uq h0 hg rfl;subst hn
   match xs,ys,hx,hy with
   | [x],[y],_,_ =>
    simp only[mkI,qd9];rw[run_equalIn_int w (d+e) t .i64 .i64 x y hu];by_cases hxy:x=y<;>simp[hxy]
  rename_i fs hu;split at h;cases h;rename_i IQ;have xk:ag=true:=by simp[jb,hu]at hg;exact hg
  subst xk;have hf:P.fieldsOf t=fs:=by simp[Program.fieldsOf,hu]
  simp only[mkI,rH];rw[run_equalIn_struct w (d+e) t _ _ (by rw[hf];exact hu) IQ,hf]
  have key:∀(l:List Field)(m q:Nat),l.foldl (GM P d) (some m)=some q->q<=xs.length->q<=ys.length ->
    m<=q/\(Op.eqFields (d+e) (VI xs).toArray (VI ys).toArray l).run P w=.ok (decide ((xs.drop m).take (q-m)=(ys.drop m).take (q-m))) w:=by
   intro l
   induction l with
   | nil =>
    intro m q hq _ _;simp only[List.foldl_nil,bG]at hq;subst hq;exact⟨jy _,by simp[Op.eqFields]⟩
   | cons f l ih =>
    intro m q hq hxl hyl;obtain⟨k,h1,h2,h3,h4,h5⟩:=KC hq;obtain⟨hle,hr⟩:=ih (m+k) q h5 hxl hyl;obtain⟨ag',tJ⟩:=pV h1;have hk1:=uq h1 tJ;refine⟨omY,?_⟩;have p1:=qx (w:=w) (xs:=xs) (off:=m) tJ h2 hk1 omY;have p2:=qx (w:=w) (xs:=ys) (off:=m) tJ h2 hk1 omY;have p3:=I7 d f.type k ag' h1 tJ e ((xs.drop m).take k) ((ys.drop m).take k) (take_len omY) (take_len omY);rw[show q-m=k+(q-(m+k))by omega,take_split,take_split,zaN (by rw[take_len omY,take_len omY])];simp only[Op.eqFields,h3,ne_eq,not_false_eq_true,OM,Sem.run_bind,h4,p1,p2,p3,Result.andThen_ok];cases hd:decide (List.take k (List.drop m xs)=List.take k (List.drop m ys))with|false=>simp|true=>simpa using hr
  have:=(key fs.toList 0 n h omY omY).2;rw[this];simp only[jqu,jqN];rw[qjb omY,qjb omY];rename_i m0 e0 hu;split at h;rename_i m m' hm Ju;split at h;rename_i hb;have hmm:=kY hb;subst hmm;simp only[bG]at h;have xk:ag=true:=by simp[jb,hu]at hg;exact hg
  subst xk;obtain⟨ag',tJ⟩:=pV hm;have hk1:=uq hm tJ;obtain⟨i,hi,his⟩:∃i,P.info? e0=some i/\i.size=m:=by
   unfold oP at Ju;cases hi:P.info? e0 with|none=>rw[hi]at Ju;cases Ju|some i=>rw[hi]at Ju;simp only[OL,bG]at Ju;exact⟨i,rfl,Ju⟩
  have hc:P.cellsOf e0=m:=by simp[Program.cellsOf,hi,his]
  simp only[mkI,rH];rw[run_equalIn_array w (d+e) _ _ hu hi,hc,dqV];have key:∀(k s:Nat),(s+k)*m<=xs.length->(s+k)*m<=ys.length->(Op.eqItems (d+e) e0 m (VI xs).toArray (VI ys).toArray (List.range' s k)).run P w=.ok (decide ((xs.drop (s*m)).take (k*m)=(ys.drop (s*m)).take (k*m))) w:=by
   intro k
   induction k with
   | zero=>intro s _ _;simp[Op.eqItems]
   | succ k ih =>
    intro s hxl hyl;have e1:(s+(k+1))*m=s*m+(k+1)*m:=Nat.add_mul _ _ _;have e2:(k+1)*m=m+k*m:=by rw[Qv,qjR]
    have e3:(s+1)*m=s*m+m:=Qv _ _;have hr:=ih (s+1) (by rw[show s+1+k=s+(k+1)by omega];exact hxl) (by rw[show s+1+k=s+(k+1)by omega];exact hyl);have p1:=qx (w:=w) (xs:=xs) (off:=s*m) tJ Ju hk1 omY;have p2:=qx (w:=w) (xs:=ys) (off:=s*m) tJ Ju hk1 omY;have p3:=I7 d e0 m ag' hm tJ e ((xs.drop (s*m)).take m) ((ys.drop (s*m)).take m) (take_len omY) (take_len omY);rw[e2,take_split,take_split,zaN (by rw[take_len omY,take_len omY])];rw[Yj];simp only[Op.eqItems,Sem.run_bind,p1,p2,p3,Result.andThen_ok];rw[e3]at hr;cases hd:decide (List.take m (List.drop (s*m) xs)=List.take m (List.drop (s*m) ys))with|false=>simp|true=>simpa using hr
  have:=key m0 0 (by rw[NR,h];omega) (by rw[NR,h];omega);rw[this];simp only[jqM,jqu,h];rw[qjb omY,qjb omY];cases h;cases h;cases h
theorem vN:∀(d:Nat)(t:TypeId)(n:Nat)(ag em:Bool),kH P d t=some n->jb P t=some ag->∀(e:Nat)(xs:List Int),xs.length=n ->
  (Instr.checkKey em (d+e) t (mkI ag xs)).run P w=.ok () w
 | 0,t,n,ag,em,h,_=>by simp[kH]at h
 | d+1,t,n,ag,em,h,hg=>by
  intro e xs hx;rw[show d+1+e=(d+e)+1 by omega];have h0:=h;simp only[kH]at h;split at h;rename_i hu;have xk:ag=false:=by simp[jb,hu]at hg;exact hg
  subst xk;simp only[mkI,Instr.checkKey,Sem.run_bind,run_underlying hu,Result.andThen_ok,Sem.run_pure];rename_i fs hu;split at h;cases h
  ·rename_i IQ;have xk:ag=true:=by simp[jb,hu] at hg;exact hg
   subst xk;simp only[mkI,rH,Instr.checkKey,Sem.run_bind,run_underlying hu,Result.andThen_ok];rw[<- Array.forIn_toList];have deep:=(Pg fs.toList 0 n h).2;clear h h0;generalize fs.toList=L at deep
   induction L with
   | nil=>simp
   | cons f L ih =>
    obtain⟨hn,k,h1,h2,h3⟩:=deep f (by simp);obtain⟨ag',tJ⟩:=pV h1;have p1:=qx (w:=w) (xs:=xs) (off:=f.offset) tJ h2 (uq h1 tJ) omY;have p3:=vN d f.type k ag' em h1 tJ e ((xs.drop f.offset).take k) (take_len omY);simp only[List.forIn_cons,Sem.run_bind,hn,ne_eq,not_false_eq_true,OM,Result.andThen_ok,p1,p3,Sem.run_pure];exact ih λy hy=>deep y (by simp[hy])
  rename_i m0 e0 hu;split at h;rename_i m m' hm Ju;split at h
  ·rename_i hb;have hmm:=kY hb;subst hmm;simp only[bG] at h;have xk:ag=true:=by simp[jb,hu] at hg;exact hg
   subst xk;obtain⟨ag',tJ⟩:=pV hm;have hk1:=uq hm tJ;simp only[mkI,rH,Instr.checkKey,Sem.run_bind,run_underlying hu,Result.andThen_ok];simp only[Std.Legacy.Range.forIn_eq_forIn_range',Std.Legacy.Range.size,jqN,Nat.add_one_sub_one,Nat.div_one];have deep:∀i∈List.range' 0 m0,i*m+m<=xs.length:=λi hi=>by
    have jv:i<m0:=by simp at hi;exact hi
    have:(i+1)*m<=m0*m:=Qs _ jv;rw[Qv]at this;omega
   generalize List.range' 0 m0=is at deep
   induction is with
   | nil=>simp
   | cons i is ih =>
    have h3:=deep i (by simp);have p1:=qx (w:=w) (xs:=xs) (off:=i*m) tJ Ju hk1 h3;have p3:=vN d e0 m ag' em hm tJ e ((xs.drop (i*m)).take m) (take_len h3);simp only[List.forIn_cons,Sem.run_bind,run_sizeOf Ju,Result.andThen_ok,p1,p3,Sem.run_pure];exact ih λy hy=>deep y (by simp[hy])
  cases h;cases h;cases h
theorem Yz(kf:KF)(c:List Int):Instr.sameBits 10000 (eF kf c) (eF kf c)=true:=by
 cases kf with
 | one=>simp[eF,Instr.sameBits]
 | ints =>
  have key:∀(l:List Int)(m:Nat),((VI l).zip (VI l)).all (λ(x,y)=>Instr.sameBits (m+1) x y)=true:=by
   intro l m
   induction l with
   | nil=>rfl
   | cons a l ih =>
    simp only[VI,nU,List.zip_cons_cons,qjo,fH];exact⟨by simp[Instr.sameBits],ih⟩
  simp only[eF,rH,Instr.sameBits];simp only[qji,qdq];exact key c 9998
theorem xX{k:TypeId}{kf:KF}{n:Nat}(h:lZ P k=some (kf,n)) :
  (kf=.ints/\kH P 8 k=some n/\jb P k=some true)\/(kf=.one/\kH P 8 k=some n/\jb P k=some false/\n=1):=by
 unfold lZ at h;split at h;rename_i h1 h2;simp only[bG,fJ]at h;obtain⟨rfl,rfl⟩:=h;exact .inl ⟨rfl,h1,h2⟩;rename_i h1 h2;split at h;rename_i hb;simp only[bG,fJ]at h;obtain⟨rfl,rfl⟩:=h;exact .inr ⟨rfl,h1,h2,kY hb⟩;cases h;cases h
theorem I8{k:TypeId}{kf:KF}{n:Nat}(h:lZ P k=some (kf,n)):kf=.one->n=1:=by
 rintro rfl;rcases xX h with⟨e,_⟩|⟨_,_,_,h⟩
 cases e;exact h
theorem zu7{k:TypeId}{kf:KF}{n:Nat}(h:lZ P k=some (kf,n)){xs ys:List Int}(hx:xs.length=n)(hy:ys.length=n) :
  (Op.equalIn 10000 k (eF kf xs) (eF kf ys)).run P w=.ok (decide (xs=ys)) w:=by
 rcases xX h with⟨rfl,h1,h2⟩|⟨rfl,h1,h2,_⟩
 exact I7 (w:=w) 8 k n true h1 h2 9992 xs ys hx hy;exact I7 (w:=w) 8 k n false h1 h2 9992 xs ys hx hy
theorem Ph{k:TypeId}{kf:KF}{n:Nat}(em:Bool)(h:lZ P k=some (kf,n)){xs:List Int}(hx:xs.length=n) :
  (Instr.checkKey em 10000 k (eF kf xs)).run P w=.ok () w:=by
 rcases xX h with⟨rfl,h1,h2⟩|⟨rfl,h1,h2,_⟩
 exact vN (w:=w) 8 k n true em h1 h2 9992 xs hx;exact vN (w:=w) 8 k n false em h1 h2 9992 xs hx
theorem xY{kt n:Nat}{ag:KF}(h:lZ P kt=some (ag,n)){c:List Int}(hc:c.length=n):∀(es:List MapEntry)(en:List (List Int×List Int))(i:Nat),
  es.map (·.key)=en.map (λx=>eF ag x.1)->(∀x∈en,x.1.length=n) ->
   ((Instr.findAsking kt (eF ag c) es i).run P w=.ok none w/\∀x∈en,x.1≠c) \/
   ∃(j:Nat)(e:MapEntry)(v:List Int),(Instr.findAsking kt (eF ag c) es i).run P w=.ok (some (i+j,e.val)) w/\es[j]? = some e/\en[j]? = some (c,v)
 | [],[],i,_,_=>.inl ⟨by simp[Instr.findAsking],by simp⟩
 | [],_::_,i,hk,_=>by simp at hk
 | _::_,[],i,hk,_=>by simp at hk
 | e::es,(k,v)::en,i,hk,hl=>by
  simp only[nU,ES]at hk;have q:=zu7 (w:=w) h hc (hl _ jM);have q':(Op.equal kt (eF ag c) e.key).run P w=.ok (decide (c=k)) w:=by rw[hk.1];exact q
  by_cases hck:c=k;subst hck;refine .inr ⟨0,e,v,?_,rfl,rfl⟩;simp only[Instr.findAsking,Sem.run_bind,q',Result.andThen_ok,decide_true,OM,Sem.run_pure,qdQ];rcases xY h hc es en (i+1) hk.2 (fun x hx=>hl x (jB _ hx))with⟨h1,h2⟩|⟨j,e',v',h1,h2,h3⟩
  refine .inl ⟨?_,fun x hx => ?_⟩;simp only [Instr.findAsking,Sem.run_bind,q',Result.andThen_ok,hck,qdK,qdm,qd2];exact h1;rcases jW.1 hx with rfl|hx
  exact λe=>hck e.symm;exact h2 x hx;refine .inr ⟨j+1,e',v',?_,by simpa using h2,by simpa using h3⟩;simp only[Instr.findAsking,Sem.run_bind,q',Result.andThen_ok,hck,qdK,qdm,qd2];rw[h1,show i+1+j=i+(j+1)by omega]
theorem run_findKey{kt n:Nat}{ag:KF}(h:lZ P kt=some (ag,n)){c:List Int}(hc:c.length=n)(es:List MapEntry)(en:List (List Int×List Int))
    (hk : es.map (·.key) = en.map (fun x => eF ag x.1)) (hl : ∀ x ∈ en, x.1.length = n) :
      ((Instr.findKey kt (eF ag c) es).run P w=.ok none w/\∀x∈en,x.1≠c) \/
      ∃(j:Nat)(e:MapEntry)(v:List Int),(Instr.findKey kt (eF ag c) es).run P w=.ok (some (j,e.val)) w/\es[j]? = some e/\en[j]? = some (c,v):=by
  by_cases pg:ag=.one
  · subst pg;have hn:=I8 h rfl;subst hn;have hu:P.underlying kt=some (.int .i64):=by
      obtain⟨h,hg⟩:kH P 8 kt=some 1/\jb P kt=some false:=by
        rcases xX h with⟨e,_⟩|⟨_,h1,h2,_⟩
        cases e;exact⟨h1,h2⟩
      simp only[kH]at h;split at h
      assumption
      rename_i hu;simp[jb,hu]at hg;rename_i hu;simp[jb,hu]at hg;cases h
    match c,hc with
    | [a],_ =>
      have Qp:∀x∈es,IsKey (.int .i64) x.key:=by
        intro x hx;have:x.key∈en.map (λx=>eF .one x.1):=hk▸rY.2 ⟨x,hx,rfl⟩;obtain⟨y,_,hy⟩:=rY.1 this;rw[<- hy];exact zaI _
      have hat:∀(j:Nat)(e:MapEntry),es[j]? = some e->∃k v,en[j]? = some ([k],v)/\e.key=.int .i64 k:=by
        intro j e he;have h1:(es.map (·.key))[j]? = some e.key:=by simp[he]
        rw[hk]at h1;simp only[dq0,Yh]at h1;obtain⟨⟨k,v⟩,h2,h3⟩:=h1;have hkl:=hl _ (Jy h2)
        match k,hkl with|[k0],_=>exact⟨k0,v,h2,h3.symm⟩
      simp only[eF,qd9];rcases findNow_spec (zaI a) es 0 Qp with⟨h1,h2⟩|⟨jj,e',h1,h2,h3⟩
      refine .inl ⟨by simp only [Instr.findKey,Sem.run_bind,run_underlying hu,Result.andThen_ok,h1,Sem.run_pure],fun x hx e => ?_⟩;obtain⟨j,hj⟩:=Yi hx;have hlen:es.length=en.length:=by have:=jF List.length hk;simpa using this
      have hjl:j<es.length:=by rw[hlen];exact(ER.1 hj).1
      obtain⟨k,v,h4,h5⟩:=hat j es[j] (Ai hjl);rw[hj]at h4;simp only[bG]at h4;rw[h4]at e;simp only[ES,qj1]at e;subst e;exact h2 es[j] (qdb hjl) h5;obtain⟨k,v,h4,h5⟩:=hat jj e' h2;rw[h3]at h5;simp only[Value.int.injEq,true_and]at h5;subst h5;exact .inr ⟨jj,e',v,by simp only[Instr.findKey,Sem.run_bind,run_underlying hu,Result.andThen_ok,h1,Sem.run_pure,NR],h2,h4⟩
  · have hg:jb P kt=some true:=by
      rcases xX h with⟨_,_,h2⟩|⟨e,_⟩
      exact h2;exact absurd e pg
    have hkv:∀c:List Int,∃l,eF ag c=.agg l:=λc=>by
      cases ag with|one=>exact absurd rfl pg|ints=>exact⟨_,rfl⟩
    match es,en,hk with
    | [],[],_ =>
      refine .inl ⟨?_,by simp⟩;obtain⟨x,hu⟩:∃x,P.underlying kt=some x:=by
        cases hu:P.underlying kt with|none=>simp[jb,hu]at hg|some x=>exact⟨x,rfl⟩
      simp only[Instr.findKey,Sem.run_bind,run_underlying hu,Result.andThen_ok,Instr.findNow,Sem.run_pure]
    | [],_::_,hk=>simp at hk
    | _::_,[],hk=>simp at hk
    | e::es,x::en,hk =>
      have hke:e.key=eF ag x.1:=by simp only[nU,ES]at hk;exact hk.1
      have hf:(Instr.findKey kt (eF ag c) (e::es)).run P w=(Instr.findAsking kt (eF ag c) (e::es)).run P w:=by
        obtain⟨y,hu⟩:∃y,P.underlying kt=some y:=by
          cases hu:P.underlying kt with|none=>simp[jb,hu]at hg|some y=>exact⟨y,rfl⟩
        have hs:Instr.findNow y (eF ag c) (e::es) 0=none:=by
          obtain⟨l1,e1⟩:=hkv c;obtain⟨l2,e2⟩:=hkv x.1;simp only[Instr.findNow,hke,e1,e2];have:Instr.sameNow y (.agg l1) (.agg l2)=none:=by
            cases y<;>rfl
          rw[this]
        simp only[Instr.findKey,Sem.run_bind,run_underlying hu,Result.andThen_ok,hs]
      rw[hf];rcases xY (w:=w) h hc (e::es) (x::en) 0 hk hl with h1|⟨j,e',v,h1,h2,h3⟩
      exact .inl h1;exact .inr ⟨j,e',v,by rw[h1,NR],h2,h3⟩
theorem KD{c:List Int}:∀{en:List (List Int×List Int)},(∀x∈en,x.1≠c)→nD c en=none
  | [],_=>rfl
  | (k,v)::r,h=>by
    simp only[nD];rw[dM (h _ jM)];exact KD λx hx=>h x (jB _ hx)
theorem KE {c v : List Int} : ∀ {en : List (List Int × List Int)} {j : Nat}, (en.map (·.1)).Nodup → en[j]? = some (c, v) → nD c en = some v
  | [],j,_,h=>by simp at h
  | (k,u)::r,j,hn,h=>by
    simp only[nU,qdc]at hn;simp only[nD];cases j with
    | zero=>simp at h;rw[dH h.1,h.2]
    | succ j =>
      simp only[Yg]at h;rw[dM (λe=>hn.1 (rY.2 ⟨_,Jy h,e.symm⟩))];exact KE hn.2 h
end
end Go.Pm
namespace Go.Pm
variable [aG]
open Go.RowKit (Below)
section
variable{P:Program}{Γ:bM}{nt B:Nat}{w0:World}{h0:Fz}{g:Gh}{σ:St}{a:Act}{w:World}{r:Option Nat}{n i:Nat}{Q:Exit->Act->World->Prop}
theorem zmE(k:Option IntKind)(x:Int):iV g (.p (zfZ k x)) (cellV k x):=by
 cases k with|none=>exact .bool _|some k=>exact .int _ _
theorem zgt(o:Option (List Int)):∀(ks:List (Option IntKind))(i:Nat),RL (iV g) ((zuM o i ks).map .p) (qG o i ks)|[],_=>trivial|k::ks,i=>⟨zmE k _,zgt o ks (i+1)⟩
theorem zu8{xC:Bool}{ks:List (Option IntKind)}{o:Option (List Int)}{d:D1}(h:zf0 xC ks o=some d):zS g d (lI xC ks o):=by
 have hr:=zgt (g:=g) o ks 0;unfold zf0 at h;cases xC with
 | true =>
  simp only[bG]at h;rw[<- h];exact⟨_,rfl,hr⟩
 | false =>
  split at h;rename_i l e;cases e
  ·rename_i v _ e;simp only[bG]at h;rw[<- h];rw[e]at hr;cases hc:qG o 0 ks with|nil=>rw[hc]at hr;exact hr.elim|cons x l=>rw[hc]at hr;simp only[lI,hc,qd9];exact hr.1
  cases h
theorem UN{xC:Bool}{ks:List (Option IntKind)}{o:Option (List Int)}{d:D1}(h:zf0 xC ks o=some d):dw d=[]:=by
 unfold zf0 at h;split at h;simp only[bG]at h;rw[<- h];exact nK _;simp only[bG]at h;rw[<- h];rfl;cases h
def zsk(c:Cl)(acc:Option (List (Option IntKind))):Option (List (Option IntKind)):=match c,acc with|.p (.int k (.ofNat 0)),some l=>some (some k::l)|.p (.bool false),some l=>some (none::l)|_,_=>none
theorem Aw:∀(vs:List Value)(cs:List Cl)(ks:List (Option IntKind))(i:Nat),jf vs=some cs→cs.foldr zsk (some [])=some ks→vs=qG none i ks
  | [],cs,ks,i,h1,h2=>by
    simp only[jf,bG]at h1;subst h1;simp only[List.foldr_nil,bG]at h2;subst h2;rfl
  | v::vs,cs,ks,i,h1,h2=>by
    simp only[jf]at h1;split at h1;rename_i x l hx hl;simp only[bG]at h1;subst h1;rw[List.foldr_cons]at h2;unfold zsk at h2;split at h2;rename_i k l' e1 e2;simp only[bG]at h2;subst h2;simp only[Cl.p.injEq]at e1;rw[Aw vs l l' (i+1) hl e2];have:v=.int k 0:=by
      rw[e1]at hx;unfold vG at hx;split at hx<;>simp at hx;obtain⟨rfl,rfl⟩:=hx;rfl
    rw[this];rfl;rename_i l' e1 e2;simp only[bG]at h2;subst h2;simp only[Cl.p.injEq]at e1;rw[Aw vs l l' (i+1) hl e2];have:v=.bool false:=by
      rw[e1]at hx;unfold vG at hx;split at hx<;>simp at hx;subst hx;rfl
    rw[this];rfl;cases h2;cases h1
structure zmF (P : Program) (kt vt : Nat) (ag : KF) (m : Nat) (xC : Bool) (ks : List (Option IntKind)) : Prop where
  key:lZ P kt=some (ag,m)
  zero:∀w,(zeroValue vt).run P w=.ok (lI xC ks none) w
  one:xC=false->ks.length=1
theorem UO{kt vt:Nat}{ag:KF}{m:Nat}{xC:Bool}{ks:List (Option IntKind)}(h:JD P kt vt=some (ag,m,xC,ks)):zmF P kt vt ag m xC ks:=by
 unfold JD at h;split at h
 ·rename_i ag' m' ks' zCA h1 h3 h4;have zero:∀z,(P.info? vt).bind (·.zero)=some z->∀w,(zeroValue vt).run P w=.ok z w/\z.cells.toList=qG none 0 ks':=by
   intro z hz w;unfold zfY at h3;split at h3;rename_i zc hzc;obtain⟨i,v,hi,hv,ho,_⟩:=lF hzc;rw[hi]at hz;simp only[jqc,hv,bG]at hz;subst hz;exact⟨kU hi hv,Aw _ _ _ 0 ho h3⟩;cases h3
  cases hb:(zCA||Nat.beq ks'.length 1)with
  | false=>rw[hb]at h;cases h
  | true =>
   rw[hb]at h;cases hz:(P.info? vt).bind (·.zero)with
   | none=>rw[hz]at h;cases h
   | some z =>
    rw[hz]at h;cases zCA with
    | true =>
     cases z with
     | agg cs =>
      simp only[bG,fJ]at h;obtain⟨rfl,rfl,rfl,rfl⟩:=h;refine⟨h1,λw=>?_,λe=>by cases e⟩;obtain⟨r1,r2⟩:=zero _ hz w;rw[r1];simp only[Value.cells]at r2;simp only[lI,<- r2]
     | _=>cases h
    | false =>
     have hlen:ks'.length=1:=by
      simp only[Bool.false_or]at hb;exact kY hb
     have fin:z.cells.toList=[z]->some (ag',m',false,ks')=some (ag,m,xC,ks)->zmF P kt vt ag m xC ks:=by
      intro hcz h;simp only[bG,fJ]at h;obtain⟨rfl,rfl,rfl,rfl⟩:=h;refine⟨h1,λw=>?_,λ_=>hlen⟩;obtain⟨r1,r2⟩:=zero _ hz w;rw[r1];rw[hcz]at r2;simp only[lI,<- r2,qd9]
     cases z with|agg cs=>cases h|_=>exact fin rfl h
 cases h
theorem zgu{ag:KF}{m:Nat}{d:DV}{c:List Int}{v:Value}(h:zmg ag m d=some c)(xk:ag=.one->m=1)(hv:qH g d v):v=eF ag c/\c.length=m:=by
 unfold zmg at h;split at h;rename_i cs;split at h;rename_i l hl;split at h;rename_i hb;simp only[bG]at h;subst h;obtain⟨vs,rfl,hr⟩:=hv;exact⟨by rw[zaJ hl hr];rfl,kY hb⟩;cases h;cases h;simp only [bG]at h;subst h;cases hv;exact⟨rfl,(xk rfl).symm⟩;cases h
theorem I9:∀(ks:List (Option IntKind))(cs:List Cl)(l:List Int)(vs:List Value)(pre:List Int),tV ks cs=some l→RL (iV g) cs vs→vs=qG (some (pre++l)) pre.length ks
  | [],[],l,[],pre,h,_=>rfl
  | [],[],_,_::_,_,_,hr=>hr.elim
  | [],_::_,l,vs,pre,h,_=>by simp[tV]at h
  | k::ks,[],l,vs,pre,h,_=>by cases k<;>simp[tV]at h
  | k::ks,c::cs,l,[],pre,h,hr=>hr.elim
  | k::ks,c::cs,l,v::vs,pre,h,hr=>by
    unfold tV at h;split at h;rename_i e1 e2;cases e1;rename_i k' ks' k2 x r e1 e2;simp only[ES]at e1 e2;obtain⟨rfl,rfl⟩:=e1;obtain⟨rfl,rfl⟩:=e2;split at h;rename_i hkk;subst hkk;split at h;rename_i l' vk;simp only[bG]at h;subst h;have ih:=I9 ks cs l' vs (pre++[x]) vk hr.2;have h1:=hr.1;cases h1;rw[show pre++[x]++l'=pre++x::l' by simp,show(pre++[x]).length=pre.length+1 by simp]at ih;rw[ih];simp[qG,cellV,sD];cases h;cases h;rename_i ks' b r e1 e2;simp only[ES]at e1 e2;obtain⟨rfl,rfl⟩:=e1;obtain⟨rfl,rfl⟩:=e2;split at h;rename_i l' vk;simp only[bG]at h;subst h;have h1:=hr.1;cases h1;have ih:∀y:Int,vs=qG (some (pre++y::l')) (pre.length+1) ks:=λy=>by
      have ih:=I9 ks cs l' vs (pre++[y]) vk hr.2;rw[show pre++[y]++l'=pre++y::l' by simp,show(pre++[y]).length=pre.length+1 by simp]at ih;exact ih
    rw[ih (match b with|true=>1|false=>0)];cases b<;>simp[qG,cellV,sD];cases h;cases h
theorem zmG{xC:Bool}{ks:List (Option IntKind)}{dv:D1}{l:List Int}{v:Value}(h:tV ks dv.cells=some l)(xk:dv.isAgg=xC)(hv:zS g dv v):v=lI xC ks (some l):=by
 subst xk;cases dv with
 | c x =>
  have:=I9 (g:=g) ks [x] l [v] [] h ⟨hv,trivial⟩;simp only[NW,X6]at this;simp only[D1.isAgg,lI,<- this,qd9]
 | agg cs =>
  obtain⟨vs,rfl,hr⟩:=hv;have:=I9 (g:=g) ks cs l vs [] h hr;simp only[NW,X6]at this;simp only[D1.isAgg,lI,<- this]
theorem zaO {kt vt m : Nat} {ag : KF} {xC : Bool} {ks : List (Option IntKind)} (E : zmF P kt vt ag m xC ks) {es : Array MapEntry} {en : List (List Int × List Int)} (hen : es.toList.map (fun e => (e.key, e.val)) = en.map (fun x => (eF ag x.1, lI xC ks (some x.2))))
    (hl : ∀ x ∈ en, x.1.length = m) (hn : (en.map (·.1)).Nodup) {c : List Int} (hc : c.length = m) :
      ((Instr.findKey kt (eF ag c) es.toList).run P w=.ok none w/\nD c en=none/\∀x∈en,x.1≠c) \/
      ∃(j:Nat)(e:MapEntry)(v:List Int),(Instr.findKey kt (eF ag c) es.toList).run P w=.ok (some (j,lI xC ks (some v))) w/\es[j]? = some e/\en[j]? = some (c,v)/\e.key=eF ag c/\nD c en=some v:=by
  have hk:es.toList.map (·.key)=en.map (λx=>eF ag x.1):=by
    have:=jF (List.map Prod.fst) hen;simpa [qdS,Function.comp_def]using this
  rcases run_findKey (w:=w) E.key hc es.toList en hk hl with⟨h1,h2⟩|⟨j,e,v,h1,h2,h3⟩
  exact .inl ⟨h1,KD h2,h2⟩;have h4:(es.toList.map (fun e=>(e.key,e.val)))[j]? = some (e.key,e.val):=by simp [h2]
  rw[hen]at h4;simp only[dq0,h3,OL,bG,fJ]at h4;exact .inr ⟨j,e,v,by rw[h1,<- h4.2],by simpa using h2,h3,h4.1.symm,KE hn h3⟩
theorem QN{kt vt:Nat}{q:MQ}(h:JD P kt vt=some q):zmF P kt vt q.1 q.2.1 q.2.2.1 q.2.2.2:=by
 obtain⟨ag,m,xC,ks⟩:=q;exact UO h
def zaP(q:MQ)(ok:Bool)(o:Option (List Int)):Value :=
 match ok with|true=>.tuple #[lI q.2.2.1 q.2.2.2 o,.bool o.isSome]|false=>lI q.2.2.1 q.2.2.2 o
theorem YA{t kt vt b:Nat}{q:MQ}{ok:Bool}{F:List Int→Option (List Int)}{k:Nat}{es:Array MapEntry}{clock:Nat}(hu:P.underlying t=some (.map kt vt))(E0:JD P kt vt=some q)
    (wZ:w.heap[b]? = some (.map es clock)) (hm:moE q k F es clock) {c:List Int} (hc:c.length=q.2.1) :
    (Instr.lookup t (.map (some b)) (eF q.1 c) ok).run P w=.ok (zaP q ok (F c)) w:=by
  obtain⟨en,M⟩:=hm;have E:=QN E0;have hck:=Ph (P:=P) (w:=w) es.isEmpty E.key hc;rw[M.find c hc];rcases zaO (w:=w) E M.ents (λx hx=>(M.len x hx).1) M.nodup hc with⟨h1,h2,_⟩|⟨j,e,v,h1,_,_,_,h2⟩
  rw [h2];simp only[Instr.lookup,Sem.run_bind,run_underlying hu,Result.andThen_ok,MapKept.run_getObj_map wZ,Sem.run_pure,hck,h1,E.zero w];cases ok<;>rfl;rw [h2];simp only[Instr.lookup,Sem.run_bind,run_underlying hu,Result.andThen_ok,MapKept.run_getObj_map wZ,Sem.run_pure,hck,h1];cases ok<;>rfl
theorem zdf{o:Oper}{t:TypeId}{x y:Operand}{q:MQ}{ok:Bool}{A:aA}{F:List Int→Option (List Int)}{fin:DV→aA}{fp:List (Nat×Bool)}(S:bK P nt B w0 h0 g σ a w)(hd:dA nt o.dst=true)(aU:o.op = .lookup t x y ok)
    (hA:found q (dW σ.env y) ok F fin=A) (hs:A.safe) (pg:q.1=.one->q.2.1=1)
    (IQ:∀d,(fin d).safe->nJ (fin d) i o.dst σ (σ.upd i o.dst fp d [] []))
    (cu:∀c d,fin d=A->c.length=q.2.1->(Instr.lookup t (a.eval x) (eF q.1 c) ok).run P w=.ok (zaP q ok (F c)) w) :
    iZ P nt B w0 h0 r n i o A σ a w Q:=by
  unfold found at hA;split at hA;rename_i c hc;obtain⟨Ql,zN⟩:=zgu hc pg (S.ev y);split at hA
  · rename_i d hdv;have hvd:=zu8 (g:=g) hdv;have zK:=UN hdv;cases ok with
    | true =>
      have hr:=cu c _ hA zN;subst hA;refine dE S hd (by simp[aU]) (d:=.tup [d,.c (.p (.bool (F c).isSome))]) (v:=zaP q true (F c)) (fp:=fp) (IQ _ hs) ?_ ?_ ?_;simp only[execOp,aU,Ql,Sem.run_bind,hr,Result.andThen_ok,Sem.run_pure];exact⟨[_,_],rfl,hvd,.bool _,trivial⟩;intro M hM;rw[show bQ (.tup [d,.c (.p (.bool (F c).isSome))])=dw d++([]++[])from rfl,zK]at hM;simp at hM
    | false =>
      have hr:=cu c _ hA zN;subst hA;refine dE S hd (by simp[aU]) (d:=.one d) (v:=zaP q false (F c)) (fp:=fp) (IQ _ hs) ?_ hvd ?_;simp only[execOp,aU,Ql,Sem.run_bind,hr,Result.andThen_ok,Sem.run_pure];intro M hM;simp[bQ,zK]at hM
  subst hA;exact hs.elim;subst hA;exact hs.elim
theorem YB{o:Oper}{t:TypeId}{x y:Operand}{ok:Bool}{A:aA}(S:bK P nt B w0 h0 g σ a w)(hd:dA nt o.dst=true)(aU:o.op = .lookup t x y ok)
    (hA:JE P t (dW σ.env x) (dW σ.env y) ok (lk σ.ay)=A) (hs:A.safe):iZ P nt B w0 h0 r n i o A σ a w Q:=by
  unfold JE at hA;split at hA;rename_i kt vt L hu hx;split at hA;rename_i q kt' vt' q' k F hE hL;split at hA;rename_i cO;obtain⟨rfl,rfl,rfl⟩:=cO;have E:=QN hE;obtain⟨xg,_⟩:=ig S hx;have xg:a.eval x=.map (some (oq (g.sv L))):=xg;obtain⟨es,clock,wZ,_,hm⟩:=S.obj L _ hL;exact zdf (fp:=[(L,false)]) S hd aU hA hs (I8 E.key) (λd _=>rfl) λc d _ hc=>by rw[xg];exact YA hu hE wZ hm hc
  subst hA;exact hs.elim;subst hA;exact hs.elim;subst hA;exact hs.elim
theorem Pi{c:List Int}(v:List Int):∀{en:List (List Int×List Int)},nD c en=none→∀c',nD c' (en++[(c,v)])=if c'=c then some v else nD c' en
  | [],_,c'=>by
    simp only[NW,nD];by_cases h:c=c';subst h;simp;rw[dM h,dM (λe=>h e.symm)]
  | (k,u)::r,hn,c'=>by
    simp only[nD]at hn;split at hn;cases hn;rename_i hkc;simp only[qdB,nD];by_cases h:k=c';subst h;rw[dH rfl,dH rfl,dM hkc];rw [dM h,dM h];exact Pi v hn c'
theorem Pj {c v v' : List Int} : ∀ {en : List (List Int × List Int)} {j : Nat}, (en.map (·.1)).Nodup → en[j]? = some (c, v) → ∀ c', nD c' (en.set j (c, v')) = if c' = c then some v' else nD c' en
  | [],j,_,h,_=>by simp at h
  | (k,u)::r,j,hn,h,c'=>by
    simp only[nU,qdc]at hn;cases j with
    | zero =>
      simp only[qdp,bG,fJ]at h;obtain⟨rfl,rfl⟩:=h;simp only[List.set_cons_zero,nD];by_cases h:k=c';subst h;simp;rw[dM h,dM (λe=>h e.symm),dM h]
    | succ j =>
      simp only[Yg]at h;have hkc:k≠c:=λe=>hn.1 (rY.2 ⟨_,Jy h,e.symm⟩);simp only[List.set_cons_succ,nD];by_cases h2:k=c';subst h2;rw[dH rfl,dH rfl,dM hkc];rw [dM h2,dM h2];exact Pj hn.2 h c'
theorem zaQ(c v:List Int)(F:List Int->Option (List Int))(x:List Int):lT c v F x=if x=c then some v else F x:=by
 unfold lT;by_cases h:x=c<;>simp[h]
theorem Fe:∀{ks:List (Option IntKind)}{cs:List Cl}{l:List Int},tV ks cs=some l→l.length=ks.length
  | [],[],l,h=>by simp[tV]at h;subst h;rfl
  | [],_::_,l,h=>by simp[tV]at h
  | k::ks,[],l,h=>by cases k<;>simp[tV]at h
  | k::ks,c::cs,l,h=>by
    unfold tV at h;split at h;rename_i e1 e2;cases e1;rename_i k' ks' k2 x r e1 e2;simp only[ES]at e1 e2;obtain⟨rfl,rfl⟩:=e1;obtain⟨rfl,rfl⟩:=e2;split at h;split at h;rename_i l' vk;simp only[bG]at h;subst h;simp[Fe vk];cases h;cases h;rename_i ks' b r e1 e2;simp only[ES]at e1 e2;obtain⟨rfl,rfl⟩:=e1;obtain⟨rfl,rfl⟩:=e2;split at h;rename_i l' vk;simp only[bG]at h;subst h;simp[Fe vk];cases h;cases h
theorem zdg{t kt vt b:Nat}{q:MQ}{F:List Int→Option (List Int)}{k:Nat}{es:Array MapEntry}{clock:Nat}(hu:P.underlying t=some (.map kt vt))(E0:JD P kt vt=some q)
    (wZ:w.heap[b]? = some (.map es clock)) (hm:moE q k F es clock) {c:List Int} (hc:c.length=q.2.1) (l:List Int) (hll:l.length=q.2.2.2.length) :
    ∃es' BC,(Instr.mapUpdate t (.map (some b)) (eF q.1 c) (lI q.2.2.1 q.2.2.2 (some l))).run P w=.ok () {w with heap:=w.heap.setIfInBounds b (.map es' BC)}/\moE q (addN (F c) k) (lT c l F) es' BC:=by
  obtain⟨ag,m,xC,ks⟩:=q;obtain⟨en,h1',h2',hen,hl,hn,hF,jw,hbo,hbn⟩:=hm;simp only at h1' h2' hen hl hn hF hc hll ⊢;have E:=UO E0;have hck:=Ph (P:=P) (w:=w) false E.key hc;rcases zaO (w:=w) E hen (λx hx=>(hl x hx).1) hn hc with⟨h1,h2,h3⟩|⟨j,e,v,h1,h2,h3,h4,h5⟩
  refine⟨es.push {key:=eF ag c,val:=lI xC ks (some l),born:=clock},clock+1,?_,en++[(c,l)],h1',h2',?_,?_,?_,?_,?_,?_,?_⟩;simp only[Instr.mapUpdate,Sem.run_bind,run_underlying hu,Result.andThen_ok,MapKept.run_getObj_map wZ,hck,h1,MapKept.run_setObj_map _ wZ];rw[qj6,TR,hen,TR];rfl;intro x hx;rcases dG.1 hx with hx|hx
  exact hl x hx;simp only[kK]at hx;subst hx;exact⟨hc,hll⟩;rw [TR,qjJ];refine⟨hn,by simp,λa ha b hb e=>?_⟩;simp only[nU,qdR,kK]at hb;obtain⟨x,hx,hxa⟩:=rY.1 ha;exact h3 x hx (by rw[hxa,e,hb]);intro c' hc';rw[zaQ,Pi l h2,hF c' hc'];rw[hF c hc,h2,jw];simp[addN];intro x hx;rw[qj6]at hx;rcases dG.1 hx with hx|hx
  exact Nat.lt_succ_of_lt (hbo x hx);simp only[kK]at hx;subst hx;exact Nat.lt_succ_self _;rw [qj6,TR,qjJ];refine⟨hbn,by simp,λa ha b hb e=>?_⟩;simp only[nU,qdR,kK]at hb;obtain⟨x,hx,hxa⟩:=rY.1 ha;have:=hbo x hx;omega;have zlq:(es.modify j λe=>{e with key:=eF ag c,val:=lI xC ks (some l)}).toList=es.toList.set j {e with key:=eF ag c,val:=lI xC ks (some l)}:=by
    rw[Array.toList_modify];have h2':es.toList[j]? = some e:=by simpa using h2
    obtain⟨hj,he⟩:=ER.1 h2';apply dq5;intro q;rw[List.getElem?_modify,qjI];by_cases hq:j=q;subst hq;rw[h2'];have oM:j<es.size:=by simpa using hj
    simp[oM];simp[hq]
  have zRF:es.toList.map (λe=>(e.key,e.val))=en.map (λx=>(eF ag x.1,lI xC ks (some x.2))):=hen;refine⟨es.modify j λe=>{e with key:=eF ag c,val:=lI xC ks (some l)},clock,?_,en.set j (c,l),h1',h2',?_,?_,?_,?_,?_,?_,?_⟩;have zR7:((es[j]?).map (·.key)).getD (eF ag c)=eF ag c:=by rw [h2];simp [h4]
  have IQ:(Instr.keyThatStays (eF ag c) (eF ag c)).run P w=.ok (eF ag c) w:=by
    simp[Instr.keyThatStays,Yz]
  simp only[Instr.mapUpdate,Sem.run_bind,run_underlying hu,Result.andThen_ok,MapKept.run_getObj_map wZ,hck,h1,zR7,IQ,MapKept.run_setObj_map _ wZ];rw[zlq,qj8,qj8,zRF];intro x hx;rcases dq3 hx with hx|rfl
  exact hl x hx;exact⟨hc,hll⟩;rw [qj8];rw[show(en.map (·.1)).set j c=en.map (·.1)from ?_];exact hn;have:(en.map (·.1))[j]? = some c:=by simp [h3]
  obtain⟨hj,he⟩:=ER.1 this;apply dq5;intro q;rw[qjI];by_cases hq:j=q;subst hq;rw[this];simp;simpa using hj;simp[hq];intro c' hc';rw[zaQ,Pj hn h3,hF c' hc'];rw[hF c hc,h5,List.length_set,jw];rfl;intro x hx;rw[zlq]at hx;rcases dq3 hx with hx|rfl
  exact hbo x hx;exact hbo e (Jy (by simpa using h2));rw [zlq,qj8];rw[show(es.toList.map (·.born)).set j e.born=es.toList.map (·.born)from ?_];exact hbn;have:(es.toList.map (·.born))[j]? = some e.born:=by simp [h2]
  obtain⟨hj,he⟩:=ER.1 this;apply dq5;intro q;rw[qjI];by_cases hq:j=q;subst hq;rw[this];simp;simpa using hj;simp[hq]
theorem zdh{o:Oper}{t:TypeId}{x y z:Operand}{A:aA}(S:bK P nt B w0 h0 g σ a w)(hd:dA nt o.dst=true)(aU:o.op = .mapUpdate t x y z)
    (hA:Ui P t (dW σ.env x) (dW σ.env y) (dW σ.env z) (lk σ.ay)=A) (hs:A.safe):iZ P nt B w0 h0 r n i o A σ a w Q:=by
  unfold Ui at hA;split at hA;rename_i kt vt L hu hx;split at hA;rename_i q kt' vt' q' k F hE hL;split at hA;rename_i c dv hc hz;split at hA;rename_i l hl;split at hA;rename_i cO;obtain⟨rfl,rfl,rfl,xk⟩:=cO;subst hA;have E:=QN hE;obtain⟨xg,_⟩:=ig S hx;have xg:a.eval x=.map (some (oq (g.sv L))):=xg;obtain⟨Ql,zN⟩:=zgu hc (I8 E.key) (S.ev y);have Gx:a.eval z=lI q'.2.2.1 q'.2.2.2 (some l):=zmG hl xk (by have:=S.ev z;rw[hz]at this;exact this);obtain⟨es,clock,wZ,_,hm⟩:=S.obj L _ hL;obtain⟨es',BC,cu,Ju⟩:=zdg (P:=P) hu hE wZ hm zN l (Fe hl);have jv:=(X5.1 wZ).1;have hB:=(S.own L _ (oq (g.sv L)) hL rfl).1;refine I4 (by simp[aU]) (w':={w with heap:=w.heap.setIfInBounds (oq (g.sv L)) (.map es' BC)}) ?_ ⟨g,_,rfl,?_⟩;simp only[execOp,aU,xg,Ql,Gx,Sem.run_bind,cu,Result.andThen_ok,Sem.run_pure];rw [fG];have qo:∀b,¬(oq (g.sv L)=b)->(w.heap.setIfInBounds (oq (g.sv L)) (Obj.map es' BC))[b]? = w.heap[b]?:=λb hb=>by rw[qdZ,dM hb]
  have S' := S.write (o' := .mo kt' vt' q' (addN (F c) k) (lT c l F)) (w' := { w with heap := w.heap.setIfInBounds (oq (g.sv L)) (.map es' BC) }) hL (fun b hb => hb)
    (BZ hB (by simp) (λq hq=>qo q λe=>hq e.symm) rfl rfl rfl rfl) (λb hb=>qo b hb)
    ⟨es',BC,by show(w.heap.setIfInBounds (oq (g.sv L)) _)[oq (g.sv L)]? = _;simp[jv],hE,Ju⟩ (λM hM=>by simp[dJ]at hM)
  exact S'.put (d:=.junk) hd trivial (λM hM=>by simp[bQ,dw,aY]at hM) _;subst hA;exact hs.elim;subst hA;exact hs.elim;subst hA;exact hs.elim;subst hA;exact hs.elim;subst hA;exact hs.elim
theorem bK.newMo(S:bK P nt B w0 h0 g σ a w){t kt vt:Nat}{q:MQ}(ht:lk σ.ay t=none)(hE:JD P kt vt=some q) :
  bK P nt B w0 h0 (g.setSv t (.map (some w.heap.size))) {σ with ay:=(t,.mo kt vt q 0 (λ_=>none))::σ.ay} a (w.alloc (.map #[] 0)):=by
 have iK:∀L o,lk σ.ay L=some o->L≠t:=λL o h e=>by subst e;rw[ht]at h;cases h
 have ed:∀L o,lk σ.ay L=some o->iO g (g.setSv t (.map (some w.heap.size))) L:=λL o h=>⟨rfl,by simp[Gh.setSv,iK L o h],rfl⟩;have hold:∀b,b<w.heap.size->(w.alloc (.map #[] 0)).heap[b]? = w.heap[b]?:=λb hb=>heap_alloc_old w _ b hb;have jU:∀L o,lk ((t,AO.mo kt vt q 0 (λ_=>none))::σ.ay) L=some o->(L=t/\o=.mo kt vt q 0 (λ_=>none))\/(L≠t/\lk σ.ay L=some o):=by
  intro L o h;rw[aS]at h;split at h;rename_i e;simp at h;exact .inl ⟨e.symm,h.symm⟩;rename_i e;exact .inr ⟨λe'=>e e'.symm,h⟩
 have gU:∀L o b,lk σ.ay L=some o->gy (g.setSv t (.map (some w.heap.size))) L o b->gy g L o b:=λL o b ho bT=>Eq.mp (qj0 (fV (ed L o ho)) _) bT;refine S.change (g':=g.setSv t (.map (some w.heap.size))) ed (λ_ _ h=>h) ?_ (λb o h=>.inl h) (xE.of ⟨(Below.refl B w).alloc S.bs _,jy _⟩) ?_ ?_ ?_ ?_ ?_;exact S.hw.same λb o h=>hold b (uj S.hw h);intro L o ho;rcases jU L o ho with⟨rfl,rfl⟩|⟨_,ho⟩
 have E:=QN hE;exact⟨#[],0,by rw[show oq ((g.setSv L (.map (some w.heap.size))).sv L)=w.heap.size by simp[Gh.setSv,oq]];exact heap_alloc_new w _,hE,[],I8 E.key,E.one,rfl,λx hx=>by simp at hx,qjC,λc _=>rfl,rfl,λe he=>by simp at he,by simp⟩;refine jH (S.obj L o ho) (ed L o ho) (fun M hM => ?_) (fun _ _ h=>h) (fun b bT=>hold b (gZ (S.obj L o ho) bT));obtain⟨o',kN⟩:=S.clO L o ho M hM;exact ed M o' kN;intro L o b ho bT;rcases jU L o ho with⟨rfl,rfl⟩|⟨_,ho⟩
 ·simp [gy,Gh.setSv,oq]at bT;subst bT;refine⟨S.bs,?_⟩;cases hh:g.h w.heap.size with|none=>exact hh|some x=>exact absurd (uj S.hw hh) omY
 exact S.own L o b ho (gU L o b ho bT);intro L o b L' o' ho kN bT fP;rcases jU L o ho with⟨rfl,rfl⟩|⟨hn,pz⟩<;>rcases jU L' o' kN with⟨rfl,rfl⟩|⟨hn',mZ⟩
 rfl;simp [gy,Gh.setSv,oq]at bT;subst bT;exact absurd (gZ (S.obj L' o' mZ) (gU _ _ _ mZ fP)) omY;simp [gy,Gh.setSv,oq]at fP;subst fP;exact absurd (gZ (S.obj L o pz) (gU _ _ _ pz bT)) omY;exact S.sep L o b L' o' pz mZ (gU _ _ _ pz bT) (gU _ _ _ mZ fP);intro L o ho;refine⟨o,?_⟩;rw[aS,dM (λe=>iK L o ho e.symm)];exact ho;intro L o ho M hM;have fin:∀M o,lk σ.ay M=some o->∃o',lk ((t,AO.mo kt vt q 0 (λ_=>none))::σ.ay) M=some o':=λM o h=>⟨o,by rw[aS,dM (λe=>iK M o h e.symm)];exact h⟩;rcases jU L o ho with⟨rfl,rfl⟩|⟨_,ho⟩
 simp[dJ]at hM;obtain⟨o',kN⟩:=S.clO L o ho M hM;exact fin M o' kN
theorem YC{o:Oper}{t kt vt:TypeId}{q:MQ}{A:aA}(S:bK P nt B w0 h0 g σ a w)(hd:dA nt o.dst=true)(aU:o.op = .makeMap t none)(hE:JD P kt vt=some q)
    (hA:EW (lk σ.ay) o.dst (.mo kt vt q 0 (λ_=>none)) (λt=>.cl (.mo t))=A) (hs:A.safe):iZ P nt B w0 h0 r n i o A σ a w Q:=by
  unfold EW at hA;split at hA;rename_i L hL;split at hA;rename_i jU;subst hA;have S':=S.newMo (kt:=kt) (vt:=vt) jU hE;refine oW (by simp[aU]) (v:=.map (some w.heap.size)) (w':=w.alloc (.map #[] 0)) ?_ ⟨g.setSv L (.map (some w.heap.size)),_,rfl,?_⟩;simp[execOp,aU,Instr.makeMap];rw [fG];refine S'.put (σ:={σ with ay:=(L,AO.mo kt vt q 0 (λ_=>none))::σ.ay}) hd (d:=.cl (.mo L)) ?_ ?_ _;simp[qH,zS,iV,Gh.setSv,oq];intro M hM;simp[bQ,dw,aY]at hM;subst hM;exact⟨_,by rw[aS,dH rfl]⟩;subst hA;exact hs.elim;subst hA;exact hs.elim
end
end Go.Pm
namespace Go.Pm
variable [aG]
open Go.RowKit (Below)
section
variable{P:Program}{Γ:bM}{nt B:Nat}{w0:World}{h0:Fz}{g:Gh}{σ:St}{a:Act}{w:World}{r:Option Nat}{n i:Nat}{Q:Exit->Act->World->Prop}
theorem zgv{h:Fz}{n s l k:Nat}{get:Nat→List PV}{v:Value}(hr:Rep h (.sl n s get) v)(hl:l≤k)(hk:k≤n) :
  ∃a len cap,v=.slice a len cap/\len=n/\len<=cap/\Rep h (.sl (k-l) s (slG get l)) (sliced a l k cap s):=by
 have hu:tX get:=hr.un.rows.2;cases hr with
 | sl0=>exact⟨none,0,0,rfl,rfl,jy _,by
   obtain rfl:k=0:=by omega
   obtain rfl:l=0:=by omega
   exact .sl0 _ _ (vH hu _)⟩
 | sle _ _ a cap=>exact⟨some a,0,cap,rfl,rfl,xn _,by
   obtain rfl:k=0:=by omega
   obtain rfl:l=0:=by omega
   unfold sliced;split;exact .sle _ _ _ _ (vH hu _);exact .sle _ _ _ _ (vH hu _)⟩
 | sl _ _ _ _ b o cap C ty fr vs hb jV hlen hc hr =>
  refine⟨_,n,cap,rfl,rfl,jV,?_⟩;unfold sliced;by_cases hkl:k-l=0;rw [hkl];split;exact .sle _ _ _ _ (vH hu _);exact .sle _ _ _ _ (vH hu _);rw [dM omY];simp only[OL,addr_add];refine .sl (k-l) s (slG get l) (vH hu _) b (o+l*s) (cap-l) C ty fr (λi=>vs (i+l)) hb omY (λi hi=>hlen (i+l) omY) (λi j x hi hj=>?_) (λi j x hi hj=>hr (i+l) j x omY hj);have:=hc (i+l) j x omY hj;rw[Nat.add_mul]at this;rw[show o+l*s+i*s+j=o+(i*s+l*s)+j by omega];exact this
theorem UQ(S:bK P nt B w0 h0 g σ a w){x:Option Operand}{j:Option Int}(h:EU (dW σ.env) x=some j):(j=none/\x.map a.eval=none)\/∃k q,j=some q/\x.map a.eval=some (.int k q):=by
 cases x with
 | none=>simp only[EU,bG]at h;exact .inl ⟨h.symm,rfl⟩
 | some x =>
  simp only[EU]at h;split at h;rename_i k q hx;simp only[bG]at h;exact .inr ⟨k,q,h.symm,by rw[OL,jR S hx]⟩;cases h
theorem zdi{o:Oper}{t:TypeId}{x:Operand}{lo hi:Option Operand}{A:aA}(S:bK P nt B w0 h0 g σ a w)(hd:dA nt o.dst=true)(aU:o.op = .slice t x lo hi none)
    (hA:BL P t (dW σ.env x) (EU (dW σ.env) lo) (EU (dW σ.env) hi)=A) (hs:A.safe):iZ P nt B w0 h0 r n i o A σ a w Q:=by
  unfold BL at hA;split at hA;rename_i e m s get lo' mV hu hx hlo hhi;split at hA;rename_i q hq;split at hA;rename_i hb;have hsq:=kY hb;subst hsq;subst hA;obtain⟨h1,h2,h3⟩:0<=lo'.getD 0/\lo'.getD 0<=mV.getD (m:Int)/\mV.getD (m:Int)<=(m:Int):=hs;have hv:=jl S hx;obtain⟨ad,len,cap,hav,hlen,jV,hr⟩:=zgv (l:=(lo'.getD 0).toNat) (k:=(mV.getD (m:Int)).toNat) hv omY omY;subst hlen;have hue:P.underlying t=some (.slice (P.elem t)):=by simp[Program.elem,hu]
  have IU:P.elem t=e:=by simp[Program.elem,hu]
  have jw:=run_sizeOf (w:=w) hq;have cu:(Instr.slice t (a.eval x) (lo.map a.eval) (hi.map a.eval) none).run P w=.ok (sliced ad (lo'.getD 0).toNat (mV.getD (len:Int)).toNat cap s) w:=by
    rw[hav,run_slice_any w t ad len cap hue,IU];have hb:(Instr.sliceBounds true len cap (lo.map a.eval) (hi.map a.eval) none).run P w=.ok ((lo'.getD 0).toNat,(mV.getD (len:Int)).toNat,cap) w:=by
      rcases UQ S hlo with⟨rfl,e1⟩|⟨k1,q1,rfl,e1⟩<;>rcases UQ S hhi with⟨rfl,e2⟩|⟨k2,q2,rfl,e2⟩<;>rw[e1,e2]<;>simp only[qdI,Option.getD_none]at h1 h2 h3 ⊢
      simp[Instr.sliceBounds];simp[Instr.sliceBounds,run_sliceBound w k2 q2 cap _ omY omY];simp[Instr.sliceBounds,run_sliceBound w k1 q1 len _ omY omY];simp[Instr.sliceBounds,run_sliceBound w k2 q2 cap _ omY omY,run_sliceBound w k1 q1 q2.toNat _ omY omY]
    rw[hb];simp only[Result.andThen_ok,jw]
  refine dE S hd (by simp[aU]) (d:=.p (.sl (mV.getD (len:Int)-lo'.getD 0).toNat s (slG get (lo'.getD 0).toNat))) (v:=sliced ad (lo'.getD 0).toNat (mV.getD (len:Int)).toNat cap s) (fp:=[]) rfl ?_ ?_ (jZ _);simp[execOp,aU,Instr.sliceAt,run_underlying hu,cu];rw [show(mV.getD (len:Int)-lo'.getD 0).toNat=(mV.getD (len:Int)).toNat-(lo'.getD 0).toNat by omega];exact hr;subst hA;exact hs.elim;subst hA;exact hs.elim;subst hA;exact hs.elim
end
end Go.Pm
namespace Go.Pm
variable [aG]
open Go.RowKit (Below)
section
variable{P:Program}{Γ:bM}{nt B:Nat}{w0:World}{h0:Fz}{g:Gh}{σ:St}{a:Act}{w:World}{r:Option Nat}{n i:Nat}{Q:Exit->Act->World->Prop}
theorem bK.newObj(S:bK P nt B w0 h0 g σ a w){t:Nat}{o:AO}{g':Gh}{w':World}(ht:lk σ.ay t=none)(hh:g'.h=g.h)(hs:∀M,M≠t→iO g g' M)
    (hb:JW B w w') (hold:∀b,b<w.heap.size->w'.heap[b]? = w.heap[b]?) (hv:∀b,gy g' t o b->w.heap.size<=b) (zK:dJ o=[]) (hr:NS P g' w' B t o) :
    bK P nt B w0 h0 g' {σ with ay:=(t,o)::σ.ay} a w':=by
  have iK:∀L o,lk σ.ay L=some o->L≠t:=λL o h e=>by subst e;rw[ht]at h;cases h
  have ed:∀L o,lk σ.ay L=some o->iO g g' L:=λL o h=>hs L (iK L o h);have jU:∀L x,lk ((t,o)::σ.ay) L=some x->(L=t/\x=o)\/(L≠t/\lk σ.ay L=some x):=by
    intro L x h;rw[aS]at h;split at h;rename_i e;simp at h;exact .inl ⟨e.symm,h.symm⟩;rename_i e;exact .inr ⟨λe'=>e e'.symm,h⟩
  have gU:∀L o b,lk σ.ay L=some o->gy g' L o b->gy g L o b:=λL o b ho bT=>Eq.mp (qj0 (fV (ed L o ho)) _) bT;have hle:jX g.h g'.h:=by rw[hh];exact λ_ _ h=>h
  refine S.change (g':=g') ed hle ?_ (λb o h=>by rw[hh]at h;exact .inl h) (.of hb) ?_ ?_ ?_ ?_ ?_;rw[hh];exact S.hw.same λb o h=>hold b (uj S.hw h);intro L x hx;rcases jU L x hx with⟨rfl,rfl⟩|⟨_,hx⟩
  exact hr;refine jH (S.obj L x hx) (ed L x hx) (fun M hM => ?_) hle (fun b bT=>hold b (gZ (S.obj L x hx) bT));obtain⟨o',kN⟩:=S.clO L x hx M hM;exact ed M o' kN;intro L x b' hx bT;rcases jU L x hx with⟨rfl,rfl⟩|⟨_,hx⟩
  · have h1:=hv b' bT;refine⟨BH S.bs h1,?_⟩;rw[hh];cases hq:g.h b' with|none=>rfl|some x=>exact absurd (uj S.hw hq) omY
  rw[hh];exact S.own L x b' hx (gU L x b' hx bT);intro L x b' L' x' hx xH bT fP;rcases jU L x hx with⟨rfl,rfl⟩|⟨hn,hx2⟩<;>rcases jU L' x' xH with⟨rfl,rfl⟩|⟨hn',Yu⟩
  rfl;have:=hv b' bT;exact absurd (gZ (S.obj L' x' Yu) (gU _ _ _ Yu fP)) omY;have:=hv b' fP;exact absurd (gZ (S.obj L x hx2) (gU _ _ _ hx2 bT)) omY;exact S.sep L x b' L' x' hx2 Yu (gU _ _ _ hx2 bT) (gU _ _ _ Yu fP);intro L o ho;refine⟨o,?_⟩;rw[aS,dM (λe=>iK L o ho e.symm)];exact ho;intro L x hx M hM;rcases jU L x hx with⟨rfl,rfl⟩|⟨_,hx⟩
  rw[zK]at hM;simp at hM;obtain⟨o',kN⟩:=S.clO L x hx M hM;exact⟨o',by rw[aS,dM (λe=>iK M o' kN e.symm)];exact kN⟩
theorem Pn{z:Array Value}{s m i:Nat}(hz:z.size=s)(hi:i<m):((madeCells z (m*s)).toList.drop (i*s)).take s=z.toList:=by
 have hii:i*s+s<=m*s:=by have:=Qs s (qdf hi);rw[Qv]at this;exact this
 apply dq5;intro j;rw[IV];split;rename_i hj;rw[dqX];have:(madeCells z (m*s)).toList[i*s+j]? = some z[(i*s+j)%z.size]!:=by
  simp only[madeCells,qjh,dq0];rw[Array.toList_range,qjr omY];rfl
 rw[this,hz,qdz i s,jqg,jqd hj];have oM:j<z.size:=by omega
 simp[oM];rename_i hj;rw[dq7 (by simp;omega)]
theorem Oe{o:Oper}{t:TypeId}{x y:Operand}{A:aA}(S:bK P nt B w0 h0 g σ a w)(hd:dA nt o.dst=true)(aU:o.op = .makeSlice t x y)
    (hA:rF P Γ t (dW σ.env x) (dW σ.env y) o.dst (lk σ.ay)=A) (hs:A.safe):iZ P nt B w0 h0 r n i o A σ a w Q:=by
  unfold rF at hA;split at hA
  · rename_i e k1 j k2 j2 dst hu hx hy Gw;split at hA
    · rename_i ie z hi hz gB;obtain⟨i',zv,hi2,Gx,hov,hlen⟩:=lF hz;rw[hi] at hi2;simp only[bG] at hi2;subst hi2;have zJ:zv.cells.size=ie.size:=by have:=(kE (g:=g) _ _ hov).length;simp at this;omega
      have xg:=jR S hx;have Ql:=jR S hy
      have made:∀(hs:0<=j/\j=j2/\j<=1000000)(yO:ie.bytes<=1000000),∃w',(execOp a.eval o).run P w=.ok (.value (.slice (some ⟨w.heap.size,0,none⟩) j.toNat j.toNat)) w' /\
          w'.ownsRow B e ie.size (.slice (some ⟨w.heap.size,0,none⟩) j.toNat j.toNat) j.toNat (madeCells zv.cells (j.toNat*ie.size)).toList/\JW B w w'/\∀b,b<w.heap.size->w'.heap[b]? = w.heap[b]?:=by
        intro hs yO;obtain⟨h0,rfl,h1⟩:=hs;have hj:j=((j.toNat:Nat):Int):=by omega
        have hmul:ie.bytes*j.toNat<=281474976710656:=BH (qjF yO (show j.toNat<=1000000 by omega)) (by decide);obtain⟨w',hr,iU,hg⟩:=run_make_full (P:=P) w B t e ie zv ie.size hu hi Gx rfl k1 k2 j.toNat hmul (by simp only[maxLen];omega) S.bs;refine⟨w',?_,iU,⟨⟨hg.os,hg.tape,hg.output,hg.size,λk hk=>hg.block k (qdi hk S.bs) (by simp)⟩,JV (fZ _ _ _ _ hr)⟩,λb hb=>hg.block b hb (by simp)⟩;rw[<- hj]at hr;simp only[execOp,aU,xg,Ql,Sem.run_bind,hr,Result.andThen_ok,Sem.run_pure]
      split at hA
      · split at hA
        · rename_i e2 hue;split at hA
          · rename_i i2 z2 zCB zH2 cO;simp only[fH,Ud] at cO;have hs1:=kY cO.1;split at hA
            · rename_i l2 hl2 Ub;have zCC:0 < i2.size:=qjK (qdJ Ub);subst hA;obtain⟨w',cu,iU,qV,hold⟩:=made hs cO.2;obtain⟨i3,zv2,hi3,zKW,zKX,zUL⟩:=lF zH2;rw[zCB] at hi3;simp only[bG] at hi3;subst hi3;have zva:zv2.cells.size=i2.size:=by have:=(kE (g:=g) _ _ zKX).length;simp at this;omega
              have lQ:(g.setVv dst (.slice (some ⟨w.heap.size,0,none⟩) j.toNat j.toNat) (λ_=>.slice none 0 0)).sv dst=.slice (some ⟨w.heap.size,0,none⟩) j.toNat j.toNat:=by simp[Gh.setVv]
              have hiv:(g.setVv dst (.slice (some ⟨w.heap.size,0,none⟩) j.toNat j.toNat) (λ_=>.slice none 0 0)).iv dst=λ_=>.slice none 0 0:=by simp[Gh.setVv]
              have hz1:zv.cells.toList=[.slice none 0 0]:=by
                match hl:zv.cells.toList,hov with
                | [],h=>simp[jf]at h
                | [v],h =>
                  simp only[jf]at h;split at h;rename_i x' l' h1 h2;simp only[bG]at h2;subst h2;simp only[bG,ES,Cl.p.injEq,qj1]at h;subst h;unfold vG at h1;split at h1<;>simp at h1;rfl;cases h
                | v::u::l,h =>
                  simp only[jf]at h;split at h;rename_i x' l' h1 h2;simp only[bG,ES]at h;obtain⟨_,rfl⟩:=h;split at h2;simp at h2;cases h2;cases h
              have S2 := S.newObj (t := dst) (o := .vv e ie.bytes e2 i2.size i2.bytes j.toNat (fun _ => 0) (fun _ _ => l2)) (g' := g.setVv dst (.slice (some ⟨w.heap.size, 0, none⟩) j.toNat j.toNat) (fun _ => .slice none 0 0)) (w' := w')
                gB rfl (λM hM=>⟨rfl,by simp[Gh.setVv,hM],by simp[Gh.setVv,hM]⟩) qV hold (λb hb=>by
                  rcases hb with hb|⟨i,_,hb⟩
                  rw[lQ]at hb;simp only[Value.ownBlock,bG]at hb;omega;rw[hiv]at hb;cases hb) rfl (by
                refine⟨⟨λ_ _ _ _=>IY zH2 hl2,zCC⟩,⟨ie,zv,hi,hs1,rfl,Gx,by rw[zJ,hs1]⟩,⟨i2,zv2,zCB,rfl,rfl,zKW,zva⟩,?_,λi mV=>?_,λi k _ h=>?_⟩
                rotate_left
                rw[hiv];exact⟨rfl,λ_=>rfl,[],World.ownsRow_nil _ _ _ _,λ_ h=>absurd h (dq8 _)⟩;rw[hiv]at h;cases h;rw[lQ,hiv];rw[hs1]at iU;have:(madeCells zv.cells (j.toNat*1)).toList=(List.range j.toNat).map λ_=>Value.slice none 0 0:=by
                  apply dq5;intro q;by_cases hq:q<j.toNat;have h1:=Pn (z:=zv.cells) (s:=1) (by rw [zJ,hs1]) hq;have h2:=jF (λl=>l[0]?) h1;simp only[IV,dqX]at h2;rw[dH (by decide)]at h2;simp only[qjW,qdQ]at h2;rw[qjW,h2,hz1];simp[hq];rw[dq7 (by simp[madeCells];omega),dq7 (by simp;omega)]
                rw[this]at iU;exact iU)
              refine oW (by simp[aU]) cu ⟨g.setVv dst (.slice (some ⟨w.heap.size,0,none⟩) j.toNat j.toNat) (λ_=>.slice none 0 0),_,rfl,?_⟩;rw[fG];refine S2.put (v:=.slice (some ⟨w.heap.size,0,none⟩) j.toNat j.toNat) hd (d:=.cl (.vec dst)) ⟨lQ.symm,rfl⟩ ?_ _;intro M hM;simp[bQ,dw,aY]at hM;subst hM;exact⟨_,by rw[aS,dH rfl]⟩
            subst hA;exact hs.elim
          subst hA;exact hs.elim
        subst hA;exact hs.elim
      split at hA;rename_i l hl;split at hA;rename_i cO;simp only[fH,Ud]at cO;subst hA;obtain⟨w',cu,iU,qV,hold⟩:=made hs cO.2;have lQ:(g.setSv dst (.slice (some ⟨w.heap.size,0,none⟩) j.toNat j.toNat)).sv dst=.slice (some ⟨w.heap.size,0,none⟩) j.toNat j.toNat:=by simp[Gh.setSv]
      have nG:=kE (g:=g) _ _ hov;rw[nM hl]at nG;have nG:=RL.map_left.1 nG
      have S2 := S.newVec (t := dst) (w' := w') (e := e) (s := ie.size) (b := ie.bytes) (n := j.toNat) (get := fun _ => zB P e l) (v := .slice (some ⟨w.heap.size, 0, none⟩) j.toNat j.toNat) gB qV hold
        (λb hb=>by simp[Value.ownBlock]at hb;omega) ⟨⟨JL (xN (uf nG)),omY⟩,⟨ie,zv,hi,rfl,rfl,Gx,zJ⟩,_,by rw[lQ];exact iU,λi mV=>by rw[Pn zJ mV];exact uf nG⟩
      refine oW (by simp[aU]) cu ⟨g.setSv dst (.slice (some ⟨w.heap.size,0,none⟩) j.toNat j.toNat),_,rfl,?_⟩;rw[fG];refine S2.put (v:=.slice (some ⟨w.heap.size,0,none⟩) j.toNat j.toNat) hd (d:=.cl (.vec dst)) ⟨lQ.symm,rfl⟩ ?_ _;intro M hM;simp[bQ,dw,aY]at hM;subst hM;exact⟨_,by rw[aS,dH rfl]⟩;subst hA;exact hs.elim;subst hA;exact hs.elim
    subst hA;exact hs.elim
  subst hA;exact hs.elim
end
end Go.Pm
namespace Go.Pm
variable [aG]
open Go.RowKit (Below)
section
variable{P:Program}{Γ:bM}{nt B:Nat}{w0:World}{h0:Fz}{g:Gh}{σ:St}{a:Act}{w:World}{r:Option Nat}{n i:Nat}{Q:Exit->Act->World->Prop}
theorem Po{h:Fz}{x:PA}{v:Value}(hx:pJ h x v):zS ⟨h,g.bk,g.sv,g.iv⟩ (NZ x) v:=by
 cases x with
 | one p=>exact hx
 | agg cs =>
  obtain⟨vs,rfl,hr⟩:=hx;exact⟨vs,rfl,RL.map_left.2 hr⟩
theorem QO{h:Fz}{rs:List PA}{v:Value}(hr:pU h rs v):qH ⟨h,g.bk,g.sv,g.iv⟩ (resD rs) v:=by
 have tup:∀l:List PA,(∃vs:List Value,v=.tuple vs.toArray/\RL (pJ h) l vs)->qH ⟨h,g.bk,g.sv,g.iv⟩ (.tup (l.map NZ)) v:=by
  rintro l ⟨vs,hv,hr2⟩;exact⟨vs,hv,RL.map_left.2 (RL.mono hr2 λ_ _ h=>Po h)⟩
 match rs,hr with|[],hr=>exact tup _ hr|[x],hr=>exact Po hr|x::y::l,hr=>exact tup _ hr
theorem yS(x:PA):dw (NZ x)=[]:=by
 cases x with|one p=>rfl|agg cs=>exact nK cs
theorem Cc(rs:List PA):bQ (resD rs)=[]:=by
 have tup:∀l:List PA,bQ (.tup (l.map NZ))=[]:=by
  intro l
  induction l with|nil=>rfl|cons x l ih=>simp only[nU,bQ,lX,yS,NW]at ih ⊢;exact ih
 match rs with|[]=>exact tup _|[x]=>exact yS x|x::y::l=>exact tup _
theorem dN{f:FuncId}{args:Array Value}(h:df P f):(callFunc f args).run P w=.ok (.enter f args) w:=by
 obtain⟨fn,h1,h2,h3⟩:=h;have h2':fn.body.isNone=false:=by simpa using h2
 simp only[callFunc,Sem.run_bind,run_program,Result.andThen_ok,h1,h3,h2',qdm,qd2,Sem.run_pure]
theorem Ce(S:bK P nt B w0 h0 g σ a w):∀(l:List Operand),RL (qH g) (l.map (dW σ.env)) (l.map a.eval)|[]=>trivial|x::r=>⟨S.ev x,Ce S r⟩
theorem YD{h:Fz}{l:List PV}{vs:List Value}(hr:RL (Rep h) l vs):RL (pJ h) (l.map .one) vs:=RL.map_left.2 hr
theorem KG{h:Fz}{l:List PV}{vs:List Value}(h1:l.length=vs.length)(h2:∀(j:Nat)(x:PV)(v:Value),l[j]? = some x->vs[j]? = some v->Rep h x v):RL (Rep h) l vs:=RL.of_get h1 h2
theorem bK.swap(S:bK P nt B w0 h0 g σ a w){u:List (Nat×AO)}{kl K:List Nat}{g':Gh}{w':World}(hle:jX g.h g'.h)(Jw:Hw g'.h w')(rX:∀M,g'.bk M=g.bk M)(hs:∀M,M∉kl→iO g g' M)
    (hkl:∀L∈kl,lk u L≠none) (hX:zgb g.h K w w') (hK:∀b∈K,∃L o o',lk u L=some o/\lk σ.ay L=some o'/\gy g L o' b)
    (hv:∀L o,lk u L=some o->NS P g' w' B L o) (bT:∀L o b,lk u L=some o->gy g' L o b->(b∈K\/w.heap.size<=b)/\g'.h b=none)
    (IP:∀L o b L' o',lk u L=some o->lk u L'=some o'->gy g' L o b->gy g' L' o' b->L=L')
    (zK:∀L o,lk u L=some o->∀M∈dJ o,∃o',lk σ.ay M=some o') (hnK:∀b o,g'.h b=some o->g.h b=some o\/w.heap.size<=b\/b∈K) (log:List (Nat×Nat×Nat)) :
    bK P nt B w0 h0 g' ⟨kills (fU kl) σ.env,u++kills (dO kl) σ.ay,log⟩ a w':=by
  have jU:∀M x,lk (u++kills (dO kl) σ.ay) M=some x->lk u M=some x\/(lk u M=none/\M∉kl/\∃o,lk σ.ay M=some o/\x=dO kl o):=by
    intro M x h;rw[gX]at h;cases hM:lk u M with
    | some y=>rw[hM]at h;exact .inl h
    | none =>
      rw[hM]at h;simp only[]at h;rw[ou]at h;obtain⟨o,ho,rfl⟩:=Yh.1 h;exact .inr ⟨rfl,λhk=>hkl M hk hM,o,ho,rfl⟩
  have xB:∀M o,lk σ.ay M=some o->∃x,lk (u++kills (dO kl) σ.ay) M=some x:=by
    intro M o h;rw[gX];cases lk u M with|some y=>exact⟨y,rfl⟩|none=>simp only[];rw[ou,h];exact⟨_,rfl⟩
  have Ky:∀M o,M∉kl->gy g' M (dO kl o)=gy g M o:=by
    intro M o iK;have:=hs M iK;funext k;cases o<;>simp[dO,gy,this.1,this.2.1,this.2.2]
  have hKB:∀b∈K,B<=b/\g.h b=none:=λb hb=>by
    obtain⟨L,_,o',_,h2,h3⟩:=hK b hb;exact S.own L o' b h2 h3
  have EI:∀M o k,lk u M=none->lk σ.ay M=some o->gy g M o k->k∉K:=λM o k h1 h2 h3 hk=>by
    obtain⟨L,x,o',h4,h5,h6⟩:=hK k hk;rw[S.sep M o k L o' h2 h5 h3 h6,h4]at h1;cases h1
  have hold:∀M o k,lk u M=none->lk σ.ay M=some o->gy g M o k->w'.heap[k]? = w.heap[k]?:=λM o k h1 h2 h3 =>
    hX.block k (gZ (S.obj M o h2) h3) (EI M o k h1 h2 h3)
  refine⟨S.dfr.mono hle,S.size,?_,?_,?_,?_,Jw,λb o h=>hle _ _ (S.le0 b o h),?_,S.below.trans ⟨hX.os,hX.tape,hX.output,hX.size,hX.drawn,λk hk=>hX.block k (qdi hk S.bs) (λhkK=>by have:=(hKB k hkK).1;omega)⟩,BH S.bs hX.size,?_,?_⟩;intro t d ht;rw[ou]at ht;obtain⟨d',fD,rfl⟩:=Yh.1 ht;exact zaM hle rX hs (S.env t d' fD);intro M x hx;rcases jU M x hx with hx|⟨hn,iK,o,ho,rfl⟩
  exact hv M x hx
  · have X0:∀k,gy g M o k→w'.heap[k]? = w.heap[k]? := fun k hk=>hold M o k hn ho hk;have hr:=S.obj M o ho;have hsM:=hs M iK;cases o with
    | box ty cs =>
      obtain⟨C,hC,hr⟩:=hr;exact⟨C,by rw[rX M,X0 _ rfl];exact hC,Cb hle rX hs hr⟩
    | _=>exact jH (o:=dO kl _) hr hsM (λL hL=>by simp[dJ,dO]at hL) hle X0
  intro M x k hx hk;rcases jU M x hx with hx|⟨hn,iK,o,ho,rfl⟩
  obtain⟨h1,h2⟩:=bT M x k hx hk;exact⟨h1.elim (λh=>(hKB k h).1) (λh=>BH S.bs h),h2⟩
  · rw [Ky M o iK]at hk;obtain⟨h1,h2⟩:=S.own M o k ho hk;refine⟨h1,?_⟩;cases hh:g'.h k with
    | none=>rfl
    | some y =>
      rcases hnK k y hh with h3|h3|h3
      rw[h2]at h3;cases h3;exact absurd (gZ (S.obj M o ho) hk) omY;exact(EI M o k hn ho hk h3).elim
  intro M x k M' x' hx xH hk je;have Qn:∀M o L y,lk u M=none->lk σ.ay M=some o->gy g M o k->lk u L=some y->gy g' L y k->False:=by
    intro M o L y hn ho hk hy je;rcases(bT L y k hy je).1 with h|h
    exact EI M o k hn ho hk h;exact absurd (gZ (S.obj M o ho) hk) omY
  rcases jU M x hx with hx|⟨hn,iK,o,ho,rfl⟩<;>rcases jU M' x' xH with xH|⟨hn',zfq,o2,pz,rfl⟩
  exact IP M x k M' x' hx xH hk je;rw [Ky M' o2 zfq]at je;exact(Qn M' o2 M x hn' pz je hx hk).elim;rw [Ky M o iK]at hk;exact(Qn M o M' x' hn ho hk xH je).elim;rw [Ky M o iK]at hk;rw [Ky M' o2 zfq]at je;exact S.sep M o k M' o2 ho pz hk je;intro b o h;rcases hnK b o h with h|h|h
  exact S.hn b o h;exact .inr (BH S.bs h);exact .inr (hKB b h).1;intro t d ht M hM;rw[ou]at ht;obtain⟨d',fD,rfl⟩:=Yh.1 ht;obtain⟨o,ho⟩:=S.clE t d' fD M (O8 M hM);exact xB M o ho;intro M x hx N hN;rcases jU M x hx with hx|⟨hn,iK,o,ho,rfl⟩
  obtain⟨o',kN⟩:=zK M x hx N hN;exact xB N o' kN;obtain⟨o2,pz⟩:=S.clO M o ho N (O9 N hN);exact xB N o2 pz
theorem bK.frozen0(S:bK P nt B w0 h0 g σ a w):eQ g (lk σ.ay) [] g.h :=
 ⟨λ_ _ h=>h,λ_ _ _ _ _ _ _ h=>by simp at h,λL s n get h=>(S.obj L _ h).1,λ_ _ _ _ _ _ _ _ _ _ h=>by simp at h,
  λ_ _ _ _ _ _ _ _ h=>by simp at h,λL l h=>S.obj L _ h,λb hb o ho=>by rw[hb]at ho;cases ho⟩
def kO(g:Gh)(L:Nat):AO→List Nat|.box _ _=>[g.bk L]|.vec _ _ _ _ _=>(g.sv L).ownBlock.toList|.mo _ _ _ _ _=>[oq (g.sv L)]|_=>[]
theorem QP{L:Nat}{o:AO}{b:Nat}(h:b∈kO g L o):gy g L o b:=by
 cases o with|box ty cs=>simp only[kO,kK]at h;exact h.symm|vec e s b' n get=>simpa [kO,gy]using h|mo kt vt q n F=>simp only[kO,kK]at h;exact h.symm|_=>simp[kO]at h
theorem zgw(L:Nat)(o:AO):(kO g L o).Nodup:=by
 cases o with|vec e s b' n get=>simp only[kO];cases(g.sv L).ownBlock<;>simp|_=>simp[kO]
def UR:AO→Prop|.box _ _=>True|.vec _ _ _ _ _=>True|.mo _ _ _ _ _=>True|_=>False
theorem Ff{L:Nat}{o:AO}{b:Nat}(ho:UR o)(h:gy g L o b):b∈kO g L o:=by
 cases o with|box ty cs=>simp only[kO,kK];exact h.symm|vec e s b' n get=>simpa [kO,gy]using h|mo kt vt q n F=>simp only[kO,kK];exact h.symm|_=>exact ho.elim
def kB(g:Gh)(ob:Nat->Option AO)(L:Nat):List Nat:=match ob L with|some o=>kO g L o|none=>[]
theorem KH{α:Type}{f:α→List Nat}:∀{l:List α},l.Nodup→(∀x∈l,(f x).Nodup)→(∀x y b,x∈l→y∈l→b∈f x→b∈f y→x=y)→(l.flatMap f).Nodup
  | [],_,_,_=>by simp
  | x::l,hn,h1,h2=>by
    rw[lX,qjJ];obtain⟨hx,hl⟩:=qdc.1 hn;refine⟨h1 x jM,KH hl (λy hy=>h1 y (jB _ hy)) (λy z b hy hz=>h2 y z b (jB _ hy) (jB _ hz)),?_⟩;intro b hb c hc e;subst e;obtain⟨y,hy,hby⟩:=jJ.1 hc;exact hx (by rw[h2 x y b jM (jB _ hy) hb hby];exact hy)
theorem Fg{α:Type}{f:α→List Nat}:∀{l:List α},(l.flatMap f).Nodup→∀x y b,x∈l→y∈l→b∈f x→b∈f y→x=y
  | [],_,_,_,_,hx,_,_,_=>by simp at hx
  | z::l,hn,x,y,b,hx,hy,h1,h2=>by
    rw[lX,qjJ]at hn;obtain⟨_,hl,hd⟩:=hn;rcases jW.1 hx with ex|xH<;>rcases jW.1 hy with ey|hy'
    rw[ex,ey];rw[ex]at h1;exact(hd b h1 b (jJ.2 ⟨y,hy',h2⟩) rfl).elim;rw[ey]at h2;exact(hd b h2 b (jJ.2 ⟨x,xH,h1⟩) rfl).elim;exact Fg hl x y b xH hy' h1 h2
theorem mF:∀{l:List Nat},lu l=true→l.Nodup
  | [],_=>qjC
  | x::l,h=>by
    simp only[lu,fH,NQ]at h;exact qdc.2 ⟨by simpa using h.1,mF h.2⟩
def YE [dh](g:Gh)(sf:kS):Prop:=∀f np ls,sf=some (f,np,ls)->dh.f=f/\dh.np=np/\dh.bs=ls.map g.bk
theorem zaR:∀{caps:List rZ}{ls:List Nat}{cv:List Value},JJ caps ls=true→RL (Iu g) caps cv→cv=(ls.map g.bk).map xq
  | [],[],[],_,_=>rfl
  | [],[],_::_,_,h=>h.elim
  | [],_::_,_,h,_=>by cases h
  | .v _::_,[],_,h,_=>by cases h
  | .v _::_,_::_,_,h,_=>by cases h
  | .b _::_,[],_,h,_=>by cases h
  | .b _::_,_::_,[],_,h=>h.elim
  | .b L::caps,M::ls,v::cv,h,hr=>by
    simp only[JJ,fH]at h;have e:=kY h.1;subst e;rw[nU,nU,<- zaR h.2 hr.2];have:=hr.1;simp only[Iu]at this;rw[this];rfl
theorem UT:∀{caps:List rZ}{ls:List Nat},JJ caps ls=true→RL (Iu g) caps ((ls.map g.bk).map xq)
  | [],[],_=>trivial
  | [],_::_,h=>by cases h
  | .v _::_,[],h=>by cases h
  | .v _::_,_::_,h=>by cases h
  | .b _::_,[],h=>by cases h
  | .b L::caps,M::ls,h=>by
    simp only[JJ,fH]at h;have e:=kY h.1;subst e;exact⟨rfl,UT h.2⟩
theorem UU{sf:kS}{f:FuncId}{caps:List rZ}{x:XC}(h:zuQ sf f caps=some x):∃np ls,sf=some (f,np,ls)/\JJ caps ls=true/\x=.slf f np ls.length:=by
 unfold zuQ at h;split at h;rename_i f' np ls;split at h;rename_i hc;simp only[fH]at hc;have e:=kY hc.1;subst e;simp only[bG]at h;exact⟨np,ls,rfl,hc.2,h.symm⟩;cases h;cases h
theorem zaS [dh]{sf:kS}(TQ:YE g sf)(S:bK P nt B w0 h0 g σ a w):∀{cells:List Cl}{cs:List XC}{ms:List Nat}{vs:List Value},iF sf (lk σ.ay) cells=some (cs,ms)->RL (iV g) cells vs ->
  RL (xcR P g.h w B) cs vs/\uh cs vs=ms.flatMap (kB g (lk σ.ay))/\∀M∈ms,∃o,lk σ.ay M=some o/\UR o
 | [],cs,ms,[],h,_=>by
  simp only[iF,bG,fJ]at h;obtain⟨rfl,rfl⟩:=h;exact⟨trivial,rfl,λM hM=>by simp at hM⟩
 | [],_,_,_::_,_,hr=>hr.elim
 | _::_,_,_,[],_,hr=>hr.elim
 | c::cells,cs,ms,v::vs,h,hr=>by
  simp only[iF]at h;split at h;rename_i l ms' h1;obtain⟨i1,i2,i3⟩:=zaS TQ S h1 hr.2;split at h;rename_i p;simp only[bG,fJ]at h;obtain⟨rfl,rfl⟩:=h;exact⟨⟨hr.1,i1⟩,by simp only[uh,xcK,NW];exact i2,i3⟩;rename_i M;split at h;rename_i e s b n get hM;simp only[bG,fJ]at h;obtain⟨rfl,rfl⟩:=h;obtain⟨hp,hi,hx⟩:=S.obj M _ hM;have hv:v=g.sv M:=hr.1.1;refine⟨⟨⟨hr.1.2,hp,hi,by rw[hv];exact hx⟩,i1⟩,?_,λK hK=>?_⟩;simp only [uh,xcK,lX,i2,hv];rw[show kB g (lk σ.ay) M=(g.sv M).ownBlock.toList by simp only[kB,hM,kO]];rcases jW.1 hK with e|hK
  rw[e];exact⟨_,hM,trivial⟩;exact i3 K hK;cases h;rename_i M;split at h;rename_i kt vt q n F hM;simp only[bG,fJ]at h;obtain⟨rfl,rfl⟩:=h;obtain⟨es,clock,hh,hx⟩:=S.obj M _ hM;have hv:v=.map (some (oq (g.sv M))):=hr.1;refine⟨⟨⟨_,es,clock,hv,hh,hx⟩,i1⟩,?_,λK hK=>?_⟩;simp only [uh,xcK,lX,i2,hv];rw[show kB g (lk σ.ay) M=[oq (g.sv M)]by simp only[kB,hM,kO]];rfl;rcases jW.1 hK with e|hK
  rw[e];exact⟨_,hM,trivial⟩;exact i3 K hK;cases h;split at h;rename_i x hx;simp only[bG,fJ]at h;obtain⟨rfl,rfl⟩:=h;obtain⟨np,ls,e1,e2,rfl⟩:=UU hx;obtain⟨q1,q2,q3⟩:=TQ _ _ _ e1;obtain⟨cv,hv,hcv⟩:=hr.1;refine⟨⟨⟨q1.symm,q2.symm,by rw[q3,qda],by rw[hv,zaR e2 hcv,<- q1,<- q3];rfl⟩,i1⟩,by simp only[uh,xcK,NW];exact i2,i3⟩;cases h;cases h;cases h
def isB(ob:Nat->Option AO)(L:Nat):Prop:=∃o,ob L=some o/\UR o
theorem zgx [dh]{sf:kS}(S:bK P nt B w0 h0 g σ a w)(TQ:YE g sf){d:DV}{x:XA}{ls ms:List Nat}{v:Value}(h:zC sf (lk σ.ay) d=some (x,ls,ms))(hr:qH g d v) :
  yR P g.h w B x v/\Ur w x v=ls.flatMap (kB g (lk σ.ay))/\∀L∈ls,isB (lk σ.ay) L:=by
 have data:ry (lk σ.ay) d=some (x,ls,ms)->yR P g.h w B x v/\Ur w x v=ls.flatMap (kB g (lk σ.ay))/\∀L∈ls,isB (lk σ.ay) L:=by
  intro h;unfold ry at h;split at h;rename_i y hy;simp only[bG,fJ]at h;obtain⟨rfl,rfl,rfl⟩:=h;exact⟨S.frozen0.repD hy (λ_ h=>h) hr,rfl,λL hL=>by simp at hL⟩;cases h
 unfold zC at h;split at h;rename_i L;split at h;rename_i ty cells hL;split at h;rename_i cs ms' hc;simp only[bG,fJ]at h;obtain⟨rfl,rfl,rfl⟩:=h;obtain⟨C,hC,TP⟩:=S.obj L _ hL;obtain⟨i1,i2,i3⟩:=zaS TQ S hc TP;have hv:v=.pointer (some ⟨g.bk L,0,none⟩):=hr;subst hv;refine⟨⟨_,C,rfl,hC,i1⟩,?_,λK hK=>?_⟩;simp only [Ur,hC,lX,i2];rw[show kB g (lk σ.ay) L=[g.bk L]by simp only[kB,hL,kO]];rfl;rcases jW.1 hK with e|hK
 rw[e];exact⟨_,hL,trivial⟩;exact i3 K hK;cases h;exact data h;exact data h
theorem zaT [dh]{sf:kS}(S:bK P nt B w0 h0 g σ a w)(TQ:YE g sf):∀{ds:List DV}{xs:List XA}{ls ms:List Nat}{vs:List Value},jP sf (lk σ.ay) ds=some (xs,ls,ms)->RL (qH g) ds vs ->
  RL (yR P g.h w B) xs vs/\mW w xs vs=ls.flatMap (kB g (lk σ.ay))/\∀L∈ls,isB (lk σ.ay) L
 | [],xs,ls,ms,[],h,_=>by
  simp only[jP,bG,fJ]at h;obtain⟨rfl,rfl,rfl⟩:=h;exact⟨trivial,rfl,λL hL=>by simp at hL⟩
 | [],_,_,_,_::_,_,hr=>hr.elim
 | _::_,_,_,_,[],_,hr=>hr.elim
 | d::ds,xs,ls,ms,v::vs,h,hr=>by
  simp only[jP]at h;split at h;rename_i x bl m1 xs' bls m2 h1 h2;simp only[bG,fJ]at h;obtain⟨rfl,rfl,rfl⟩:=h;obtain⟨i1,i2,i3⟩:=zgx S TQ h1 hr.1;obtain⟨j1,j2,j3⟩:=zaT S TQ h2 hr.2;refine⟨⟨i1,j1⟩,by simp only[mW,i2,j2,qdH],λL hL=>?_⟩;rcases dG.1 hL with h|h
  exact i3 L h;exact j3 L h;cases h
theorem GN(S:bK P nt B w0 h0 g σ a w){ls:List Nat}(hn:ls.Nodup):(ls.flatMap (kB g (lk σ.ay))).Nodup:=by
 refine KH hn (λL _=>?_) λL L' b _ _ h1 h2=>?_;unfold kB;split;exact zgw L _;exact qjC;unfold kB at h1 h2;split at h1;rename_i o ho;split at h2;rename_i o' kN;exact S.sep L o b L' o' ho kN (QP h1) (QP h2);simp at h2;simp at h1
def cN:List Cl→List Value→List (Nat×Value)|.vec M::cs,v::vs=>(M,v)::cN cs vs|.mo M::cs,v::vs=>(M,v)::cN cs vs|_::cs,_::vs=>cN cs vs|_,_=>[]
def aN(w:World)(ob:Nat->Option AO)(d:DV)(v:Value):List (Nat×Value) :=
 match d,v with
 | .one (.c (.ptr L 0)),.pointer (some a)=>match ob L,w.heap[a.block]? with|some (.box _ cells),some (.cells C _ _)=>cN cells C.toList|_,_=>[]
 | _,_=>[]
def asN(w:World)(ob:Nat→Option AO):List DV→List Value→List (Nat×Value)|d::ds,v::vs=>aN w ob d v++asN w ob ds vs|_,_=>[]
theorem oz{sf:kS}{ob:Nat->Option AO}{L:Nat}:zC sf ob (.one (.c (.ptr L 0)))=match ob L with
  | some (.box ty cells)=>match iF sf ob cells with|some (cs,ms)=>some (.box ty cs,L::ms,ms)|none=>none
  | _=>ry ob (.one (.c (.ptr L 0))):=rfl
section put
variable [dh]{sf:kS}{h':Fz}{w':World}{g':Gh}(hh:g'.h=h')(rX:∀M,g'.bk M=g.bk M)(TQ:YE g' sf)
include hh TQ
theorem Cf:∀{cells l:List Cl}{ys cs:List XC}{u:List (Nat×AO)}{ls:List Nat}{vs:List Value},gG cells ys=some (l,u)->iF sf (lk σ.ay) cells=some (cs,ls)->RL (xcR P h' w' B) ys vs->(∀x∈cN cells vs,g'.sv x.1=x.2) ->
  RL (iV g') l vs/\(∀x∈u,UR x.2/\dJ x.2=[]/\NS P g' w' B x.1 x.2)/\uh ys vs=u.flatMap (λx=>kO g' x.1 x.2)/\u.map (·.1)=ls/\(cN cells vs).map (·.1)=ls/\∀M∈l.flatMap aY,M∈cells.flatMap aY
 | [],l,[],cs,u,ls,vs,h,h2,hr,_=>by
  simp only[gG,bG,fJ]at h;obtain⟨rfl,rfl⟩:=h;simp only[iF,bG,fJ]at h2;obtain⟨rfl,rfl⟩:=h2;cases vs with|nil=>exact⟨trivial,λx hx=>by simp at hx,rfl,rfl,rfl,λM hM=>hM⟩|cons=>exact hr.elim
 | c::cells,l,y::ys,cs,u,ls,[],h,h2,hr,_=>hr.elim
 | c::cells,l,y::ys,cs,u,ls,v::vs,h,h2,hr,lQ=>by
  unfold gG at h;split at h;rename_i e;simp at e;rename_i p zaf q oN e1 e2;simp only[ES]at e1 e2;obtain⟨rfl,rfl⟩:=e1;obtain⟨rfl,rfl⟩:=e2;split at h;rename_i l1 u1 hp;simp only[bG,fJ]at h;obtain⟨rfl,rfl⟩:=h;simp only[iF]at h2;split at h2;rename_i c1 m1 hc;simp only[bG,fJ]at h2;obtain⟨rfl,rfl⟩:=h2;obtain⟨i1,i2,i3,i4,i5,i6⟩:=Cf hp hc hr.2 (λx hx=>lQ x hx);refine⟨⟨by have:=hr.1;show Rep g'.h q v;rw[hh];exact this,i1⟩,i2,by simp only[uh,xcK,NW];exact i3,i4,i5,λM hM=>?_⟩;simp only[lX,aY,NW]at hM ⊢;exact i6 M hM;cases h2;cases h;rename_i M zaf e s b n get oN e1 e2;simp only[ES]at e1 e2;obtain⟨rfl,rfl⟩:=e1;obtain⟨rfl,rfl⟩:=e2;split at h;rename_i l1 u1 hp;simp only[bG,fJ]at h;obtain⟨rfl,rfl⟩:=h;simp only[iF]at h2;split at h2;rename_i c1 m1 hc;split at h2;simp only [bG,fJ]at h2;obtain⟨rfl,rfl⟩:=h2;obtain⟨i1,i2,i3,i4,i5,i6⟩:=Cf hp hc hr.2 (λx hx=>lQ x (jB _ hx));have hv:g'.sv M=v:=lQ (M,v) jM;obtain⟨h1,hp1,hi1,hx1⟩:=hr.1;refine⟨⟨⟨hv.symm,h1⟩,i1⟩,λx hx=>?_,?_,by simp[i4],by simp[cN,i5],λK hK=>?_⟩;rcases jW.1 hx with e|hx
  subst e;refine⟨trivial,rfl,hp1,hi1,?_⟩;show BQ g'.h w' B e s (g'.sv M) n get;rw[hv,hh];exact hx1;exact i2 x hx;simp only[uh,xcK,lX,kO,hv,i3];simp only [lX,dG]at hK ⊢;exact hK.imp_right (i6 K);cases h2;cases h2;cases h;rename_i M zaf kt vt q n F oN e1 e2;simp only[ES]at e1 e2;obtain⟨rfl,rfl⟩:=e1;obtain⟨rfl,rfl⟩:=e2;split at h;rename_i l1 u1 hp;simp only[bG,fJ]at h;obtain⟨rfl,rfl⟩:=h;simp only[iF]at h2;split at h2;rename_i c1 m1 hc;split at h2;simp only [bG,fJ]at h2;obtain⟨rfl,rfl⟩:=h2;obtain⟨i1,i2,i3,i4,i5,i6⟩:=Cf hp hc hr.2 (λx hx=>lQ x (jB _ hx));have hv:g'.sv M=v:=lQ (M,v) jM;obtain⟨b,es,clock,h1,hh1,hx1⟩:=hr.1;subst h1;have hb:oq (g'.sv M)=b:=by rw[hv];rfl
  refine⟨⟨by show Value.map (some b)=.map (some (oq (g'.sv M)));rw[hb],i1⟩,λx hx=>?_,?_,by simp[i4],by simp[cN,i5],λK hK=>?_⟩;rcases jW.1 hx with e|hx
  subst e;exact⟨trivial,rfl,es,clock,by rw[hb];exact hh1,hx1⟩;exact i2 x hx;simp only[uh,xcK,lX,kO,hb,i3];rfl;simp only [lX,dG]at hK ⊢;exact hK.imp_right (i6 K);cases h2;cases h2;cases h;rename_i f caps zaf f2 np2 n2 oN e1 e2;simp only[ES]at e1 e2;obtain⟨rfl,rfl⟩:=e1;obtain⟨rfl,rfl⟩:=e2;split at h;rename_i l1 u1 hp;simp only[bG,fJ]at h;obtain⟨rfl,rfl⟩:=h;simp only[iF]at h2;split at h2;rename_i c1 m1 hc;split at h2;rename_i x hx;simp only[bG,fJ]at h2;obtain⟨rfl,rfl⟩:=h2;obtain⟨i1,i2,i3,i4,i5,i6⟩:=Cf hp hc hr.2 (λx hx=>lQ x hx);obtain⟨np,ls,e1,e2,rfl⟩:=UU hx;obtain⟨q1,q2,q3⟩:=TQ _ _ _ e1;obtain⟨_,_,_,hv⟩:=hr.1;refine⟨⟨⟨(ls.map g'.bk).map xq,by rw[hv,<- q1,<- q3];rfl,UT e2⟩,i1⟩,i2,by simp only[uh,xcK,NW];exact i3,i4,i5,λM hM=>?_⟩;simp only[lX,dG]at hM ⊢;exact hM.imp_right (i6 M);cases h2;cases h2;cases h;cases h
 | [],_,_::_,_,_,_,_,h,_,_,_=>by simp[gG]at h
 | _::_,_,[],_,_,_,_,h,_,_,_=>by simp[gG]at h
include rX
theorem zvc(S:bK P nt B w0 h0 g σ a w){d:DV}{x y:XA}{u:List (Nat×AO)}{ls ms:List Nat}{v:Value}(h:Iq (lk σ.ay) d y=some u)(h2:zC sf (lk σ.ay) d=some (x,ls,ms))(hd:qH g d v)(hr:yR P h' w' B y v)
    (lQ:∀x∈aN w' (lk σ.ay) d v,g'.sv x.1=x.2) :
    (∀x∈u,UR x.2/\(∀M∈dJ x.2,∃o',lk σ.ay M=some o')/\NS P g' w' B x.1 x.2)/\Ur w' y v=u.flatMap (λx=>kO g' x.1 x.2)/\u.map (·.1)=ls/\(aN w' (lk σ.ay) d v).map (·.1)=ms:=by
  have data:ry (lk σ.ay) d=some (x,ls,ms)->ls=[]/\ms=[]:=by
    intro h;unfold ry at h;split at h;simp only[bG,fJ]at h;exact⟨h.2.1.symm,h.2.2.symm⟩;cases h
  unfold Iq at h;split at h;rename_i L;split at h;rename_i TZ cells hL;rw[oz,hL]at h2;dsimp only at h2;split at h2;rename_i cs ms' hc;simp only[bG,fJ]at h2;obtain⟨rfl,rfl,rfl⟩:=h2;split at h;rename_i ty cs';split at h;rename_i l u' hty hp;simp only[bG]at h;subst h;have hty:=kY hty;subst hty;obtain⟨k,C,rfl,hC,nG⟩:=hr;have hk:k=g.bk L:=by
    have hd:Value.pointer (some ⟨k,0,none⟩)=.pointer (some ⟨g.bk L,0,none⟩):=hd;simpa using hd
  subst hk;simp only[aN,hL,hC]at lQ ⊢;obtain⟨i1,i2,i3,i4,i5,i6⟩:=Cf (P:=P) (B:=B) hh TQ hp hc nG lQ;refine⟨λx hx=>?_,?_,by simp[i4],i5⟩;rcases jW.1 hx with e|hx
  subst e;refine⟨trivial,λM hM=>S.clO L _ hL M (i6 M hM),C,?_,i1⟩;show w'.heap[g'.bk L]? = _;rw[rX];exact hC;obtain⟨j1,j2,j3⟩:=i2 x hx;exact⟨j1,λM hM=>by rw[j2]at hM;simp at hM,j3⟩;simp only[Ur,hC,lX,kO,rX,i3];rfl;cases h;cases h;cases h2;rename_i vF;have hx:ry (lk σ.ay) (.one (.c (.ptr L 0)))=some (x,ls,ms):=by
    rw[oz]at h2;cases hL:lk σ.ay L with
    | none=>rw[hL]at h2;exact h2
    | some o =>
      rw[hL]at h2;cases o with|box ty cells=>exact absurd hL (vF _ _)|_=>exact h2
  obtain⟨rfl,rfl⟩:=data hx;split at h;simp only [bG]at h;subst h;refine⟨λx hx=>by simp at hx,rfl,rfl,?_⟩;have e:aN w' (lk σ.ay) (.one (.c (.ptr L 0))) v=[]:=by
    cases v with
    | pointer p=>cases p with
      | none=>rfl
      | some ad =>
        simp only[aN];cases hL:lk σ.ay L with
        | none=>rfl
        | some o =>
          cases o with|box ty cells=>exact(vF _ _ hL).elim|_=>rfl
    | _=>rfl
  rw[e];rfl;cases h;rename_i vF;have hx:ry (lk σ.ay) d=some (x,ls,ms):=by
    unfold zC at h2;split at h2;exact(vF _ rfl).elim;exact h2
  obtain⟨rfl,rfl⟩:=data hx;split at h;simp only [bG]at h;subst h;refine⟨λx hx=>by simp at hx,rfl,rfl,?_⟩;have e:aN w' (lk σ.ay) d v=[]:=by
    unfold aN;split;exact(vF _ rfl).elim;rfl
  rw[e];rfl;cases h
theorem zaU(S:bK P nt B w0 h0 g σ a w):∀{ds:List DV}{xs ys:List XA}{u:List (Nat×AO)}{ls ms:List Nat}{vs:List Value},jG (lk σ.ay) ds ys=some u->jP sf (lk σ.ay) ds=some (xs,ls,ms)->RL (qH g) ds vs->RL (yR P h' w' B) ys vs ->
  (∀x∈asN w' (lk σ.ay) ds vs,g'.sv x.1=x.2) ->
  (∀x∈u,UR x.2/\(∀M∈dJ x.2,∃o',lk σ.ay M=some o')/\NS P g' w' B x.1 x.2)/\mW w' ys vs=u.flatMap (λx=>kO g' x.1 x.2)/\u.map (·.1)=ls/\(asN w' (lk σ.ay) ds vs).map (·.1)=ms
 | [],xs,[],u,ls,ms,vs,h,h2,hd,hr,_=>by
  simp only[jG,bG]at h;subst h;simp only[jP,bG,fJ]at h2;obtain⟨rfl,rfl,rfl⟩:=h2;cases vs with|nil=>exact⟨λx hx=>by simp at hx,rfl,rfl,rfl⟩|cons=>exact hr.elim
 | d::ds,xs,y::ys,u,ls,ms,[],h,h2,hd,hr,_=>hr.elim
 | d::ds,xs,y::ys,u,ls,ms,v::vs,h,h2,hd,hr,lQ=>by
  simp only[jG]at h;split at h;rename_i u1 u2 e1 e2;simp only[bG]at h;subst h;simp only[jP]at h2;split at h2;rename_i x bl m1 xs' bls m2 h3 h4;simp only[bG,fJ]at h2;obtain⟨rfl,rfl,rfl⟩:=h2;obtain⟨i1,i2,i3,i4⟩:=zaU S e2 h4 hd.2 hr.2 (λx hx=>lQ x (dG.2 (.inr hx)));obtain⟨j1,j2,j3,j4⟩:=zvc hh rX TQ S e1 h3 hd.1 hr.1 (λx hx=>lQ x (dG.2 (.inl hx)));exact⟨λx hx=>(dG.1 hx).elim (j1 x) (i1 x),by simp only[mW,i2,j2,qdH],by simp[i3,j3],by simp[asN,i4,j4]⟩;cases h2;cases h
 | [],_,_::_,_,_,_,_,h,_,_,_,_=>by simp[jG]at h
 | _::_,_,[],_,_,_,_,h,_,_,_,_=>by simp[jG]at h
end put
theorem Fh {α : Type} : ∀ {l : List (Nat × α)} {k : Nat} {x : α}, (l.map (·.1)).Nodup → (k, x) ∈ l → lk l k = some x
  | [],_,_,_,h=>by simp at h
  | (j,y)::l,k,x,hn,h=>by
    rw[nU,qdc]at hn;rw[aS];rcases jW.1 h with e|h'
    simp only[fJ]at e;rw[dH e.1.symm,e.2];rw [dM (fun e=>hn.1 (by rw [e];exact rY.2 ⟨_,h',rfl⟩))];exact Fh hn.2 h'
theorem yU{α:Type}{l:List (Nat×α)}{k:Nat}(h:k∈l.map (·.1)):∃x,lk l k=some x:=by
 cases hk:lk l k with
 | some x=>exact⟨x,rfl⟩
 | none =>
  obtain⟨⟨j,x⟩,hx,rfl⟩:=rY.1 h;exact(QI hk x hx).elim
theorem zgy{sf:kS}{ob:Nat->Option AO}{d:DV}{x:XA}{ls ms:List Nat}(h:zC sf ob d=some (x,ls,ms)):∀M∈ms,M∈ls:=by
 have data:ry ob d=some (x,ls,ms)->∀M∈ms,M∈ls:=by
  intro h;unfold ry at h;split at h;simp only[bG,fJ]at h;rw[<- h.2.2];exact λM hM=>by simp at hM
  cases h
 unfold zC at h;split at h;split at h;split at h;simp only[bG,fJ]at h;rw[<- h.2.1,<- h.2.2];exact λM hM=>jB _ hM;cases h;exact data h;exact data h
theorem Pq{sf:kS}{ob:Nat→Option AO}:∀{ds:List DV}{xs:List XA}{ls ms:List Nat},jP sf ob ds=some (xs,ls,ms)→∀M∈ms,M∈ls
  | [],xs,ls,ms,h=>by
    simp only[jP,bG,fJ]at h;rw[<- h.2.2];exact λM hM=>by simp at hM
  | d::ds,xs,ls,ms,h=>by
    simp only[jP]at h;split at h;rename_i x bl m1 xs' bls m2 h1 h2;simp only[bG,fJ]at h;obtain⟨rfl,rfl,rfl⟩:=h;intro M hM;exact dG.2 ((dG.1 hM).imp (zgy h1 M) (Pq h2 M));cases h
theorem Az(x:Cl):eH [] x=x:=by cases x<;>rfl
theorem GR(x:D1):fE [] x=x:=by
 cases x with|c y=>simp only[fE,Az]|agg cs=>simp only[fE,show eH []=id from funext Az,qjs]
theorem YF(x:DV):fU [] x=x:=by
 cases x with|one y=>simp only[fU,GR]|tup ds=>simp only[fU,show fE []=id from funext GR,qjs]
theorem YG(x:AO):dO [] x=x:=by
 cases x with|box ty cs=>simp only[dO,show eH []=id from funext Az,qjs]|_=>rfl
theorem KI{α:Type}{f:α→α}(hf:∀x,f x=x):∀l:List (Nat×α),kills f l=l|[]=>rfl|(k,x)::l=>by simp only[kills,hf x,KI hf l]
theorem QQ{dst:Option Nat}{fp:List (Nat×Bool)}{d:DV}{u:List (Nat×AO)}{ms:List Nat} :
  σ.upd i dst fp d u ms=⟨Yt dst d (kills (fU ms) σ.env),u++kills (dO ms) σ.ay,σ.log⟩:=by
 cases ms with|nil=>rw[fG,KI YF,KI YG]|cons L r=>cases dst<;>rfl
theorem zaV [dh] {sf : kS} {ob : Nat → Option AO} {h' : Fz} {w' : World} : ∀ {cells : List Cl} {l : List Cl} {ys cs : List XC} {u : List (Nat × AO)} {ms : List Nat} {vs : List Value}, gG cells ys = some (l, u) → iF sf ob cells = some (cs, ms) → RL (xcR P h' w' B) ys vs → (cN cells vs).map (·.1) = ms
  | [],l,ys,cs,u,ms,vs,h,h2,hr=>by
    simp only[iF,bG,fJ]at h2;rw[<- h2.2];cases vs<;>rfl
  | c::cells,l,[],cs,u,ms,vs,h,h2,hr=>by simp[gG]at h
  | c::cells,l,y::ys,cs,u,ms,[],h,h2,hr=>hr.elim
  | c::cells,l,y::ys,cs,u,ms,v::vs,h,h2,hr=>by
    have hx:∃l1 u1,gG cells ys=some (l1,u1):=by
      unfold gG at h;split at h;rename_i e;simp at e;rename_i e1 e2;simp only[ES]at e1 e2;obtain⟨rfl,rfl⟩:=e1;obtain⟨rfl,rfl⟩:=e2;split at h;rename_i hp;exact⟨_,_,hp⟩;cases h;rename_i e1 e2;simp only[ES]at e1 e2;obtain⟨rfl,rfl⟩:=e1;obtain⟨rfl,rfl⟩:=e2;split at h;rename_i hp;exact⟨_,_,hp⟩;cases h;rename_i e1 e2;simp only[ES]at e1 e2;obtain⟨rfl,rfl⟩:=e1;obtain⟨rfl,rfl⟩:=e2;split at h;rename_i hp;exact⟨_,_,hp⟩;cases h;rename_i e1 e2;simp only[ES]at e1 e2;obtain⟨rfl,rfl⟩:=e1;obtain⟨rfl,rfl⟩:=e2;split at h;rename_i hp;exact⟨_,_,hp⟩;cases h;cases h
    obtain⟨l1,u1,hp⟩:=hx;simp only[iF]at h2;split at h2;rename_i c1 m1 hc;have ih:=zaV hp hc hr.2;split at h2;simp only[bG,fJ]at h2;rw[<- h2.2];exact ih;split at h2;simp only[bG,fJ]at h2;rw[<- h2.2];simp only[cN,nU,ih];cases h2;split at h2;simp only[bG,fJ]at h2;rw[<- h2.2];simp only[cN,nU,ih];cases h2;split at h2;simp only[bG,fJ]at h2;rw[<- h2.2];exact ih;cases h2;cases h2;cases h2
theorem zmH [dh]{sf:kS}{ob:Nat->Option AO}{h':Fz}{w':World}{d:DV}{x y:XA}{u:List (Nat×AO)}{ls ms:List Nat}{v:Value}(h:Iq ob d y=some u)(h2:zC sf ob d=some (x,ls,ms))(hr:yR P h' w' B y v):(aN w' ob d v).map (·.1)=ms:=by
 have data:ry ob d=some (x,ls,ms)->ms=[]:=by
  intro h;unfold ry at h;split at h;simp only[bG,fJ]at h;exact h.2.2.symm;cases h
 unfold Iq at h;split at h;rename_i L;split at h;rename_i TZ cells hL;rw[oz,hL]at h2;dsimp only at h2;split at h2;rename_i cs ms' hc;simp only[bG,fJ]at h2;obtain⟨rfl,rfl,rfl⟩:=h2;split at h;split at h;rename_i l u' hty hp;obtain⟨k,C,rfl,hC,nG⟩:=hr;simp only[aN,hL,hC];exact zaV hp hc nG;cases h;cases h;cases h2;rename_i vF;have hx:ry ob (.one (.c (.ptr L 0)))=some (x,ls,ms):=by
  rw[oz]at h2;cases hL:ob L with
  | none=>rw[hL]at h2;exact h2
  | some o =>
   rw[hL]at h2;cases o with|box ty cells=>exact absurd hL (vF _ _)|_=>exact h2
 rw[data hx];have e:aN w' ob (.one (.c (.ptr L 0))) v=[]:=by
  cases v with
  | pointer p=>cases p with
   | none=>rfl
   | some ad =>
    simp only[aN];cases hL:ob L with
    | none=>rfl
    | some o =>
     cases o with|box ty cells=>exact absurd hL (vF _ _)|_=>rfl
  | _=>rfl
 rw[e];rfl;rename_i vF;have hx:ry ob d=some (x,ls,ms):=by
  unfold zC at h2;split at h2;exact(vF _ rfl).elim;exact h2
 rw[data hx];have e:aN w' ob d v=[]:=by
  unfold aN;split;exact(vF _ rfl).elim;rfl
 rw[e];rfl
theorem UV [dh] {sf : kS} {ob : Nat → Option AO} {h' : Fz} {w' : World} : ∀ {ds : List DV} {xs ys : List XA} {u : List (Nat × AO)} {ls ms : List Nat} {vs : List Value}, jG ob ds ys = some u → jP sf ob ds = some (xs, ls, ms) → RL (yR P h' w' B) ys vs → (asN w' ob ds vs).map (·.1) = ms
  | [],xs,ys,u,ls,ms,vs,h,h2,hr=>by
    simp only[jP,bG,fJ]at h2;rw[<- h2.2.2];cases vs<;>rfl
  | d::ds,xs,[],u,ls,ms,vs,h,h2,hr=>by simp[jG]at h
  | d::ds,xs,y::ys,u,ls,ms,[],h,h2,hr=>hr.elim
  | d::ds,xs,y::ys,u,ls,ms,v::vs,h,h2,hr=>by
    simp only[jG]at h;split at h;rename_i u1 u2 e1 e2;simp only[jP]at h2;split at h2;rename_i x bl m1 xs' bls m2 h3 h4;simp only[bG,fJ]at h2;rw[<- h2.2.2];simp only[asN,TR,zmH e1 h3 hr.1,UV e2 h4 hr.2];cases h2;cases h
theorem zaW:∀{caps:List rZ}{ls:List Nat}{cv:List Value},Uj caps=some ls→RL (Iu g) caps cv→∀(k L:Nat),ls[k]? = some L→cv[k]? = some (xq (g.bk L))
  | [],ls,cv,h,hr,k,L,hk=>by simp only[Uj,bG]at h;subst h;simp at hk
  | .v _::_,ls,cv,h,hr,k,L,hk=>by cases h
  | .b M::caps,ls,[],h,hr,k,L,hk=>hr.elim
  | .b M::caps,ls,v::cv,h,hr,k,L,hk=>by
    simp only[Uj]at h;split at h
    · rename_i l hl;simp only[bG]at h;subst h;cases k with
      | zero =>
        simp only[qdp,bG]at hk ⊢;subst hk;exact hr.1
      | succ k =>
        rw[Yg]at hk ⊢;exact zaW hl hr.2 k L hk
    cases h
theorem zgz{gf np:Nat}{caps:List rZ}{cv pre:List Value}(hr:RL (Iu g) caps cv)(hp:pre.length=np):∀f np' ls,zcT gf np caps=some (f,np',ls)->∀(k L:Nat),ls[k]? = some L->(pre++cv)[np'+k]? = some (xq (g.bk L)):=by
 intro f np' ls h k L hk;unfold zcT at h;split at h;rename_i l hl;simp only[bG,fJ]at h;obtain⟨rfl,rfl,rfl⟩:=h;rw[List.getElem?_append_right omY,show np+k-pre.length=k by omega];exact zaW hl hr k L hk;cases h
theorem Pv:∀{cells l:List Cl}{ys:List XC}{u:List (Nat×AO)},gG cells ys=some (l,u)→l.length=cells.length∧(∀x∈u,kT x.2=false)∧∀f caps,l=[.clo f caps]→cells=[.clo f caps]
  | [],l,ys,u,h=>by
    cases ys with
    | nil =>
      simp only[gG,bG,fJ]at h;obtain⟨rfl,rfl⟩:=h;exact⟨rfl,λx hx=>by simp at hx,λf caps e=>by cases e⟩
    | cons y ys=>simp[gG]at h
  | c::cells,l,ys,u,h=>by
    cases ys with
    | nil=>cases c<;>simp[gG]at h
    | cons y ys =>
      have ih:=λl' u' h'=>@Pv cells l' ys u' h'
      have vc:∀(M:Nat)(o:AO)(l':List Cl)(u':List (Nat×AO))(c':Cl),kT o=false->(∀f caps,c' ≠ .clo f caps)->gG cells ys=some (l',u') ->
          (c'::l').length=(c::cells).length/\(∀x∈(M,o)::u',kT x.2=false)/\∀f caps,c'::l'=[.clo f caps]->c::cells=[.clo f caps]:=λM o l' u' c' ho hc h'=>by
        obtain⟨i1,i2,i3⟩:=ih l' u' h';refine⟨by simp[i1],λx hx=>?_,λf caps e=>(hc f caps (List.cons.inj e).1).elim⟩;rcases jW.1 hx with rfl|hx
        exact ho;exact i2 x hx
      cases c with
      | p v =>
        cases y with
        | p v' =>
          simp only[gG]at h;split at h;rename_i l' u' h';simp only[bG,fJ]at h;obtain⟨rfl,rfl⟩:=h;obtain⟨i1,i2,i3⟩:=ih l' u' h';exact⟨by simp[i1],i2,λf caps e=>by cases e⟩;cases h
        | _=>simp[gG]at h
      | vec M =>
        cases y with
        | vec e s b n get =>
          simp only[gG]at h;split at h;rename_i l' u' h';simp only[bG,fJ]at h;obtain⟨rfl,rfl⟩:=h;exact vc M _ l' u' _ rfl (λ_ _ e=>by cases e) h';cases h
        | _=>simp[gG]at h
      | mo M =>
        cases y with
        | mo kt vt q n F =>
          simp only[gG]at h;split at h;rename_i l' u' h';simp only[bG,fJ]at h;obtain⟨rfl,rfl⟩:=h;exact vc M _ l' u' _ rfl (λ_ _ e=>by cases e) h';cases h
        | _=>simp[gG]at h
      | clo f0 zTb =>
        cases y with
        | slf f2 np2 n2 =>
          simp only[gG]at h;split at h;rename_i l' u' h';simp only[bG,fJ]at h;obtain⟨rfl,rfl⟩:=h;obtain⟨i1,i2,i3⟩:=ih l' u' h';refine⟨by simp[i1],i2,λf caps e=>?_⟩;obtain⟨e3,e4⟩:=List.cons.inj e;subst e4;rw[e3,qdn i1.symm];cases h
        | _=>simp[gG]at h
      | _=>cases y<;>simp[gG]at h
theorem Px{ob:Nat→Option AO}:∀{ds:List DV}{ys:List XA}{u:List (Nat×AO)},jG ob ds ys=some u→∀x∈u,kT x.2=true→ob x.1=some x.2
  | [],[],u,h=>by simp only[jG,bG]at h;subst h;intro x hx;simp at hx
  | [],_::_,_,h=>by simp[jG]at h
  | _::_,[],_,h=>by simp[jG]at h
  | d::ds,y::ys,u,h=>by
    simp only[jG]at h;split at h;rename_i u1 u2 e1 e2;simp only[bG]at h;subst h;intro x hx hc;rcases dG.1 hx with hx|hx
    unfold Iq at e1;split at e1;split at e1;rename_i L TZ cells hL;split at e1;rename_i ty cs;split at e1;rename_i l u' hty OD;simp only[bG]at e1;subst e1;obtain⟨_,h1,h2⟩:=Pv OD;rcases jW.1 hx with rfl|hx
    have ht:=kY hty;subst ht;unfold kT at hc;split at hc;rename_i ty2 f caps e3;simp only[AO.box.injEq]at e3;obtain⟨rfl,rfl⟩:=e3;rw[hL,h2 f caps rfl];cases hc;rw[h1 x hx]at hc;cases hc;cases e1;cases e1;split at e1;simp only[bG]at e1;subst e1;simp at hx;cases e1;split at e1;simp only[bG]at e1;subst e1;simp at hx;cases e1;exact Px e2 x hx hc;cases h
theorem zdj{ms:List Nat}{o:AO}(h:kT o=true):dO ms o=o:=by
 unfold kT at h;split at h;rfl;cases h
theorem zgB{α:Type}{f:α->α}{l:List (Nat×α)}{n:Nat}:lk (kills f l) n=(lk l n).map f:=by
 induction l with
 | nil=>rfl
 | cons x l ih =>
  obtain⟨k,a⟩:=x;rw[kills,aS,aS,ih];split<;>rfl
theorem Py : ∀ {u rest : List (Nat × AO)}, (u.map (·.1)).Nodup → (∀ x ∈ u, kT x.2 = true → lk rest x.1 = some x.2) → ∀ L : Nat, lk ((u.filter fun x => !kT x.2) ++ rest) L = lk (u ++ rest) L
  | [],_,_,_,_=>rfl
  | (k,o)::u,rest,hn,h,L=>by
    rw[nU,qdc]at hn;have ih:=Py hn.2 (λy hy=>h y (jB _ hy)) L;cases hc:kT o with
    | false =>
      rw[List.filter_cons_of_pos (by simp[hc]),qdB,qdB,aS,aS,ih]
    | true =>
      rw[List.filter_cons_of_neg (by simp[hc]),qdB,aS,ih];split
      · rename_i e;subst e;have h0:=h (k,o) jM hc;rw[gX];cases hu:lk u k with|none=>exact h0|some o2=>exact(hn.1 (rY.2 ⟨_,eU hu,rfl⟩)).elim
      rfl
theorem bK.objs_congr(S:bK P nt B w0 h0 g σ a w){l:List (Nat×AO)}(h:∀L,lk l L=lk σ.ay L):bK P nt B w0 h0 g {σ with ay:=l} a w :=
 ⟨S.dfr,S.size,S.env,λL o ho=>S.obj L o (by rw[<- h];exact ho),λL o b ho=>S.own L o b (by rw[<- h];exact ho),
  λL o b L' o' ho kN=>S.sep L o b L' o' (by rw[<- h];exact ho) (by rw[<- h];exact kN),S.hw,S.le0,S.hn,S.below,S.bs,
  λt d ht L hL=>by rw[h];exact S.clE t d ht L hL,λL o ho M hM=>by rw[h];exact S.clO L o (by rw[<- h];exact ho) M hM⟩
theorem UW{sf:kS}{gf:FuncId}{C:MK}{ds:List DV}{vals:List Value}(Gy:jk P Γ)(S:bK P nt B w0 h0 g σ a w)
    (hC:Γ.mt gf=some C) (OJ:RL (qH g) ds vals)
    (jV:∀f np ls,sf=some (f,np,ls)->∀(k L:Nat),ls[k]? = some L->vals[np+k]? = some (xq (g.bk L)))
    {xs ys:List XA} {ls ms:List Nat} {rs:List PA} {u:List (Nat×AO)} (has:jP sf (lk σ.ay) ds=some (xs,ls,ms)) (hCx:(C xs).o=some (rs,ys)) (OD:jG (lk σ.ay) ds ys=some u)
    (cO:(lu ls&&Nat.ble ms.length 1&&ms.all λM=>((u.filter λx=>!kT x.2).map (·.1)).contains M)=true) (d:Option Nat) :
    df P gf/\Calls P gf vals.toArray w λe w'=>∃g',Oa g'.h rs e/\bK P nt B w0 h0 g' ⟨kills (fU ms) σ.env,u.filter (λx=>!kT x.2)++kills (dO ms) σ.ay,σ.log⟩ a w':=by
  letI:dh:=match sf with|some (f,np,ls)=>⟨f,np,ls.map g.bk⟩|none=>⟨0,0,[]⟩
  have TQ:YE g sf:=λf np ls e=>by subst e;exact⟨rfl,rfl,rfl⟩
  have lQ:∀k b,(dh.bs)[k]? = some b->vals[dh.np+k]? = some (xq b):=by
    cases sf with
    | none=>intro k b hk;have hk:([]:List Nat)[k]? = some b:=hk;simp at hk
    | some y =>
      obtain⟨f,np,ls⟩:=y;intro k b hk;have hk:(ls.map g.bk)[k]? = some b:=hk;rw[dq0]at hk;obtain⟨L,hL,rfl⟩:=Yh.1 hk;exact jV f np ls rfl k L hL
  have zli:=cO;simp only[fH,Ud]at zli;have cO:=zli.1;obtain⟨x1,x2,x3⟩:=zaT S TQ has OJ;have hkb:∀b∈mW w xs vals,∃L∈ls,∃o',lk σ.ay L=some o'/\gy g L o' b:=λb hb=>by
    rw[x2]at hb;obtain⟨L,hL,hb⟩:=jJ.1 hb;unfold kB at hb;split at hb;rename_i o' kN;exact⟨L,hL,o',kN,QP hb⟩;simp at hb
  obtain⟨fC,vO⟩:=Gy.mt gf C hC xs ys rs hCx w g.h B vals x1 lQ (by rw[x2];exact GN S (mF cO.1)) (λb hb=>by
    obtain⟨L,_,o',h1,h2⟩:=hkb b hb;exact S.own L o' b h1 h2) S.hw S.bs
  refine⟨fC,vO.mono ?_⟩;rintro e w' ⟨h',oK,hys,zHZ,iU,hle,Jw,hn',hX⟩;let nv:=asN w' (lk σ.ay) ds vals;let g':Gh:=⟨h',g.bk,λM=>match lk nv M with|some x=>x|none=>g.sv M,g.iv⟩;have zK1:ms.Nodup:=by
    match ms,cO.2 with|[],_=>exact qjC|[x],_=>simp|_::_::_,h=>simp at h
  have Qp:nv.map (·.1)=ms:=UV OD has hys;obtain⟨p1,p2,p3,p4⟩:=zaU (P:=P) (B:=B) (g:=g) (h':=h') (w':=w') (g':=g') rfl (λ_=>rfl) (λf np ls e=>TQ f np ls e) S OD has OJ hys (λx hx=>by
    have:=Fh (l:=nv) (by rw[Qp];exact zK1) (show(x.1,x.2)∈nv from hx);show(match lk nv x.1 with|some x=>x|none=>g.sv x.1)=x.2;rw[this])
  have hul:∀L∈ls,∃o',lk u L=some o':=λL hL=>yU (by rw[p3];exact hL);have S1:=S.swap (u:=u) (kl:=ms) (K:=mW w xs vals) (g':=g') hle Jw (λ_=>rfl) (λM hM=>⟨rfl,by
      show(match lk nv M with|some x=>x|none=>g.sv M)=g.sv M;cases hk:lk nv M with|none=>rfl|some x=>exact(hM (by rw[<- Qp];exact rY.2 ⟨_,eU hk,rfl⟩)).elim,rfl⟩)
    (λL hL=>by obtain⟨x,hx⟩:=hul L (Pq has L hL);rw[hx];simp) hX
    (λb hb=>by obtain⟨L,hL,o',h1,h2⟩:=hkb b hb;obtain⟨x,hx⟩:=hul L hL;exact⟨L,x,o',hx,h1,h2⟩)
    (λL x hx=>(p1 _ (eU hx)).2.2)
    (λL x b hx hb=>iU b (by rw[p2];exact jJ.2 ⟨_,eU hx,Ff (p1 _ (eU hx)).1 hb⟩))
    (λL x b L' x' hx xH hb lS=>by
      rw[p2]at zHZ;have:=Fg zHZ (L,x) (L',x') b (eU hx) (eU xH) (Ff (p1 _ (eU hx)).1 hb) (Ff (p1 _ (eU xH)).1 lS);exact jF Prod.fst this)
    (λL x hx=>(p1 _ (eU hx)).2.1) (λb o h=>hn' b o h) σ.log
  refine⟨g',oK,S1.objs_congr λL=>Py (by rw[p3];exact mF cO.1) (λx hx hc=>?_) L⟩;rw[zgB,Px OD x hx hc];exact jF some (zdj hc)
theorem zaX{sf:kS}{o:Oper}{A:aA}{gf:FuncId}{C:MK}{ds:List DV}{vals:List Value}(Gy:jk P Γ)(S:bK P nt B w0 h0 g σ a w)(hd:dA nt o.dst=true)(yN:∀c,o.op ≠ .defer c)
    (hC:Γ.mt gf=some C) (cu:df P gf->(execOp a.eval o).run P w=.ok (.enter gf vals.toArray) w) (OJ:RL (qH g) ds vals)
    (jV:∀f np ls,sf=some (f,np,ls)->∀(k L:Nat),ls[k]? = some L->vals[np+k]? = some (xq (g.bk L)))
    (hA:sF C sf ds (lk σ.ay)=A) (hs:A.safe):iZ P nt B w0 h0 r n i o A σ a w Q:=by
  unfold sF at hA;split at hA;rename_i xs ls ms has;split at hA;rename_i rs ys hCx;split at hA;rename_i hpm;unfold pG at hA;split at hA;rename_i u OD;split at hA;rename_i cO;subst hA;obtain⟨fC,vO⟩:=UW Gy S hC OJ jV has hCx OD cO none;refine qI yN (w':=w) (f:=gf) (args:=vals.toArray) (cu fC) (vO.mono ?_);rintro e w' ⟨g',oK,S1⟩;unfold Oa at oK;rw[hpm]at oK;obtain⟨v,rfl,nS⟩:=oK;refine⟨v,rfl,g',_,rfl,?_⟩;rw[QQ];exact S1.put (v:=v) (d:=resD rs) hd (QO (g:=g') nS) (λL hL=>by rw[Cc]at hL;simp at hL) σ.log;subst hA;exact hs.elim;subst hA;exact hs.elim;subst hA;exact hs.elim;subst hA;exact hs.elim;subst hA;exact hs.elim
end
end Go.Pm
namespace Go.Pm
variable [aG]
open Go.RowKit (Below)
section
variable{P:Program}{Γ:bM}{nt B:Nat}{w0:World}{h0:Fz}{g:Gh}{σ:St}{a:Act}{w:World}{r:Option Nat}{n i:Nat}{Q:Exit->Act->World->Prop}
def zmI(d:DV):List Cl:=match d with | .one (.c c)=>[c]|_=>[.junk]
theorem Ci (S : bK P nt B w0 h0 g σ a w) : ∀ (l : List Operand), RL (iV g) (l.flatMap fun x => zmI (dW σ.env x)) (l.map a.eval)
  | []=>trivial
  | x::r=>by
    have h:=S.ev x;simp only[lX,nU];unfold zmI;cases he:dW σ.env x with
    | one d =>
      cases d with|c c=>rw[he]at h;exact⟨h,Ci S r⟩|agg cs=>exact⟨trivial,Ci S r⟩
    | tup ds=>exact⟨trivial,Ci S r⟩
theorem KJ{h:Fz}{l:List PV}{vs:List Value}(hr:RL (Rep h) l vs):l.length=vs.length/\∀(j:Nat)(x:PV)(v:Value),l[j]? = some x->vs[j]? = some v->Rep h x v :=
 ⟨hr.length,λj x v hx hv=>by obtain⟨u,hu,hxu⟩:=hr.get j x hx;rw[hu]at hv;simp only[bG]at hv;rw[<- hv];exact hxu⟩
theorem zaY(S:bK P nt B w0 h0 g σ a w):∀(l:List Operand){cs:List rZ},BN (dW σ.env) l=some cs→RL (Iu g) cs (l.map a.eval)∧∀L∈lq cs,∃o,lk σ.ay L=some o
  | [],cs,h=>by simp only[BN,bG]at h;subst h;exact⟨trivial,λL hL=>by simp[lq]at hL⟩
  | x::l,cs,h=>by
    simp only[BN]at h;split at h;rename_i c cs' hc hl;simp only[bG]at h;subst h;obtain⟨i1,i2⟩:=zaY S l hl;have hx:=S.ev x;have hxl:=S.evLab x;unfold zCj at hc;split at hc;rename_i v he;simp only[bG]at hc;subst hc;rw[he]at hx;exact⟨⟨hx,i1⟩,i2⟩;rename_i L he;simp only[bG]at hc;subst hc;rw[he]at hx hxl;refine⟨⟨hx,i1⟩,λM hM=>?_⟩;simp only[lq,jW]at hM;rcases hM with rfl|hM
    exact hxl M (by simp[bQ,dw,aY]);exact i2 M hM;cases hc;cases h
theorem QR:∀{cs:List rZ}{vs:List Value},RL (Iu g) cs vs→RL (qH g) (cs.map capD) vs|[],[],_=>trivial|[],_::_,h=>h.elim|_::_,[],h=>h.elim|.v _::_,_::_,h=>⟨h.1,QR h.2⟩|.b _::_,_::_,h=>⟨h.1,QR h.2⟩
theorem zdk{ev:Operand->DV}{fs ls:List Operand}{l:List PV}(h:OQ ev fs ls=some l):∃x cs,fs=[x]/\ls=[]/\ev x=.one (.agg cs)/\jO cs=some l:=by
 unfold OQ at h;split at h;rename_i x;split at h;rename_i cs hx;exact⟨x,cs,rfl,rfl,hx,h⟩;cases h;cases h
theorem QS{o:Oper}{f:FuncId}{first caps:Array Operand}{A:aA}(S:bK P nt B w0 h0 g σ a w)(hd:dA nt o.dst=true)(aU:o.op = .makeFunc (.func f) first caps)
    (hA:act P Γ o (dW σ.env) (lk σ.ay)=A) (hs:A.safe):iZ P nt B w0 h0 r n i o A σ a w Q:=by
  simp only[act,aMf,aU]at hA;have e:∀l:Array Operand,l.map a.eval=(l.toList.map a.eval).toArray:=λl=>by cases l;simp
  split at hA;split at hA;rename_i cs hf hc;subst hA;obtain⟨i1,i2⟩:=zaY S caps.toList hc;refine oW (by simp[aU]) (v:=.func (.func f) #[] (caps.toList.map a.eval).toArray) (w':=w) ?_ ⟨g,_,rfl,?_⟩;simp only[execOp,aU,Instr.makeFunc,Sem.run_bind,Sem.run_pure,Result.andThen_ok,e,hf,qdR];rw [fG];exact S.put (d:=.cl (.clo f cs)) hd ⟨_,rfl,i1⟩ (λL hL=>i2 L (by simpa [bQ,dw,aY]using hL)) _;subst hA;exact hs.elim;split at hA;rename_i l hb;subst hA;obtain⟨x,cs,e1,e2,hx,hl⟩:=zdk hb;have h1:=S.ev x;rw[hx]at h1;obtain⟨vs,hv,hr⟩:=h1;rw[nM hl]at hr;have hr:RL (λ(x:PV) y=>iV g (.p x) y) l vs:=RL.map_left.1 hr;have hr:RL (Rep g.h) l vs:=hr.mono λ_ _ h=>h;have r1:=KJ hr;refine oW (by simp[aU]) (v:=.func (.func f) #[.agg vs.toArray] #[]) (w':=w) ?_ ⟨g,_,rfl,?_⟩;simp only[execOp,aU,Instr.makeFunc,Sem.run_bind,Sem.run_pure,Result.andThen_ok,e,e1,e2,nU,qdR,hv];rw [fG];exact S.put (d:=.p (.fna f l)) hd (Rep.fna f l vs r1.1 r1.2) (jZ _) _;split at hA;rename_i l u l' u' h1 h2;subst hA;have h1:su (lk σ.ay) (first.toList.flatMap λx=>zmI (dW σ.env x))=some (l,u):=h1;have h2:su (lk σ.ay) (caps.toList.flatMap λx=>zmI (dW σ.env x))=some (l',u'):=h2;obtain⟨h',S1,F⟩:=S.freeze ((IZ h1).append (IZ h2));have r1:=KJ (F.repL h1 (λy hy=>dG.2 (.inl hy)) (Ci S first.toList));have r2:=KJ (F.repL h2 (λy hy=>dG.2 (.inr hy)) (Ci S caps.toList));have hv:Rep h' (.fn f l l') (.func (.func f) (first.toList.map a.eval).toArray (caps.toList.map a.eval).toArray):=.fn f l l' _ _ r1.1 r2.1 r1.2 r2.2;refine oW (by simp[aU]) (v:=.func (.func f) (first.toList.map a.eval).toArray (caps.toList.map a.eval).toArray) (w':=w) ?_ ⟨⟨h',g.bk,g.sv,g.iv⟩,_,rfl,?_⟩;simp only[execOp,aU,Instr.makeFunc,Sem.run_bind,Sem.run_pure,Result.andThen_ok,e];rw [fG];exact S1.put (d:=.p (.fn f l l')) hd hv (λL hL=>by simp[bQ,dw,aY]at hL) _;subst hA;exact hs.elim
theorem Ja{h h':Fz}{p:PV}{v:Value}(hs:jC p=true)(hr:Rep h' p v):Rep h p v:=by
 cases hr with|bool b=>exact .bool b|int k n=>exact .int k n|_=>cases hs
theorem Cj{h h':Fz}:∀{l:List PV}{vs:List Value},l.all jC=true→RL (Rep h') l vs→RL (Rep h) l vs
  | [],[],_,_=>trivial
  | [],_::_,_,hr=>hr.elim
  | _::_,[],_,hr=>hr.elim
  | p::l,v::vs,hs,hr=>by
    simp only[qjo,fH]at hs;exact⟨Ja hs.1 hr.1,Cj hs.2 hr.2⟩
theorem zaZ{h h':Fz}{x:PA}{v:Value}(hs:zfT x=true)(hr:pJ h' x v):pJ h x v:=by
 cases x with
 | one p=>exact Ja hs hr
 | agg cs =>
  obtain⟨vs,rfl,hr⟩:=hr;exact⟨vs,rfl,Cj hs hr⟩
theorem KL{h h':Fz}:∀{l:List PA}{vs:List Value},l.all zfT=true→RL (pJ h') l vs→RL (pJ h) l vs
  | [],[],_,_=>trivial
  | [],_::_,_,hr=>hr.elim
  | _::_,[],_,hr=>hr.elim
  | p::l,v::vs,hs,hr=>by
    simp only[qjo,fH]at hs;exact⟨zaZ hs.1 hr.1,KL hs.2 hr.2⟩
theorem zgC{h h':Fz}{rs:List PA}{v:Value}(hs:Uf rs=true)(hr:pU h' rs v):pU h rs v:=by
 match rs,hs,hr with
 | [],_,⟨vs,e,r⟩=>exact⟨vs,e,KL rfl r⟩
 | [x],hs,hr =>
  simp only[Uf,qjo,List.all_nil,qjp]at hs;exact zaZ hs hr
 | x::y::l,hs,⟨vs,e,r⟩=>exact⟨vs,e,KL hs r⟩
def xZ(h h' h2:Fz):Fz:=λb=>match h b,h' b with|none,some _=>none|_,_=>h2 b
theorem UX{h h' h2:Fz}(h1:jX h h')(h3:jX h' h2):jX h (xZ h h' h2):=λb o hb=>by
 show(match h b,h' b with|none,some _=>none|_,_=>h2 b)=some o;rw[hb];exact h3 b o (h1 b o hb)
theorem Fj{h h' h2:Fz}:jX (xZ h h' h2) h2:=λb o hb=>by
 have hb:(match h b,h' b with|none,some _=>none|_,_=>h2 b)=some o:=hb;split at hb;cases hb;exact hb
theorem Pz{h h' h2:Fz}{n:Nat}(h1:jX h h')(hn:∀b o,h2 b=some o->h' b=some o\/n<=b)(b:Nat)(o:FzO)(hb:xZ h h' h2 b=some o):h b=some o\/n<=b:=by
 have Ub:=Fj b o hb;have hb:(match h b,h' b with|none,some _=>none|_,_=>h2 b)=some o:=hb;rcases hn b o Ub with h4|h4
 ·cases e:h b with
  | none=>rw[e,h4]at hb;cases hb
  | some x =>
   have:=h1 b x e;rw[h4]at this;exact .inl this.symm
 exact .inr h4
theorem YJ{h h' h2:Fz}{k:Nat}(hk:h2 k=none):xZ h h' h2 k=none:=by
 show(match h k,h' k with|none,some _=>none|_,_=>h2 k)=none;split;rfl;exact hk
theorem za0:∀{l:List PV}{o:Nat}{x y:PV},zfU l=true→l[o]? = some x→l[o+1]? = some y→jC x=true→jC y=true→False
  | [],o,x,y,_,hx,_,_,_=>by simp at hx
  | [a],0,x,y,_,_,hy,_,_=>by simp at hy
  | [a],o+1,x,y,_,hx,_,_,_=>by simp at hx
  | a::b::r,0,x,y,h,hx,hy,h1,h2=>by
    simp at hx hy;subst hx hy;simp[zfU,h1,h2]at h
  | a::b::r,o+1,x,y,h,hx,hy,h1,h2=>by
    simp only[zfU,fH]at h;exact za0 (l:=b::r) h.2 (by simpa using hx) (by simpa using hy) h1 h2
theorem KN{h h':Fz}{p q:PV}{v:Value}(hs:jC p=true)(hp:Rep h p v)(hq:Rep h' q v):jC q=true:=by
 cases hp with
 | bool b=>cases hq with|bool=>rfl
 | int k n=>cases hq with|int=>rfl
 | _=>cases hs
theorem UY{u:lY}(h:zau u=true):∀x∈u,∃l,x.2=.fbox l/\∀v∈l,jC v=false:=by
 intro y hy;unfold zau at h;split at h;rcases jW.1 hy with rfl|hy
 refine⟨_,rfl,fun v hv => ?_⟩;have:=Aj.1 h v hv;simpa using this;rcases jW.1 hy with rfl|hy
 exact⟨_,rfl,λv hv=>by simp only[kK]at hv;subst hv;rfl⟩;simp at hy;cases h
theorem PD{g:Gh}{ob:Nat→Option AO}{u:lY}{h' h2:Fz}(F:eQ g ob u h')(hu:dY ob u)(vF:∀x∈u,∃l,x.2 = .fbox l∧∀v∈l,jC v=false)(hle:jX h' h2){p:PV}(ha:Anch p) :
  ∀{v:Value},Rep h2 p v->Rep (xZ g.h h' h2) p v:=by
 induction ha with
 | scal v h=>intro x hr;exact Ja h hr
 | nils=>intro x hr;cases hr;exact .nils
 | sl n s get h IU ih =>
  intro x hr;cases hr with
  | sl0 _ _ Ii=>exact .sl0 _ _ Ii
  | sle _ _ a cap Ii=>exact .sle _ _ a cap Ii
  | sl _ _ _ Ii b o cap C ty fr vs hb jV hlen hc hr =>
   cases n with
   | zero=>exact .sle _ _ _ _ Ii
   | succ m =>
   refine .sl _ _ _ Ii b o cap C ty fr vs ?_ jV hlen hc λi j x hi hx=>ih i x (Jy hx) (hr i j x hi hx);show(match g.h b,h' b with|none,some _=>none|_,_=>h2 b)=_;cases e1:g.h b with
   | some y=>exact hb
   | none =>
    cases e2:h' b with
    | none=>exact hb
    | some y =>
     exfalso;have hy:y=.fz (.cells C ty fr):=by
      have:=hle b y e2;rw[hb]at this;exact(dq9 this).symm
     subst hy;obtain⟨L,x,o',hm,hL,hk⟩:=F.new b e1 _ e2;obtain⟨l0,hl0,hns⟩:=vF _ hm;simp only at hl0;subst hl0;rcases hu _ hm with⟨e,s,b',n,get',_,e3⟩|⟨TZ,cells,l,us,e4,e3,e5,e6⟩|⟨te,bb,e,s,b',n,ln,get',_,e3⟩
     cases e3;simp only at e3 e4;cases e3;rw[hL]at e4;simp only[bG]at e4;subst e4;obtain⟨C',XW,nG⟩:=F.box L TZ cells l0 us hL e5 e6 hm;have hk:g.bk L=b:=hk;subst hk;rw[e2]at XW;simp only[bG,FzO.fz.injEq,Obj.cells.injEq]at XW;obtain⟨rfl,rfl,rfl⟩:=XW;obtain⟨j,x0,hx0,hs0⟩:=h 0;have c0:=hc 0 j x0 omY hx0;have hl:=nG.length;have jv:o+0*s+j<l0.length:=by
      have:=(X5.1 c0).1;simp only[qd3]at hl;omega
     obtain⟨v0,hv0,r0⟩:=nG.get _ _ (Ai jv);have hv0:C[o+0*s+j]? = some v0:=by simpa using hv0
     rw[hv0]at c0;simp only[bG]at c0;subst c0;have:=KN hs0 (hr 0 j x0 omY hx0) r0;rw[hns _ (qdb jv)]at this;cases this;cases e3
theorem Cm{x y:PV}(h:Sm x y):jC x=jC y:=by cases h<;>rfl
theorem zgD:∀{d:Nat}{x y:PV},Sm x y->zO d x=true->zO d y=true:=by
 intro d
 induction d with
 | zero=>intro x y _ h;cases h
 | succ d ih =>
  intro x y hs h;have hs2:=Cm hs;cases hs with
  | sl n m s g g' hl hg =>
   have hr:=(Sm.rows (.sl n m s g g' hl hg)).2 0 0;simp only[zO,fH,qjj,Aj]at h ⊢;obtain⟨⟨x,hx,hxs⟩,h2⟩:=h;obtain⟨j,hj⟩:=Yi hx;obtain⟨y,hy,r⟩:=RL.get hr j x hj;refine⟨⟨y,Jy hy,by rw[<- Cm r];exact hxs⟩,λz hz=>?_⟩;obtain⟨k,hk⟩:=Yi hz;obtain⟨u,hu,r⟩:=RL.get' hr k z hk;exact ih r (h2 u (Jy hu))
  | int k a b=>rfl
  | bool a b=>rfl
  | fp l l' o hl hg=>exact h
  | atom p hp=>exact h
theorem UZ{d:Nat}{g:Nat->List PV}(hu:tX g)(h:(g 0).all (zO d)=true){i:Nat}{x:PV}(hx:x∈g i):zO d x=true:=by
 obtain⟨j,hj⟩:=Yi hx;obtain⟨y,hy,r⟩:=RL.get' (hu 0 i) j x hj;exact zgD r (Aj.1 h y (Jy hy))
theorem U0:∀{d:Nat}{x:PV},zO d x=true->Sm x x->Anch x:=by
 intro d
 induction d with
 | zero=>intro x h;cases h
 | succ d ih =>
  intro x h hs;unfold zO at h;split at h;exact .nils;rename_i n s g;rw[fH]at h;have hu:tX g:=hs.rows.2;refine .sl _ _ _ (λi=>?_) λi y hy=>?_;obtain⟨x,hx,hxs⟩:=qjj.1 h.1;obtain⟨j,hj⟩:=Yi hx;obtain⟨y,hy,r⟩:=RL.get (hu 0 i) j x hj;exact⟨j,y,hy,by rw[<- Cm r];exact hxs⟩;refine ih (UZ hu h.2 hy) ?_;obtain⟨j,hj⟩:=Yi hy;obtain⟨z,hz,r⟩:=RL.get (hu i i) j y hj;rw[hj]at hz;cases hz;exact r;exact .scal _ h
theorem zve{l m:List PV}(h:RS l m)(hs:sc2 l=true):sc2 m=true:=by
 simp only[sc2,fH,Aj,Ud]at hs ⊢;refine⟨λx hx=>?_,by rw[<- h.length];exact hs.2⟩;obtain⟨j,hj⟩:=Yi hx;obtain⟨y,hy,r⟩:=RL.get' h j x hj;rw[<- Cm r];exact hs.1 y (Jy hy)
theorem zgE{l m:List PV}(h:RS l m)(hs:l.all jC=true):m.all jC=true:=by
 rw[Aj]at hs ⊢;intro x hx;obtain⟨j,hj⟩:=Yi hx;obtain⟨y,hy,r⟩:=RL.get' h j x hj;rw[<- Cm r];exact hs y (Jy hy)
theorem bK.borrow(S:bK P nt B w0 h0 g σ a w){u:lY}{h' h2 hx:Fz}{w':World}(F:eQ g (lk σ.ay) u h')(hb:xE h' w.heap.size w w')(X0:Hw h2 w')
    (h1:jX g.h hx) (h3:jX hx h2) (h4:∀b o,hx b=some o->g.h b=some o\/w.heap.size<=b):bK P nt B w0 h0 ⟨hx,g.bk,g.sv,g.iv⟩ σ a w' :=
  S.world h1 (λb x lS=>X0 b x (h3 b x lS)) h4 ⟨hb.os,hb.tape,hb.output,hb.size,hb.drawn,λk hk=>hb.block k hk⟩
theorem ownsRow_base{w:World}{base B e s n:Nat}{v:Value}{xs:List Value}(h:w.ownsRow base e s v n xs)(hB:∀k,base<=k->v.ownBlock=some k->B<=k):w.ownsRow B e s v n xs:=by
 refine⟨h.1,?_⟩;rcases h.2 with hn|⟨k,cap,cur,rfl,hk,rest⟩
 exact .inl hn;exact .inr ⟨k,cap,cur,rfl,hB k hk rfl,rest⟩
theorem za1{args:Array Operand}{ev:Operand->DV}{p:DV}(h:args.toList.map ev=[p]):∃x,args = #[x]/\ev x=p:=by
 match hl:args.toList,h with
 | [x],h =>
  simp at h;exact⟨x,by rw[<- qdh (xs:=args),hl],h⟩
 | [],h=>simp at h
 | _::_::_,h=>simp at h
theorem zmJ{e m s:Nat}{get:Nat->List PV}{args:Array Operand}(S:bK P nt B w0 h0 g σ a w)(h:zuP P e (args.toList.map (dW σ.env))=some (m,s,get)):∃x,args = #[x]/\Rep g.h (.sl m s get) (a.eval x):=by
 generalize hl:args.toList.map (dW σ.env)=l at h;unfold zuP at h;split at h;cases h;obtain⟨x,rfl,hx⟩:=za1 hl;exact⟨x,rfl,jl S hx⟩;split at h;rename_i z hz;split at h;rename_i k hk;cases h;obtain⟨x,rfl,hx⟩:=za1 hl;have:=jl S hx;refine⟨x,rfl,?_⟩;generalize a.eval x=v at this;cases this;exact .sl0 _ _ λ_ _=>IY hz hk;cases h;cases h;cases h
theorem U1{α:Type}:∀{l m:List α}{x:α},JI l=some (m,x)→l=m++[x]
  | [],m,x,h=>by cases h
  | d::r,m,x,h=>by
    simp only[JI]at h;split at h;rename_i l' y e;cases h;rw[U1 e];rfl
    · rename_i e;cases h;cases r with
      | nil=>rfl
      | cons y r =>
        simp only[JI]at e;split at e<;>cases e
theorem PE{f:Operand->DV}{args:Array Operand}{ds:List DV}{d:DV}(h:JI (args.toList.map f)=some (ds,d)):∃(xs:List Operand)(x:Operand),args.toList=xs++[x]/\ds=xs.map f/\f x=d:=by
 obtain⟨xs,ys,e1,e2,e3⟩:=List.map_eq_append_iff.1 (U1 h)
 match ys,e3 with
 | [x],e3 =>
  simp only[nU,qdR,ES,qj1]at e3;exact⟨xs,x,e1,e2.symm,e3⟩
theorem U2{f:Operand->Value}{args:Array Operand}{xs:List Operand}{x:Operand}(h:args.toList=xs++[x]):(#[]++Array.map f args ++ #[])=(xs.map f++[f x]).toArray:=by
 have e:args=(xs++[x]).toArray:=by rw[<- h]
 subst e;simp
theorem zgF{o:Oper}{f:Operand}{args:Array Operand}{ts:Array TypeId}{A:aA}{gf:FuncId}{e s b:Nat}{F:List PA→Nat→(Nat→List PV)→ae (Nat×(Nat→List PV))}(fK:jh P gf (.grow e s b F))(S:bK P nt B w0 h0 g σ a w)(hd:dA nt o.dst=true)
    (aU:o.op=.call {callee:=.value f,args,argTypes:=ts}) (NM:a.eval f=.func (.func gf) #[] #[])
    (hA:jY P Γ o (.grow e s b F) (args.toList.map (dW σ.env)) (lk σ.ay)=A) (hs:A.safe):iZ P nt B w0 h0 r n i o A σ a w Q:=by
  unfold jY at hA;simp only at hA;split at hA;rename_i ds L NP;obtain⟨xs,x,fO,rfl,hx⟩:=PE NP;split at hA;rename_i az e' s' b' n get has hL;split at hA;rename_i m get' hF;split at hA;rename_i cO;obtain⟨rfl,rfl,rfl⟩:=cO;subst hA;obtain⟨⟨xg,pg⟩,_⟩:=ig S hx;obtain⟨jr,vg,ys,hys,hr⟩:=S.obj L _ hL;have hav:=S.frozen0.repDs has (λy hy=>hy) (Ce S xs);obtain⟨fC,cu⟩:=fK w g.h B az (xs.map a.eval) (g.sv L) n get m get' hF hav (by rw[<- xg];exact pg) jr vg ⟨ys,hys,hr⟩ (λk hk=>S.own L _ k hL hk) S.hw S.bs;refine qI (by simp[aU]) (w':=w) (f:=gf) (args:=(xs.map a.eval++[g.sv L]).toArray) ?_ (cu.mono ?_);simp only [execOp,aU,resolve,NM,Deferred.ofValue,Sem.run_bind,Sem.run_pure,Result.andThen_ok,invoke];rw[show(#[]++Array.map a.eval args ++ #[])=(xs.map a.eval++[g.sv L]).toArray by rw[<- xg];exact U2 fO];exact dN fC;rintro r0 w' ⟨h2,v',rfl,zgG,Yy,⟨zs,zJ,hrz⟩,hblk,hle,X0,hn2,hX⟩;let g':Gh:=⟨h2,g.bk,λM=>if M=L then v' else g.sv M,g.iv⟩;have lQ:g'.sv L=v':=dH rfl;have zgH:∀M x,lk [(L,AO.vec e' s' b' m get')] M=some x->M=L/\x=.vec e' s' b' m get':=λM x h=>by
    rw[aS]at h;split at h;rename_i e;exact⟨e.symm,(dq9 h).symm⟩;cases h
  have S1 := S.swap (u := [(L, .vec e' s' b' m get')]) (kl := [L]) (K := (g.sv L).ownBlock.toList) (g' := g') hle X0 (fun _ => rfl)
    (λM hM=>⟨rfl,dM λe=>hM (by rw[e];exact kK.2 rfl),rfl⟩)
    (λM hM=>by rw[kK.1 hM,aS,dH rfl];simp) hX
    (λk hk=>⟨L,_,_,by rw[aS,dH rfl],hL,(show(g.sv L).ownBlock=some k by simpa using hk)⟩)
    (λM x hx=>by obtain⟨rfl,rfl⟩:=zgH M x hx;exact⟨⟨Yy,jr.2⟩,vg,zs,by rw[lQ];exact zJ,hrz⟩)
    (λM x k hx hk=>by obtain⟨rfl,rfl⟩:=zgH M x hx;exact hblk k (by rw[<- lQ];exact hk))
    (λM x k M' x' hx xH _ _=>by rw[(zgH M x hx).1,(zgH M' x' xH).1])
    (λM x hx N hN=>by obtain⟨rfl,rfl⟩:=zgH M x hx;simp[dJ]at hN) (λk y hk=>hn2 k y hk) σ.log
  refine⟨v',rfl,g',_,rfl,?_⟩;rw[QQ];refine S1.put (v:=v') hd (d:=.cl (.vec L)) ⟨lQ.symm,zgG⟩ (λM hM=>?_) σ.log;simp[bQ,dw,aY]at hM;subst hM;exact⟨_,by rw[jqO,aS,dH rfl]⟩;subst hA;exact hs.elim;subst hA;exact hs.elim;subst hA;exact hs.elim;rename_i ds NP;obtain⟨xs,x,fO,rfl,hx⟩:=PE NP;split at hA;rename_i az dst has Gw;split at hA;rename_i ie z gB hi hz;split at hA;rename_i l hl;split at hA;rename_i m get' hF;split at hA;rename_i cO;obtain⟨jw,rfl,jr⟩:=cO;subst hA;obtain⟨zv,Gx,zJ⟩:=iP hz hi;have xg:a.eval x=.slice none 0 0:=by
    have:=jl S hx;generalize a.eval x=v at this;cases this;rfl
  have hnb:(a.eval x).ownBlock=none:=by rw[xg];rfl
  have hav:=S.frozen0.repDs has (λy hy=>hy) (Ce S xs);have vg:∃i z,P.info? e=some i/\i.size=s/\i.bytes=ie.bytes/\i.zero=some z/\z.cells.size=s:=⟨ie,zv,hi,jw,rfl,Gx,by rw[zJ,jw]⟩;obtain⟨fC,cu⟩:=fK w g.h B az (xs.map a.eval) (a.eval x) 0 (λ_=>l) m get' hF hav (by rw[xg];rfl) ⟨JL (IY hz hl),jr⟩ vg ⟨[],by rw[xg];exact World.ownsRow_nil w B e s,λi hi=>absurd hi omY⟩ (λk hk=>by rw[hnb]at hk;cases hk) S.hw S.bs;refine qI (by simp[aU]) (w':=w) (f:=gf) (args:=(xs.map a.eval++[a.eval x]).toArray) ?_ (cu.mono ?_);simp only [execOp,aU,resolve,NM,Deferred.ofValue,Sem.run_bind,Sem.run_pure,Result.andThen_ok,invoke];rw[U2 fO];exact dN fC;rintro r0 w' ⟨h2,v',rfl,zgG,Yy,⟨zs,zva,hrz⟩,hblk,hle,X0,hn2,hX⟩;have rX:∀k,v'.ownBlock=some k->w.heap.size<=k/\h2 k=none:=λk hk=>by
    obtain⟨h3,h4⟩:=hblk k hk;exact⟨h3.elim (λh=>by rw[hnb]at h;simp at h) id,h4⟩
  have S2:=S.world hle X0 (λk y hk=>by
    rcases hn2 k y hk with h|h|h
    exact .inl h;exact .inr h;rw[hnb]at h;simp at h) ⟨hX.os,hX.tape,hX.output,hX.size,hX.drawn,λk hk=>hX.block k hk (by rw[hnb];simp)⟩
  have S3:=S2.adopt (t:=dst) (v:=v') (e:=e) (s:=s) (b:=ie.bytes) (n:=m) (get:=get') gB (λk hk=>⟨BH S.bs (rX k hk).1,(rX k hk).2,λL o ho bT=>by
      have fP:gy g L o k:=bT;have:=gZ (S.obj L o ho) fP;have:=(rX k hk).1;omega⟩) (by
    refine⟨⟨Yy,jr⟩,vg,zs,?_,hrz⟩;rw[show((⟨h2,g.bk,g.sv,g.iv⟩:Gh).setSv dst v').sv dst=v' by simp[Gh.setSv]];exact zva)
  refine⟨v',rfl,(⟨h2,g.bk,g.sv,g.iv⟩:Gh).setSv dst v',_,rfl,?_⟩;rw[fG];refine S3.put (v:=v') hd (d:=.cl (.vec dst)) ⟨by simp[Gh.setSv],zgG⟩ ?_ _;intro L hL;simp[bQ,dw,aY]at hL;subst hL;exact⟨_,by rw[aS,dH rfl]⟩;subst hA;exact hs.elim;subst hA;exact hs.elim;subst hA;exact hs.elim;subst hA;exact hs.elim;subst hA;exact hs.elim;subst hA;exact hs.elim
theorem zmK{o:Oper}{f:Operand}{args:Array Operand}{ts:Array TypeId}{A:aA}{gf:FuncId}(Gy:jk P Γ)(S:bK P nt B w0 h0 g σ a w)(hd:dA nt o.dst=true)
    (aU:o.op=.call {callee:=.value f,args,argTypes:=ts}) (NM:a.eval f=.func (.func gf) #[] #[])
    (hA:jY P Γ o (Γ.own gf) (args.toList.map (dW σ.env)) (lk σ.ay)=A) (hs:A.safe):iZ P nt B w0 h0 r n i o A σ a w Q:=by
  have enter:∀x,args = #[x]->df P gf->(execOp a.eval o).run P w=.ok (.enter gf #[a.eval x]) w:=by
    rintro x rfl fC;simp only[execOp,aU,resolve,NM,Deferred.ofValue,Sem.run_bind,Sem.run_pure,Result.andThen_ok,invoke];rw[show(#[]++Array.map a.eval #[x] ++ #[]) = #[a.eval x]by simp];exact dN fC
  have fK:=Gy.own gf;unfold jY at hA;split at hA;subst hA;exact hs.elim;rename_i e s b hk;rw[hk]at fK;split at hA;rename_i L hf caps fO;obtain⟨x,y,rfl,hx,hy⟩:=J9 fO;obtain⟨⟨xg,pg⟩,_⟩:=ig S hx;split at hA;rename_i e' s' b' m get ag hL xk;split at hA
  · rename_i cO;obtain⟨rfl,rfl,rfl⟩:=cO;subst hA;have qZ:zuN m (λi j=>(JG (Γ.cfn hf) caps ag get i j).isSome) (nH (Γ.cfn hf) caps ag get):=hs;obtain⟨jr,vg,xs,hxs,hr⟩:=S.obj L _ hL;have iU:∀k,(g.sv L).ownBlock=some k->g.h k=none:=λk hk=>(S.own L _ k hL hk).2;have tN:=jl S hy;generalize Ql:a.eval y=yv at tN;cases tN with
    | fn _ _ _ fv cv l1 l2 hf1 EH =>
      have e1:fv=[]:=qdn l1.symm;subst e1;obtain⟨ii,zz,hi1,hi2,_⟩:=vg;obtain⟨fC,cu⟩:=fK w g.h B (g.sv L) m get hf caps cv ag (Γ.cfn hf) (Gy.cmp hf) (KG l2 EH) xk ⟨ii,hi1,hi2⟩ jr.2 ⟨xs,hxs,hr⟩ (by rw[<- xg];exact pg) S.hw iU S.bs qZ;refine qI (by simp[aU]) (w':=w) (f:=gf) (args:=#[a.eval x,a.eval y]) ?_ ?_;simp only [execOp,aU,resolve,NM,Deferred.ofValue,Sem.run_bind,Sem.run_pure,Result.andThen_ok,invoke];rw[show(#[]++Array.map a.eval #[x,y] ++ #[]) = #[a.eval x,a.eval y]by simp];exact dN fC;rw [xg,Ql];refine cu.mono ?_;rintro r0 w' ⟨rfl,⟨xs',zK2,tK⟩,hg⟩;refine⟨.tuple #[],rfl,g,_,rfl,?_⟩;rw[fG];have hold:∀k,k<w.heap.size->¬(g.sv L).ownBlock=some k->w'.heap[k]? = w.heap[k]?:=λk hk iK=>hg.block k hk (λe=>iK e.symm)
      have S' := S.write2 (o' := .vec e' s' b' m (JH m (nH (Γ.cfn hf) caps ag get) get)) hL (fun b hb => hb) ⟨⟨hg.os, hg.tape, hg.output, hg.size, fun k hk => hold k (qdi hk S.bs) (fun e => by have := (S.own L _ k hL e).1; omega)⟩, hg.drawn⟩
        hold ⟨⟨vH jr.1 _,jr.2⟩,⟨ii,zz,hi1,hi2,by assumption⟩,xs',zK2,tK⟩ (λM hM=>by simp[dJ]at hM)
      exact S'.put (d:=.tup []) hd ⟨[],rfl,trivial⟩ (λL hL=>by simp[bQ]at hL) _
  subst hA;exact hs.elim;subst hA;exact hs.elim;subst hA;exact hs.elim;rename_i e s b hk;rw[hk]at fK;split at hA;rename_i m s' get dst fO Gw;obtain⟨x,rfl,hx⟩:=zmJ S fO;split at hA;rename_i ie z gB hi hz;split at hA;rename_i cO;obtain⟨rfl,jw,rfl,jr⟩:=cO;subst hA;have qZ:m*ie.bytes<=140737488355328/\m<=9223372036854775807:=hs;obtain⟨zv,Gx,zJ⟩:=iP hz hi;obtain⟨fC,cu⟩:=fK w g.h (a.eval x) m get hx S.hw qZ.1 qZ.2;refine qI (by simp[aU]) (w':=w) (f:=gf) (args:=#[a.eval x]) (enter x rfl fC) (cu.mono ?_);rintro r0 w' ⟨h',v',rfl,pg,⟨xs,hxs,hr⟩,hnh,hb,hle,Jw,hn'⟩;refine⟨v',rfl,?_⟩;have S2:=S.world hle Jw hn' hb;have rX:∀k,v'.ownBlock=some k->w.heap.size<=k:=λk hk=>(hxs.lt k hk).1;have S3:=S2.adopt (t:=dst) (v:=v') (e:=e) (s:=s') (b:=ie.bytes) (n:=m) (get:=get) gB (λk hk=>⟨BH S.bs (rX k hk),hnh k hk,λL o ho bT=>by
      have fP:gy g L o k:=bT;have:=gZ (S.obj L o ho) fP;have:=rX k hk;omega⟩) (by
    refine⟨⟨hx.un.rows.2,jr⟩,⟨ie,zv,hi,jw,rfl,Gx,by rw[zJ,jw]⟩,xs,?_,hr⟩;rw[show((⟨h',g.bk,g.sv,g.iv⟩:Gh).setSv dst v').sv dst=v' by simp[Gh.setSv]];exact ownsRow_base hxs λk hk _=>BH S.bs hk)
  refine⟨(⟨h',g.bk,g.sv,g.iv⟩:Gh).setSv dst v',_,rfl,?_⟩;rw[fG];refine S3.put (v:=v') hd (d:=.cl (.vec dst)) ⟨by simp[Gh.setSv],pg⟩ ?_ _;intro L hL;simp[bQ,dw,aY]at hL;subst hL;exact⟨_,by rw[aS,dH rfl]⟩;subst hA;exact hs.elim;subst hA;exact hs.elim;subst hA;exact hs.elim;rename_i e s b F hk;rw[hk]at fK;split at hA;rename_i az u dst has Gw;split at hA;rename_i n get rs ie z hF gB hi hz;split at hA
  · rename_i cO;obtain⟨jw,rfl,jr,zCE,zCF⟩:=cO;subst hA;obtain⟨zv,Gx,zJ⟩:=iP hz hi;obtain⟨h',S1,F'⟩:=S.freeze (xR has);have fO:=F'.repDs has (λy hy=>hy) (Ce S args.toList);obtain⟨fC,cu⟩:=fK w h' az (args.toList.map a.eval) n get rs hF fO S1.hw;refine qI (by simp[aU]) (w':=w) (f:=gf) (args:=(args.toList.map a.eval).toArray) ?_ (cu.mono ?_);simp only [execOp,aU,resolve,NM,Deferred.ofValue,Sem.run_bind,Sem.run_pure,Result.andThen_ok,invoke];rw[show(#[]++Array.map a.eval args ++ #[])=(args.toList.map a.eval).toArray by cases args;simp];exact dN fC;rintro r0 w' ⟨h2,v',xs,rfl,hxr,pg,Yy,⟨ys,hys,hr⟩,hnh,hb,hle,X0,hn2⟩;have hlr:∀i,i<n->RL (Rep (xZ g.h h' h2)) (get i) ((ys.drop (i*s)).take s):=λi hi=>by
      cases u with
      | nil =>
        refine(hr i hi).mono λ_ _ h=>Rep.mono (λb o hbo=>?_) h;show(match g.h b,h' b with|none,some _=>none|_,_=>h2 b)=some o;cases e1:g.h b with
        | some y=>exact hbo
        | none =>
          cases e2:h' b with
          | none=>exact hbo
          | some y =>
            obtain⟨L,x,o',hm,_⟩:=F'.new b e1 _ e2;simp at hm
      | cons x l =>
        have h3:=zCE;unfold zf3 at h3;split at h3;rename_i e;cases e;split at h3;rename_i e;exact(hr i hi).mono_mem λp v hp h=>PD F' (xR has) (UY e) hle (U0 (UZ Yy h3 hp) (by
          obtain⟨j,hj⟩:=Yi hp;obtain⟨z,hz,r⟩:=RL.get (Yy i i) j p hj;rw[hj]at hz;cases hz;exact r)) h
        exact Cj (zgE (Yy 0 i) h3) (hr i hi)
    have S2:=S.borrow F' hb X0 (UX F'.le hle) Fj (Pz F'.le hn2);have rX:∀k,v'.ownBlock=some k->w.heap.size<=k:=λk hk=>(hys.lt k hk).1;have S3:=S2.adopt (t:=dst) (v:=v') (e:=e) (s:=s) (b:=ie.bytes) (n:=n) (get:=get) gB (λk hk=>⟨BH S.bs (rX k hk),YJ (hnh k hk),λL o ho bT=>by
        have fP:gy g L o k:=bT;have:=gZ (S.obj L o ho) fP;have:=rX k hk;omega⟩) (by
      refine⟨⟨Yy,jr⟩,⟨ie,zv,hi,jw,rfl,Gx,by rw[zJ,jw]⟩,ys,?_,hlr⟩;rw[show((⟨xZ g.h h' h2,g.bk,g.sv,g.iv⟩:Gh).setSv dst v').sv dst=v' by simp[Gh.setSv]];exact ownsRow_base hys λk hk _=>BH S.bs hk)
    refine⟨Uo v' xs rs,rfl,(⟨xZ g.h h' h2,g.bk,g.sv,g.iv⟩:Gh).setSv dst v',_,rfl,?_⟩;rw[fG];have hvx:RL (Rep (xZ g.h h' h2)) rs xs:=Cj zCF hxr;cases rs with
    | nil =>
      refine S3.put (v:=v') hd (d:=.cl (.vec dst)) ⟨by simp[Gh.setSv],pg⟩ ?_ _;intro L hL;simp[bQ,dw,aY]at hL;subst hL;exact⟨_,by rw[aS,dH rfl]⟩
    | cons x l =>
      refine S3.put (v:=.tuple (v'::xs).toArray) hd (d:=.tup (.c (.vec dst)::(x::l).map λv=>.c (.p v))) ⟨v'::xs,rfl,⟨by simp[Gh.setSv],pg⟩,?_⟩ ?_ _;refine RL.map_left.2 (hvx.mono λ_ _ h=>h);intro L hL;have Qr:L=dst:=by
        simp only[bQ,lX,dG,jJ,rY]at hL;rcases hL with hL|⟨d,⟨v,_,rfl⟩,hL⟩
        simpa [dw,aY]using hL;simp[dw,aY]at hL
      subst Qr;exact⟨_,by rw[aS,dH rfl]⟩
  subst hA;exact hs.elim;subst hA;exact hs.elim;subst hA;exact hs.elim;rename_i e s b F hk;rw[hk]at fK;exact zgF (Γ:=Γ) fK S hd aU NM hA hs
theorem zmL{g:Gh}{ob:Nat→Option AO}{u:lY}{h' h2:Fz}{n s:Nat}{get:Nat→List PV}{v:Value}(F:eQ g ob u h')(hu:dY ob u)(vF:u.all zsd=true)(hle:jX h' h2)(hg:∀i,sc2 (get i)=true)
    (hr:Rep h2 (.sl n s get) v):Rep (xZ g.h h' h2) (.sl n s get) v:=by
  cases hr with
  | sl0 _ _ Ii=>exact .sl0 _ _ Ii
  | sle _ _ a cap Ii=>exact .sle _ _ a cap Ii
  | sl _ _ _ Ii b o cap C ty fr vs hb jV hlen hc hr =>
    cases n with
    | zero=>exact .sle _ _ _ _ Ii
    | succ m =>
    have hsc:∀i j x,(get i)[j]? = some x->jC x=true:=λi j x hx=>by
      have:=hg i;simp only[sc2,fH,Aj]at this;exact this.1 x (Jy hx)
    refine .sl _ _ _ Ii b o cap C ty fr vs ?_ jV hlen hc λi j x hi hx=>Ja (hsc i j x hx) (hr i j x hi hx);show(match g.h b,h' b with|none,some _=>none|_,_=>h2 b)=_;cases e1:g.h b with
    | some y=>exact hb
    | none =>
      cases e2:h' b with
      | none=>exact hb
      | some y =>
        exfalso;have hy:y=.fz (.cells C ty fr):=by
          have:=hle b y e2;rw[hb]at this;exact(dq9 this).symm
        subst hy;obtain⟨L,x,o',hm,hL,hk⟩:=F.new b e1 _ e2;have hna:=Aj.1 vF _ hm;have zUC:2<=(get 0).length:=by
          have:=hg 0;simp only[sc2,fH,Ud]at this;exact this.2
        rcases hu _ hm with⟨e,s,b',n,get',_,e3⟩|⟨TZ,cells,l,us,e4,e3,e5,e6⟩|⟨te,bb,e,s,b',n,ln,get',_,e3⟩
        simp only at e3;subst e3;cases hna;simp only at e3 e4;subst e3;rw[hL]at e4;simp only[bG]at e4;subst e4;obtain⟨C',XW,nG⟩:=F.box L TZ cells l us hL e5 e6 hm;have hk:g.bk L=b:=hk;subst hk;rw[e2]at XW;simp only[bG,FzO.fz.injEq,Obj.cells.injEq]at XW;obtain⟨rfl,rfl,rfl⟩:=XW;obtain⟨x0,hx0⟩:∃x,(get 0)[0]? = some x:=⟨_,Ai omY⟩;obtain⟨x1,hx1⟩:∃x,(get 0)[1]? = some x:=⟨_,Ai omY⟩;have c0:=hc 0 0 x0 omY hx0;have c1:=hc 0 1 x1 omY hx1;simp only[jqM,qdQ]at c0 c1;have hl:=nG.length;have l0:o<l.length:=by
          have:=(X5.1 c0).1;simp at hl;omega
        have l1:o+1<l.length:=by
          have:=(X5.1 c1).1;simp at hl;omega
        obtain⟨v0,hv0,r0⟩:=nG.get o _ (Ai l0);obtain⟨v1,hv1,r1⟩:=nG.get (o+1) _ (Ai l1);have hv0:C[o]? = some v0:=by simpa using hv0
        have hv1:C[o+1]? = some v1:=by simpa using hv1
        rw[hv0]at c0;rw[hv1]at c1;simp only[bG]at c0 c1;subst c0 c1;exact za0 hna (Ai l0) (Ai l1) (KN (hsc 0 0 x0 hx0) (hr 0 0 x0 omY hx0) r0) (KN (hsc 0 1 x1 hx1) (hr 0 1 x1 omY hx1) r1);simp only at e3;subst e3;cases hna
theorem zgI{g:Gh}{ob:Nat->Option AO}{u:lY}{h' h2:Fz}{r:List PA}{v:Value}(F:eQ g ob u h')(hu:dY ob u)(hl:Ug u r=true)(hle:jX h' h2)(hr:pU h2 r v):pU (xZ g.h h' h2) r v:=by
 unfold Ug at hl;split at hl
 ·rename_i n s get x us;have Ii:Sm (.sl n s get) (.sl n s get):=Rep.un (h:=h2) (v:=v) hr;have Yy:tX get:=Ii.rows.2;cases hg:sc2 (get 0)with
  | true =>
   simp only[hg]at hl;exact zmL (n:=n) (s:=s) (get:=get) (v:=v) F hu hl hle (λi=>zve (Yy 0 i) hg) hr
  | false =>
   simp only[hg,fH]at hl;exact PD F hu (λy hy=>UY hl.1 y hy) hle (U0 hl.2 Ii) hr
 cases hl
theorem U3{o:Oper}{gf:FuncId}{args:Array Operand}{az pre post:List PA}{pv qv:List Value}{u:lY}{A:aA}(fK:jk P Γ)(S:bK P nt B w0 h0 g σ a w)(hd:dA nt o.dst=true)
    (yN:∀c,o.op ≠ .defer c) (zRZ:RL (pJ g.h) pre pv) (zId:RL (pJ g.h) post qv) (has:gQ (lk σ.ay) (args.toList.map (dW σ.env))=some (az,u))
    (zCG:df P gf->(execOp a.eval o).run P w=.ok (.enter gf (pv++args.toList.map a.eval++qv).toArray) w) {iW:List Nat} {rs:List PA}
    (hC:(Γ.fn gf (pre++az++post)).o=some rs) (hA:kZ iW u rs=A):iZ P nt B w0 h0 r n i o A σ a w Q:=by
    obtain⟨h',S1,F⟩:=S.freeze (xR has);have fO:=F.repDs has (λy hy=>hy) (Ce S args.toList);have up:∀{l:List PA}{vs:List Value},RL (pJ g.h) l vs->RL (pJ h') l vs:=λhr=>hr.mono λx v hx=>by
      cases x with
      | one p=>exact Rep.mono F.le hx
      | agg cs=>obtain⟨ws,e,hr⟩:=hx;exact⟨ws,e,hr.mono λ_ _ h=>h.mono F.le⟩
    have Gy:RL (pJ h') (pre++az++post) (pv++args.toList.map a.eval++qv):=((up zRZ).append fO).append (up zId);obtain⟨fC,cu⟩:=fK.fn gf (pre++az++post) rs hC w h' _ Gy S1.hw;refine qI yN (w':=w) (f:=gf) (args:=(pv++args.toList.map a.eval++qv).toArray) (zCG fC) (cu.mono ?_);rintro e w' ⟨h2,v,rfl,nS,hb,hle,X0,hn2⟩;refine⟨v,rfl,?_⟩;have fin:∀{g':Gh},bK P nt B w0 h0 g' σ a w'->pU g'.h rs v->∃g'' σ',σ'=σ.upd i o.dst (rd iW) (resD rs) [] []/\bK P nt B w0 h0 g'' σ' (a.put o.dst v) w':=λS2 hr =>
      ⟨_,_,rfl,by rw[fG];exact S2.put (v:=v) (d:=resD rs) hd (QO hr) (λL hL=>by rw[Cc]at hL;simp at hL) σ.log⟩
    subst hA;unfold kZ;cases hsc:Uf rs with
    | true=>exact fin (S.borrow F hb X0 (λ_ _ h=>h) (λb x hx=>hle b x (F.le b x hx)) (λ_ _ h=>.inl h)) (zgC hsc nS)
    | false =>
      cases hl:Ug u rs with
      | true=>exact fin (S.borrow F hb X0 (UX F.le hle) Fj (Pz F.le hn2)) (zgI F (xR has) hl hle nS)
      | false =>
        exact⟨⟨h2,g.bk,g.sv,g.iv⟩,_,rfl,by
          rw[fG];exact(S1.world hle X0 hn2 hb).put (v:=v) (d:=resD rs) hd (QO (g:=g) nS) (λL hL=>by rw[Cc]at hL;simp at hL) σ.log⟩
theorem zgJ{o:Oper}{f:Operand}{args:Array Operand}{ts:Array TypeId}{A:aA}(fK:jk P Γ)(S:bK P nt B w0 h0 g σ a w)(hd:dA nt o.dst=true)
    (aU:o.op=.call {callee:=.value f,args,argTypes:=ts})
    (hA:act P Γ o (dW σ.env) (lk σ.ay)=A) (hs:A.safe):iZ P nt B w0 h0 r n i o A σ a w Q:=by
  simp only[act,aCl,aU]at hA;split at hA;rename_i gf caps hf;split at hA;rename_i C hC;obtain⟨cv,NM,jV⟩:=(ig S hf).1;refine zaX (vals:=args.toList.map a.eval++cv) fK S hd (by simp[aU]) hC (λfC=>?_) ((Ce S args.toList).append (QR jV)) (zgz jV (by simp)) hA hs;simp only[execOp,aU,resolve,NM,Deferred.ofValue,Sem.run_bind,Sem.run_pure,Result.andThen_ok,invoke];rw[show(#[]++Array.map a.eval args++cv.toArray)=(args.toList.map a.eval++cv).toArray by cases args;simp];exact dN fC;subst hA;exact hs.elim;rename_i gf first caps hf
  split at hA
  · rename_i C hC;have tN:=jl S hf;generalize NM:a.eval f=fvv at tN;cases tN with
    | fn _ _ _ fv cv l1 l2 hf1 EH =>
      have hp:∀{l:List PV}{vs:List Value},RL (Rep g.h) l vs->RL (qH g) (l.map λv=>DV.p v) vs:=λhr=>RL.map_left.2 hr;refine zaX (vals:=fv++args.toList.map a.eval++cv) fK S hd (by simp[aU]) hC (λfC=>?_) (((hp (KG l1 hf1)).append (Ce S args.toList)).append (hp (KG l2 EH))) (λ_ _ _ e=>by cases e) hA hs;simp only[execOp,aU,resolve,NM,Deferred.ofValue,Sem.run_bind,Sem.run_pure,Result.andThen_ok,invoke];rw[show(fv.toArray++Array.map a.eval args++cv.toArray)=(fv++args.toList.map a.eval++cv).toArray by cases args;simp];exact dN fC
  split at hA;split at hA
  · have tN:=jl S hf;generalize NM:a.eval f=fvv at tN;cases tN with
    | fn _ _ _ fv cv l1 l2 hf1 EH =>
      have e1:fv=[]:=qdn l1.symm;have e2:cv=[]:=qdn l2.symm;subst e1 e2;exact zmK fK S hd aU NM hA hs
  subst hA;exact hs.elim;split at hA
  · rename_i az u has;have tN:=jl S hf;generalize NM:a.eval f=fvv at tN;cases tN with
    | fn _ _ _ fv cv l1 l2 hf1 EH =>
      split at hA;rename_i rs hrs;refine U3 fK S hd (by simp[aU]) (YD (KG l1 hf1)) (YD (KG l2 EH)) has (λfC=>?_) hrs hA;simp only[execOp,aU,resolve,NM,Deferred.ofValue,Sem.run_bind,Sem.run_pure,Result.andThen_ok,invoke];rw[show(fv.toArray++Array.map a.eval args++cv.toArray)=(fv++args.toList.map a.eval++cv).toArray by cases args;simp];exact dN fC;subst hA;exact hs.elim
  subst hA;exact hs.elim;rename_i gf cells hf;split at hA
  · rename_i az u has;have tN:=jl S hf;generalize NM:a.eval f=fvv at tN;cases tN with
    | fna _ _ vs l1 hf1 =>
      split at hA;rename_i rs hrs;refine U3 (pre:=[.agg cells]) (post:=[]) (pv:=[.agg vs.toArray]) (qv:=[]) fK S hd (by simp[aU]) ⟨⟨vs,rfl,KG l1 hf1⟩,trivial⟩ trivial has (λfC=>?_) (by simpa using hrs) hA;simp only[execOp,aU,resolve,NM,Deferred.ofValue,Sem.run_bind,Sem.run_pure,Result.andThen_ok,invoke];rw[show(#[Value.agg vs.toArray]++Array.map a.eval args ++ #[])=([Value.agg vs.toArray]++args.toList.map a.eval++[]).toArray by cases args;simp];exact dN fC;subst hA;exact hs.elim
  subst hA;exact hs.elim;subst hA;exact hs.elim
theorem Fp{o:Oper}{A:aA}(fK:jk P Γ)(S:bK P nt B w0 h0 g σ a w)(hd:dA nt o.dst=true)(hA:act P Γ o (dW σ.env) (lk σ.ay)=A)(hs:A.safe) :
  iZ P nt B w0 h0 r n i o A σ a w Q:=by
 have qY:=hA;cases aU:o.op with
 | move x=>simp only[act,aCl,aU]at hA;subst hA;exact UE S hd (.inl aU)
 | assign x=>simp only[act,aCl,aU]at hA;subst hA;exact UE S hd (.inr aU)
 | pick c x y =>
  simp only[act,aPk,aU]at hA;split at hA;rename_i t hc;subst hA;exact zgd S hd aU hc;subst hA;exact hs.elim
 | alloc e =>
  simp only[act,aAl,aU]at hA;split at hA;rename_i z hz;exact zc8 S hd aU hz hA hs;subst hA;exact hs.elim
 | box e x =>
  simp only[act,aBx,aU]at hA;split at hA;rename_i d m hx hm;split at hA;rename_i cO;simp only[fH]at cO;exact zmv S hd aU hx cO.2 hA hs;subst hA;exact hs.elim;subst hA;exact hs.elim
 | build t parts =>
  simp only[act,aBd,aU]at hA;split at hA;rename_i z hf hz;split at hA;rename_i l hl;subst hA;refine zc9 S hd aU hf hz hl (λL hL=>?_);rcases J8 _ _ _ hl L hL with h|⟨x,_,h⟩
  rw[O4 hz]at h;simp at h;exact S.evLab x.2 L h;subst hA;exact hs.elim;subst hA;exact hs.elim
 | buildSlice t m parts=>exact Kv S hd aU qY hs
 | load t x=>exact zge S hd aU qY hs
 | store t x y=>exact zde S hd aU qY hs
 | nilCheck x=>exact QM S hd aU qY hs
 | binOp op t x y t'=>exact zdc S hd aU qY hs
 | unOp op t x=>exact zgf S hd aU qY hs
 | convert t1 t2 x=>exact UH S hd aU qY hs
 | fieldAddr t x f=>exact Ob S hd aU qY hs
 | indexAddr t x y=>exact Oc S hd aU qY hs
 | extract x k=>exact UI S hd aU qY hs
 | index t x y=>exact zda S hd aU qY hs
 | field t x f=>exact zdb S hd aU qY hs
 | slice t x lo hi mx =>
  cases mx with|none=>simp only[act,aU]at hA;exact zdi S hd aU hA hs|some m=>simp only[act,aU]at hA;subst hA;exact hs.elim
 | lookup t x y k =>
  simp only[act,aU]at hA;exact YB S hd aU hA hs
 | mapUpdate t x y z =>
  simp only[act,aU]at hA;exact zdh S hd aU hA hs
 | makeMap t x =>
  cases x with
  | none =>
   simp only[act,aMm,aU]at hA;split at hA;split at hA;split at hA;rename_i hE;exact YC S hd aU hE hA hs;subst hA;exact hs.elim;subst hA;exact hs.elim;subst hA;exact hs.elim
  | some x=>simp only[act,aMm,aU]at hA;subst hA;exact hs.elim
 | makeSlice t x y=>simp only[act,aU]at hA;exact Oe S hd aU hA hs
 | makeFunc fn first caps =>
  cases fn with|func f=>exact QS S hd aU qY hs|_=>simp only[act,aMf,aU]at hA;subst hA;exact hs.elim
 | call c =>
  obtain⟨callee,args,ts⟩:=c;cases callee with
  | value f=>exact zgJ fK S hd aU qY hs
  | invoke x m=>simp only[act,aU]at hA;subst hA;exact hs.elim
  | builtin b =>
   cases b with|len=>exact zmw S hd aU qY hs|max=>exact zmx S hd aU qY hs|min=>exact zmy S hd aU qY hs|append=>exact Yx S hd aU qY hs|_=>simp only[act,aU]at hA;subst hA;exact hs.elim
 | _=>simp only[act,aU]at hA;subst hA;exact hs.elim
end
end Go.Pm
namespace Go.Pm
variable [aG]
open Go.RowKit (Below)
theorem kV{α:Type}{f:α→α}{l:List (Nat×α)}:∀{ks:List Nat}{t:Nat}{x:α},lk (wR f l ks) t=some x→∃y,lk l t=some y∧x=f y∧t∈ks
  | [],t,x,h=>by simp[wR,lk]at h
  | k::ks,t,x,h=>by
    simp only[wR]at h;split at h;rename_i d hd;rw[aS]at h;split at h;rename_i e;simp only[bG]at h;subst e;exact⟨d,hd,h.symm,jM⟩;obtain⟨y,h1,h2,h3⟩:=kV h;exact⟨y,h1,h2,jB _ h3⟩;obtain⟨y,h1,h2,h3⟩:=kV h;exact⟨y,h1,h2,jB _ h3⟩
theorem pW{α:Type}{f:α→α}{l:List (Nat×α)}:∀{ks:List Nat}{t:Nat}{y:α},lk l t=some y→t∈ks→lk (wR f l ks) t=some (f y)
  | [],t,y,_,ht=>by simp at ht
  | k::ks,t,y,h,ht=>by
    simp only[wR];by_cases hk:k=t;subst hk;rw[h];rw[aS,dH rfl];have ht':t∈ks:=(jW.1 ht).elim (fun h=>absurd h.symm hk) fun h=>h;split;rw[aS,dM hk];exact pW h ht';exact pW h ht'
section
variable{P:Program}{Γ:bM}{nt B:Nat}{w0:World}{h0:Fz}{g:Gh}{σ:St}{a:Act}{w:World}{r:Option Nat}{n i:Nat}{Q:Exit->Act->World->Prop}
theorem PG{c:Cl}{x:Value}(h:iV g c x):iV g (rG c) x:=by
 cases c<;>exact h
theorem AA:∀{cs:List Cl}{vs:List Value},RL (iV g) cs vs→RL (iV g) (cs.map rG) vs|[],[],_=>trivial|[],_::_,h=>h.elim|_::_,[],h=>h.elim|_::_,_::_,h=>⟨PG h.1,AA h.2⟩
theorem KO{d:D1}{x:Value}(h:zS g d x):zS g (xK d) x:=by
 cases d with
 | c y=>exact PG h
 | agg cs=>obtain⟨vs,rfl,hr⟩:=h;exact⟨vs,rfl,AA hr⟩
theorem GU:∀{cs:List D1}{vs:List Value},RL (zS g) cs vs→RL (zS g) (cs.map xK) vs|[],[],_=>trivial|[],_::_,h=>h.elim|_::_,[],h=>h.elim|_::_,_::_,h=>⟨KO h.1,GU h.2⟩
theorem zgK{d:DV}{x:Value}(h:qH g d x):qH g (QC d) x:=by
 cases d with
 | one y=>exact KO h
 | tup ds=>obtain⟨vs,rfl,hr⟩:=h;exact⟨vs,rfl,GU hr⟩
theorem GV{c:Cl}:∀M∈aY (rG c),M∈aY c:=by
 cases c<;>first|exact λ_ h=>h|(intro M h;simp[rG,aY]at h)
theorem GX{cs:List Cl}:∀M∈(cs.map rG).flatMap aY,M∈cs.flatMap aY:=by
 intro M hM;simp only[jJ,rY]at hM ⊢;obtain⟨_,⟨c,hc,rfl⟩,hM⟩:=hM;exact⟨c,hc,GV M hM⟩
theorem CB{d:D1}:∀M∈dw (xK d),M∈dw d:=by
 cases d with|c y=>exact GV|agg cs=>exact GX
theorem YL{d:DV}:∀M∈bQ (QC d),M∈bQ d:=by
 cases d with
 | one y=>exact CB
 | tup ds =>
  intro M hM;simp only[QC,bQ,jJ,rY]at hM ⊢;obtain⟨_,⟨d,hd,rfl⟩,hM⟩:=hM;exact⟨d,hd,CB M hM⟩
theorem U4{o:AO}:∀M∈dJ (IW o),M∈dJ o:=by
 cases o with|box ty cs=>exact GX|_=>exact λ_ h=>h
theorem zdl{B L:Nat}{o:AO}(h:NS P g w B L o):NS P g w B L (IW o):=by
 cases o with
 | box ty cs=>obtain⟨C,hC,hr⟩:=h;exact⟨C,hC,AA hr⟩
 | _=>exact h
theorem GY{L:Nat}{o:AO}:gy g L (IW o)=gy g L o:=by cases o<;>rfl
theorem bK.env'(S:bK P nt B w0 h0 g σ a w){t:Nat}{d:DV}(hv:qH g d (a.tmps.getD t undef))(hl:∀L∈bQ d,∃o,lk σ.ay L=some o) :
  bK P nt B w0 h0 g {σ with env:=(t,d)::σ.env} a w:=by
 refine⟨S.dfr,S.size,?_,S.obj,S.own,S.sep,S.hw,S.le0,S.hn,S.below,S.bs,?_,S.clO⟩;intro u e hu;simp only[aS]at hu;split at hu;rename_i h;simp only[bG]at hu;subst hu;rw[<- h];exact hv;exact S.env u e hu;intro u e hu;simp only[aS]at hu;split at hu;simp only[bG]at hu;subst hu;exact hl;exact S.clE u e hu
theorem Jb{P:Program}{e:TypeId}:RS (BK P e) (BK P e):=by
 unfold BK;split
 ·rename_i z hz;split
  ·rename_i l hl;obtain⟨vs,hv⟩:∃vs,jf vs=some z:=by
    unfold gu at hz
    repeat' split at hz
    all_goals first|(cases hz;done)|(cases hz;exact⟨_,by assumption⟩)
   have h:=kE (g:=⟨λ_=>none,λ_=>0,λ_=>undef,λ_ _=>undef⟩) _ _ hv;rw[nM hl]at h;have h:=RL.map_left.1 h;exact xN (uf h)
  trivial
 trivial
theorem bK.coerce(S:bK P nt B w0 h0 g σ a w){L e:Nat}{ie:TypeInfo}{z:List Cl}{get:Nat→List PV}(hu:tX get)(hL:lk σ.ay L=none)(hi:P.info? e=some ie)(hz:gu P e=some z)(hp:0<ie.size) :
  bK P nt B w0 h0 (g.setSv L (.slice none 0 0)) {σ with ay:=(L,.vec e ie.size ie.bytes 0 get)::σ.ay} a w:=by
 obtain⟨zv,Gx,zJ⟩:=iP hz hi;refine S.newVec hL (.refl B w) (λ_ _=>rfl) (λb hb=>by simp[Value.ownBlock]at hb) ⟨⟨hu,hp⟩,⟨ie,zv,hi,rfl,rfl,Gx,zJ⟩,[],?_,λk hk=>absurd hk omY⟩;rw[show(g.setSv L (.slice none 0 0)).sv L=.slice none 0 0 by simp[Gh.setSv]];exact World.ownsRow_nil w B e ie.size
theorem KP{h:Fz}{v:Value}(hr:Rep h .nils v):v=.slice none 0 0:=by cases hr;rfl
theorem sH:∀(l:List (Nat×Nat×Nat))(σ σ':St)(g:Gh),mf P l σ=some σ'→bK P nt B w0 h0 g σ a w→∃g',bK P nt B w0 h0 g' σ' a w
  | [],σ,σ',g,h,S=>by simp[mf]at h;subst h;exact⟨g,S⟩
  | (t,L,e)::l,σ,σ',g,h,S=>by
    simp only[mf]at h;split at h;rename_i ht;split at h;rename_i ie z hL hi hz;split at h;rename_i hp;have S1:=S.coerce (get:=λ_=>BK P e) (JL Jb) hL hi hz (qjK (qdJ hp));have hv:a.tmps.getD t undef=.slice none 0 0:=KP (S.env t _ ht);have S2:=S1.env' (t:=t) (d:=.cl (.vec L)) (by rw[hv];simp[qH,zS,iV,Gh.setSv,Value.oneCell']) (λM hM=>by simp[bQ,dw,aY]at hM;subst hM;exact⟨_,by rw[aS,dH rfl]⟩);exact sH l _ σ' _ h S2;cases h;cases h;exact sH l σ σ' g h S;cases h
theorem sK:∀(l:List (Nat×Nat×Nat×Nat))(σ σ':St)(g:Gh),mg P l σ=some σ'→bK P nt B w0 h0 g σ a w→∃g',bK P nt B w0 h0 g' σ' a w
  | [],σ,σ',g,h,S=>by simp[mg]at h;subst h;exact⟨g,S⟩
  | (bx,k,L,e)::l,σ,σ',g,h,S=>by
    simp only[mg]at h;split at h;rename_i ty cs EQ;split at h;rename_i hk;split at h;rename_i ie z hL hi hz;split at h;rename_i hp;have S1:=S.coerce (get:=λ_=>BK P e) (JL Jb) hL hi hz (qjK (qdJ hp));have iK:L≠bx:=λe=>by subst e;rw[hL]at EQ;cases EQ
    have KQ:lk ({σ with ay:=(L,AO.vec e ie.size ie.bytes 0 (λ_=>BK P e))::σ.ay}:St).ay bx=some (.box ty cs):=by
      show lk ((L,AO.vec e ie.size ie.bytes 0 (λ_=>BK P e))::σ.ay) bx=_;rw[aS,dM iK];exact EQ
    obtain⟨C,hC,hr⟩:=S1.obj bx _ KQ;obtain⟨v,hv,hkv⟩:=hr.get k _ hk;have hv0:v=.slice none 0 0:=KP hkv;subst hv0;have U5:C.toList.set k (.slice none 0 0)=C.toList:=by
      apply dq5;intro j;by_cases hj:j=k;subst hj;have jv:=(ER.1 hv).1;rw[qjO jv,hv];rw[qjm (λe=>hj e.symm)]
    have S2 := S1.write (o' := .box ty (cs.set k (.vec L))) (w' := w) KQ (fun b hb => hb) (.refl B w) (fun _ _ => rfl)
      ⟨C,hC,by rw[<- U5];exact hr.set k (by simp[iV,Gh.setSv,Value.oneCell'])⟩
      (λM hM=>by
        simp only[dJ,jJ]at hM;obtain⟨c,hc,hM⟩:=hM;rcases dq3 hc with h|h
        exact S1.clO bx _ KQ M (jJ.2 ⟨c,h,hM⟩);subst h;simp[aY]at hM;subst hM;exact⟨_,by rw[aS,dH rfl]⟩)
    exact sK l _ σ' _ h S2;cases h;cases h;exact sK l σ σ' g h S;cases h;cases h
theorem bK.adopt0(S:bK P nt B w0 h0 g σ a w){t:Nat}{o':AO}{g':Gh}(ht:lk σ.ay t=none)(hh:g'.h=g.h)(hs:∀M,M≠t→iO g g' M)
    (hv:∀k,¬gy g' t o' k) (hr:NS P g' w B t o') (zK:dJ o'=[]):bK P nt B w0 h0 g' {σ with ay:=(t,o')::σ.ay} a w:=by
  have iK:∀L o,lk σ.ay L=some o->L≠t:=λL o h e=>by subst e;rw[ht]at h;cases h
  have ed:∀L o,lk σ.ay L=some o->iO g g' L:=λL o h=>hs L (iK L o h);have hle:jX g.h g'.h:=by rw[hh];exact λ_ _ h=>h
  have jU:∀L o,lk ((t,o')::σ.ay) L=some o->(L=t/\o=o')\/(L≠t/\lk σ.ay L=some o):=by
    intro L o h;rw[aS]at h;split at h;rename_i e;simp only[bG]at h;exact .inl ⟨e.symm,h.symm⟩;rename_i e;exact .inr ⟨λe'=>e e'.symm,h⟩
  refine S.change (g':=g') ed hle (by rw[hh];exact S.hw) (λb o h=>.inl (by rw[hh]at h;exact h)) (.refl _ B w) ?_ ?_ ?_ ?_ ?_;intro L o ho;rcases jU L o ho with⟨rfl,rfl⟩|⟨_,ho⟩
  exact hr;exact jH (S.obj L o ho) (ed L o ho) (λM hM=>by obtain⟨o',kN⟩:=S.clO L o ho M hM;exact ed M o' kN) hle λ_ _=>rfl;intro L o k ho hk;rcases jU L o ho with⟨rfl,rfl⟩|⟨_,ho⟩
  exact(hv k hk).elim;rw[fV (ed L o ho)]at hk;rw[hh];exact S.own L o k ho hk;intro L o k L' o2 ho kN hk je;rcases jU L o ho with⟨rfl,rfl⟩|⟨_,pz⟩<;>rcases jU L' o2 kN with⟨rfl,rfl⟩|⟨_,mZ⟩
  rfl;exact(hv k hk).elim;exact(hv k je).elim;rw [fV (ed L o pz)]at hk;rw [fV (ed L' o2 mZ)]at je;exact S.sep L o k L' o2 pz mZ hk je;intro L o ho;refine⟨o,?_⟩;rw[aS,dM (λe=>iK L o ho e.symm)];exact ho;intro L o ho M hM;rcases jU L o ho with⟨rfl,rfl⟩|⟨_,ho⟩
  rw[zK]at hM;simp at hM;obtain⟨o2,pz⟩:=S.clO L o ho M hM;exact⟨o2,by rw[aS,dM (λe=>iK M o2 pz e.symm)];exact pz⟩
theorem sN:∀(l:List (Nat×Nat×Nat×Nat×Nat))(σ σ':St)(g:Gh),mr P l σ=some σ'→bK P nt B w0 h0 g σ a w→∃g',bK P nt B w0 h0 g' σ' a w
  | [],σ,σ',g,h,S=>by simp[mr]at h;subst h;exact⟨g,S⟩
  | (bx,k,L,te,e)::l,σ,σ',g,h,S=>by
    simp only[mr]at h;split at h;rename_i ty cs EQ;split at h;rename_i hk;split at h;rename_i it zt hL hit hzt;split at h;rename_i ie z hi hz;split at h;rename_i hp;simp only[fH]at hp;have hs1:=kY hp.1;have jr:0<ie.size:=qjK (qdJ hp.2);obtain⟨zv,Gx,zJ⟩:=iP hz hi;obtain⟨tv,htv,hts⟩:=iP hzt hit;let g':=g.setVv L (.slice none 0 0) (λ_=>.slice none 0 0);have lQ:g'.sv L=.slice none 0 0:=by simp[g',Gh.setVv]
    have S1 := S.adopt0 (t := L) (o' := .vv te it.bytes e ie.size ie.bytes 0 (fun _ => 0) (fun _ _ => BK P e)) (g' := g') hL rfl Yv
      (λk hk=>by
        rcases hk with hk|⟨i,hi,_⟩
        rw[lQ]at hk;cases hk;omega)
      ⟨⟨λ_ _ _ _=>Jb,jr⟩,⟨it,tv,hit,hs1,rfl,htv,by rw[hts,hs1]⟩,⟨ie,zv,hi,rfl,rfl,Gx,zJ⟩,by rw[lQ];exact World.ownsRow_nil w B te 1,λi hi=>absurd hi omY,λi k hi=>absurd hi omY⟩ rfl
    have iK:L≠bx:=λe=>by subst e;rw[hL]at EQ;cases EQ
    have KQ:lk ({σ with ay:=(L,AO.vv te it.bytes e ie.size ie.bytes 0 (λ_=>0) (λ_ _=>BK P e))::σ.ay}:St).ay bx=some (.box ty cs):=by
      show lk ((L,AO.vv te it.bytes e ie.size ie.bytes 0 (λ_=>0) (λ_ _=>BK P e))::σ.ay) bx=_;rw[aS,dM iK];exact EQ
    obtain⟨C,hC,hr⟩:=S1.obj bx _ KQ;obtain⟨v,hv,hkv⟩:=hr.get k _ hk;have hv0:v=.slice none 0 0:=KP hkv;subst hv0;have U5:C.toList.set k (.slice none 0 0)=C.toList:=by
      apply dq5;intro j;by_cases hj:j=k;subst hj;have jv:=(ER.1 hv).1;rw[qjO jv,hv];rw[qjm (λe=>hj e.symm)]
    have S2 := S1.write (o' := .box ty (cs.set k (.vec L))) (w' := w) KQ (fun b hb => hb) (.refl B w) (fun _ _ => rfl)
      ⟨C,hC,by rw[<- U5];exact hr.set k ⟨lQ.symm,rfl⟩⟩
      (λM hM=>by
        simp only[dJ,jJ]at hM;obtain⟨c,hc,hM⟩:=hM;rcases dq3 hc with h|h
        exact S1.clO bx _ KQ M (jJ.2 ⟨c,h,hM⟩);subst h;simp[aY]at hM;subst hM;exact⟨_,by rw[aS,dH rfl]⟩)
    exact sN l _ σ' _ h S2;cases h;cases h;cases h;exact sN l σ σ' g h S;cases h;cases h
theorem CE{ob:Nat→Option AO}:∀{ks:List Nat}{x:Nat×AO},x∈EZ ob ks→∃ty cells l,ob x.1=some (.box ty cells)∧x.2 = .fbox l∧jg ob cells=some (l,[])
  | [],x,h=>by simp[EZ]at h
  | k::ks,x,h=>by
    simp only[EZ]at h;split at h;rename_i ty cells hk;split at h;rename_i l hl;rcases jW.1 h with rfl|h
    exact⟨ty,cells,l,hk,rfl,hl⟩;exact CE h;exact CE h;exact CE h
theorem U6{ob:Nat->Option AO}{ks:List Nat}:dY ob (EZ ob ks):=λx hx=>by
 obtain⟨ty,cells,l,h1,h2,h3⟩:=CE hx;exact .inr (.inl ⟨ty,cells,l,[],h1,h2,QG h3,λy hy=>by simp at hy⟩)
theorem KR{ob:Nat→Option AO}:∀{ks:List Nat},dY ob (N8 ob ks)
  | []=>dY.nil ob
  | L::r=>λx hx=>by
    simp only[N8]at hx;split at hx;rename_i e s b n get hL;rcases jW.1 hx with rfl|hx
    exact .inl ⟨_,_,_,_,_,hL,rfl⟩;exact(KR x hx).mono λy hy=>by simp only[N8,hL];exact jB _ hy
    rename_i hn;refine(KR x hx).mono λy hy=>?_;show y∈N8 ob (L::r);unfold N8;split;exact jB _ hy;exact hy
theorem sO:∀(l:List Nat)(σ σ':St)(g:Gh),mD l σ=some σ'→bK P nt B w0 h0 g σ a w→∃g',bK P nt B w0 h0 g' σ' a w
  | [],σ,σ',g,h,S=>by simp[mD]at h;subst h;exact⟨g,S⟩
  | t::r,σ,σ',g,h,S=>by
    unfold mD at h;split at h;rename_i x hx;have hv:=S.env t _ hx;split at h;exact sO r _ σ' g h S;split at h;rename_i v u hf;obtain⟨h',S1,F⟩:=S.freeze (Yw hf);have hr:=F.rep hf (λy hy=>hy) hv;exact sO r _ σ' _ h (S1.env' (t:=t) (d:=.p v) hr (λL hL=>by simp[bQ,dw,aY]at hL));cases h;cases h
theorem za2{P:Program}{e:Nat}{g:Gh}{x:Cl}{v:Value}(r:iV g x v):iV g (E5 P e x) v:=by
 unfold E5;split;split;exact Rep.up (.nil _ _ (JL Jb)) r;exact r;exact r
theorem U7{P:Program}{e:Nat}{x:Cl}:aY (E5 P e x)=aY x:=by
 unfold E5;split;split<;>rfl;rfl
theorem zgL{P:Program}{e b:Nat}{g:Gh}{cs:List Cl}{vs:List Value}(r:RL (iV g) cs vs):RL (iV g) (Um b (E5 P e) cs) vs:=by
 unfold Um;split;rename_i x hx;obtain⟨v,hv,xg⟩:=r.get b _ hx;have:=r.set b (a:=E5 P e x) (b:=v) (za2 xg);have e:vs.set b v=vs:=by
  obtain⟨jv,hv⟩:=ER.1 hv;rw[<- hv,jqK]
 rwa[e]at this;exact r
theorem U8{P:Program}{e b:Nat}{cs:List Cl}{M:Nat}(h:M∈(Um b (E5 P e) cs).flatMap aY):M∈cs.flatMap aY:=by
 unfold Um at h;split at h;rename_i x hx;obtain⟨c,hc,hM⟩:=jJ.1 h;rcases dq3 hc with hc|rfl
 exact jJ.2 ⟨c,hc,hM⟩;rw [U7]at hM;exact jJ.2 ⟨x,Jy hx,hM⟩;exact h
theorem CG{α:Type}{k:Nat}{x:α}:∀{l:List (Nat×α)},(∃y,lk l k=some y)→∀n,lk (Yn k x l) n=lk ((k,x)::l) n
  | [],⟨_,h⟩,_=>by cases h
  | (j,y)::r,h,n=>by
    unfold Yn;cases hb:Nat.beq j k with
    | true =>
      have:=kY hb;subst this;simp only[aS];split<;>rfl
    | false =>
      have iK:=dq4 hb;obtain⟨z,hz⟩:=h;rw[aS,dM iK]at hz;have ih:=CG (x:=x) ⟨z,hz⟩ n;simp only[aS]at ih ⊢;by_cases h1:j=n;rw[dH h1,dM (λe=>iK (h1.trans e.symm)),dH h1];rw[dM h1,ih,dM h1]
theorem bK.lk_congr(S:bK P nt B w0 h0 g σ a w){τ:St}(h1:∀L,lk τ.env L=lk σ.env L)(h2:∀L,lk τ.ay L=lk σ.ay L):bK P nt B w0 h0 g τ a w :=
 ⟨S.dfr,S.size,λt d ht=>S.env t d (by rw[<- h1];exact ht),λL o ho=>S.obj L o (by rw[<- h2];exact ho),λL o b ho=>S.own L o b (by rw[<- h2];exact ho),
  λL o b L' o' ho kN=>S.sep L o b L' o' (by rw[<- h2];exact ho) (by rw[<- h2];exact kN),S.hw,S.le0,S.hn,S.below,S.bs,
  λt d ht L hL=>by rw[h2];exact S.clE t d (by rw[<- h1];exact ht) L hL,λL o ho M hM=>by rw[h2];exact S.clO L o (by rw[<- h2];exact ho) M hM⟩
theorem zdm{k b e L:Nat}(S:bK P nt B w0 h0 g σ a w):bK P nt B w0 h0 g (nf1 P k L b e σ) a w:=by
 unfold nf1;split;split;rename_i x hx;exact(S.env' (d:=.one (.c (E5 P e x))) (za2 (S.env L _ hx)) λM hM=>S.clE L _ hx M (by simpa [bQ,dw,U7]using hM)).lk_congr (CG ⟨_,hx⟩) λ_=>rfl;rename_i cs hx;obtain⟨vs,hv,hr⟩:=S.env L _ hx;exact(S.env' (d:=.one (.agg (Um b (E5 P e) cs))) ⟨vs,hv,zgL hr⟩ λM hM=>S.clE L _ hx M (U8 hM)).lk_congr (CG ⟨_,hx⟩) λ_=>rfl;exact S;split;rename_i ty cs hL;obtain⟨D,hD,hr⟩:=S.obj L _ hL;exact(S.write2 (w':=w) (o':=.box ty (Um b (E5 P e) cs)) hL (λ_ h=>h) (.refl B w) (λ_ _ _=>rfl) ⟨D,hD,zgL hr⟩ λM hM=>S.clO L _ hL M (U8 hM)).lk_congr (λ_=>rfl) (CG ⟨_,hL⟩);exact S
theorem zU:∀{l:List (Nat×Nat×Nat×Nat)}{σ:St},bK P nt B w0 h0 g σ a w→bK P nt B w0 h0 g (IX P l σ) a w|[],_,S=>S|(_,_,_,_)::l,_,S=>zU (l:=l) (zdm S)
theorem QT{k:Keep}{s:St}{g:Gh}{σ:St}(h:xM P k σ=some s)(S:bK P nt B w0 h0 g σ a w):∃g',bK P nt B w0 h0 g' s a w:=by
 unfold xM at h;split at h;cases h;rename_i σ1 h1;obtain⟨g1,S1⟩:=sH k.coT σ σ1 g h1 S;split at h;cases h;rename_i σ2 h2;obtain⟨g2',S2'⟩:=sK k.coB σ1 σ2 g1 h2 S1;split at h;cases h;rename_i σ3 h3;obtain⟨g2,S2⟩:=sN k.coV σ2 σ3 g2' h3 S2';simp only[]at h;split at h;rename_i zN;simp only[bG]at h;subst h;simp only[fH,Aj]at zN;obtain⟨EH,hc2⟩:=zN;have Ye:∀{iW l:List Nat},Ym iW l=true->∀L∈l,L∈iW:=by
  intro iW l h L hL;have:=Aj.1 h L hL;simpa using this
 refine⟨g2,S2.dfr,S2.size,?_,?_,?_,?_,S2.hw,S2.le0,S2.hn,S2.below,S2.bs,?_,?_⟩;intro t d ht;obtain⟨y,h1,rfl,_⟩:=kV ht;exact zgK (S2.env t y h1);intro L o ho;obtain⟨y,h1,rfl,_⟩:=kV ho;exact zdl (S2.obj L y h1);intro L o b ho hb;obtain⟨y,h1,rfl,_⟩:=kV ho;rw[GY]at hb;exact S2.own L y b h1 hb;intro L o b L' o' ho kN hb lS;obtain⟨y,h1,rfl,_⟩:=kV ho;obtain⟨y',h1',rfl,_⟩:=kV kN;rw[GY]at hb lS;exact S2.sep L y b L' y' h1 h1' hb lS;intro t d ht L hL;have hm:=Ye (EH (t,d) (eU ht)) L hL;obtain⟨y,h1,rfl,_⟩:=kV ht;obtain⟨o,ho⟩:=S2.clE t y h1 L (YL L hL);exact⟨_,pW ho hm⟩;intro L o ho M hM;have hm:=Ye (hc2 (L,o) (eU ho)) M hM;obtain⟨y,h1,rfl,_⟩:=kV ho;obtain⟨o',kN⟩:=S2.clO L y h1 M (U4 M hM);exact⟨_,pW kN hm⟩;cases h
theorem YM{n:Nat}(S:bK P nt B w0 h0 g σ a w):∃g',bK P nt B w0 h0 g' (zcW σ n) a w:=by
  unfold zcW;generalize (n-1000000)/64=bx;generalize (n-1000000)%64=kx;split;exact⟨g,S⟩;split;rename_i ty cs EQ;split;rename_i L hk;split;rename_i e s b len get hL;obtain⟨h',S1,F⟩:=S.freeze (u:=[(L,.fvec s len get)]) (λx hx=>by
    simp only[kK]at hx;subst hx;exact .inl ⟨_,_,_,_,_,hL,rfl⟩)
  have iK:L≠bx:=λe=>by subst e;rw[hL]at EQ;cases EQ
  have KQ:lk ([(L,AO.fvec s len get)]++σ.ay) (bx)=some (.box ty cs):=by
    show lk ((L,AO.fvec s len get)::σ.ay) _=_;rw[aS,dM iK];exact EQ
  obtain⟨C,hC,hr⟩:=S1.obj _ _ KQ;obtain⟨v,hv,hkv⟩:=hr.get _ _ hk;have zfo:Rep h' (.sl len s get) v:=by
    have hkv:v=g.sv L/\_:=hkv;rw[hkv.1];exact F.vec L e s b len get hL (by simp)
  have U5:C.toList.set kx v=C.toList:=by
    apply dq5;intro j;by_cases hj:j=kx;subst hj;have jv:=(ER.1 hv).1;rw[qjO jv,hv];rw[qjm (λe=>hj e.symm)]
  have S2 := S1.write (o' := .box ty (cs.set kx (.p (.sl len s get)))) (w' := w) KQ (fun b hb => hb) (.refl B w) (fun _ _ => rfl)
    ⟨C,hC,by rw[<- U5];exact hr.set _ zfo⟩
    (λM hM=>by
      simp only[dJ,jJ]at hM;obtain⟨c,hc,hM⟩:=hM;rcases dq3 hc with h|h
      exact S1.clO _ _ KQ M (jJ.2 ⟨c,h,hM⟩);subst h;simp[aY]at hM)
  exact⟨_,S2⟩;exact⟨g,S⟩;exact⟨g,S⟩;exact⟨g,S⟩
theorem PH:∀(l:List Nat)(σ:St)(g:Gh),bK P nt B w0 h0 g σ a w→∃g',bK P nt B w0 h0 g' (coP l σ) a w
  | [],σ,g,S=>⟨g,S⟩
  | n::r,σ,g,S=>by
    obtain⟨g1,S1⟩:=YM (n:=n) S;exact PH r _ g1 S1
theorem dR{k:Keep}{s:St}(h:canon P k σ=some s)(S:bK P nt B w0 h0 g σ a w):∃g',bK P nt B w0 h0 g' s a w:=by
 obtain⟨h',S1,_⟩:=S.freeze ((U6 (ob:=lk σ.ay) (ks:=k.coF)).append (KR (ob:=lk σ.ay) (ks:=k.coF)));unfold canon at h;split at h;rename_i s1 h1;obtain⟨g0,S0⟩:=PH k.coF (zcV k.coF σ) _ S1;obtain⟨g1,S2⟩:=sO k.coZ (coP k.coF (zcV k.coF σ)) s1 _ h1 S0;split at h;rename_i s2 h2;obtain⟨g2,S3⟩:=QT h2 S2;cases h;exact⟨g2,zU S3⟩;cases h;cases h
end
end Go.Pm
namespace Go.Pm
variable [aG]
open Go.RowKit (Below)
section
variable{P:Program}{Γ:bM}{nt B:Nat}{w0:World}{h0:Fz}{g:Gh}{σ:St}{a:Act}{w:World}{r:Option Nat}{n i:Nat}{Q:Exit->Act->World->Prop}
theorem Jc{o:Oper}{R R':Act->World->Prop}(h:o.wpIn (FR r) n P a w R Q)(hR:∀a w,R a w->R' a w):o.wpIn (FR r) n P a w R' Q:=by
 refine⟨h.1,?_⟩;have h2:=h.2;generalize (o.semAt (FR r).round a.eval).run P w=res at h2 ⊢
 match res,h2 with
 | .ok (.value v) w',h2=>exact hR _ _ h2
 | .ok .skip w',h2=>exact hR _ _ h2
 | .ok (.defer d) w',h2=>exact hR _ _ h2
 | .ok (.enter f args) w',h2 =>
  refine⟨h2.1,h2.2.mono ?_⟩;intro e zu he;cases e with|returned v=>exact hR _ _ he|panicked ch=>exact he|outgrown=>exact he
 | .ok (.row row args) w',h2=>exact⟨h2.1,h2.2.mono λv zu hv=>hR _ _ hv⟩
 | .ok (.round l f tmps x y) w',h2 =>
  refine⟨h2.1,h2.2.mono ?_⟩;intro e zu he;cases e with|returned v=>exact hR _ _ he|panicked ch=>exact he|outgrown=>exact he
 | .halt (.panic v) w',h2=>exact h2
theorem zmM{o:Oper}{R:Act->World->Prop}{Q':Exit->Act->World->Prop}(h:o.wpIn (FR r) n P a w R Q')(hp:∀ch a w,Q' (.panic ch) a w->Q (.panic ch) a w)(ho:LetsOut Q'->LetsOut Q):o.wpIn (FR r) n P a w R Q:=by
 refine⟨h.1,?_⟩;have h2:=h.2;generalize (o.semAt (FR r).round a.eval).run P w=res at h2 ⊢
 match res,h2 with
 | .ok (.value v) w',h2=>exact h2
 | .ok .skip w',h2=>exact h2
 | .ok (.defer d) w',h2=>exact h2
 | .ok (.enter f args) w',h2 =>
  refine⟨h2.1,h2.2.mono ?_⟩;intro e zu he;cases e with|returned v=>exact he|panicked ch=>exact hp _ _ _ he|outgrown=>exact ho he
 | .ok (.row row args) w',h2=>exact h2
 | .ok (.round l f tmps x y) w',h2 =>
  refine⟨h2.1,h2.2.mono ?_⟩;intro e zu he;cases e with|returned v=>exact he|panicked ch=>exact hp _ _ _ he|outgrown=>exact ho he
 | .halt (.panic v) w',h2=>exact hp _ _ _ h2
theorem qJ {ops : Array Oper} {l2 : List Nat} : ∀ (l1 : List Nat) (a : Act) (w : World), wpOpsIn (FR r) n P ops (fun e a w => match e with | .normal => wpOpsIn (FR r) n P ops Q l2 a w | e => Q e a w) l1 a w → wpOpsIn (FR r) n P ops Q (l1 ++ l2) a w
  | [],a,w,h=>h
  | i::l1,a,w,h=>by
    simp only[qdB,wpOpsIn]at h ⊢;split at h;exact qJ l1 a w h;split at h;rename_i hw;rw[dH hw];exact zmM (Jc h λa w h=>qJ l1 a w h) (λch a w h=>h) (λ⟨a,w,h⟩=>⟨a,w,h⟩);rename_i hw;rw[dM hw];exact⟨h.1,qJ l1 _ w h.2⟩
theorem YN{o:Oper}{R:Act->World->Prop}(h:o.wpIn (FR r) n P a w R Q):o.wpIn (FR r) n P a w (λa' w'=>R a' w'/\∃v ds,a'=({a with defers:=ds}:Act).put o.dst v) Q:=by
 refine⟨h.1,?_⟩;have h2:=h.2;generalize (o.semAt (FR r).round a.eval).run P w=res at h2 ⊢
 match res,h2 with
 | .ok (.value v) w',h2=>exact⟨h2,v,a.defers,rfl⟩
 | .ok .skip w',h2=>exact⟨h2,undef,a.defers,rfl⟩
 | .ok (.defer d) w',h2=>exact⟨h2,undef,d::a.defers,rfl⟩
 | .ok (.enter f args) w',h2 =>
  refine⟨h2.1,h2.2.mono ?_⟩;intro e zu he;cases e with|returned v=>exact⟨he,v,a.defers,rfl⟩|panicked ch=>exact he|outgrown=>exact he
 | .ok (.row row args) w',h2=>exact⟨h2.1,h2.2.mono λv zu hv=>⟨hv,v,a.defers,rfl⟩⟩
 | .ok (.round l f tmps x y) w',h2 =>
  refine⟨h2.1,h2.2.mono ?_⟩;intro e zu he;cases e with|returned v=>exact⟨he,v,a.defers,rfl⟩|panicked ch=>exact he|outgrown=>exact he
 | .halt (.panic v) w',h2=>exact h2
def Kp(D:List Nat)(a a':Act):Prop:=(∀t,t∉D->a'.tmps.getD t undef=a.tmps.getD t undef)/\a'.tmps.size=a.tmps.size/\(GG∉D->a'.defers=a.defers)/\∀d∈a'.defers,d∈a.defers\/∃b,d.target=.collected b
theorem Kp.refl(D:List Nat)(a:Act):Kp D a a:=⟨λ_ _=>rfl,rfl,λ_=>rfl,λ_ h=>.inl h⟩
theorem Kp.put{D:List Nat}{a0 a:Act}(h:Kp D a0 a){dst:Option Nat}(hd:∀t,dst=some t->t∈D)(v:Value)(ds:List Deferred)(OJ:ds=a.defers):Kp D a0 (({a with defers:=ds}:Act).put dst v):=by
 subst OJ;cases dst with
 | none=>exact h
 | some t =>
  refine⟨λu hu=>?_,by simp[Act.put,h.2.1],λhr=>h.2.2.1 hr,λd hd=>h.2.2.2 d hd⟩;have iK:t≠u:=λe=>hu (e▸hd t rfl);rw[<- h.1 u hu];simp[Act.put,yP,qdv iK]
theorem vP{ops:Array Oper}{tmps:Array Value}{j g:Nat}{b:Bool}(hg:(ops[j]?).bind (·.dst)=some g)(hv:tmps.getD g undef=.bool b):yielded ops tmps j=some b:=by
 unfold yielded;rw[hg];simp only[jqc];rw[yP]at hv;cases h:tmps[g]? with|none=>rw[h]at hv;simp[undef]at hv|some v=>rw[h]at hv;simp only[qdI]at hv;subst hv;rfl
theorem sQ{ops:Array Oper}{tmps:Array Value}{j g:Nat}(hg:(ops[j]?).bind (·.dst)=some g)(hv:tmps.getD g undef=undef):yielded ops tmps j=none:=by
 unfold yielded;rw[hg];simp only[jqc];rw[yP]at hv;cases h:tmps[g]? with|none=>rfl|some v=>rw[h]at hv;simp only[qdI]at hv;subst hv;rfl
theorem bK.skip(S:bK P nt B w0 h0 g σ a w){dst:Option Nat}(hd:dA nt dst=true):bK P nt B w0 h0 g (σ.skip dst) (a.put dst undef) w:=by
 have:=S.put (d:=.cl .undef) (v:=undef) hd rfl (λL hL=>by simp[bQ,dw,aY]at hL) σ.log;cases dst<;>exact this
theorem yc(fK:jk P Γ){ops:Array Oper}{K:St→Prop}{D:List Nat}{a0:Act}{ad:List Deferred}(hD:∀(j:Nat)(o:Oper),ops[j]? = some o→∀t,o.dst=some t→t∈D)
    (hQ:∀σ',K σ'->∀g' a' w',bK P nt B w0 h0 g' σ' a' w'->Kp D a0 a'->a'.defers=ad->Q .normal a' w') :
    ∀(l:List Oper)(i:Nat)(σ:St)(g:Gh)(a:Act)(w:World),(∀j,j<l.length->l[j]? = ops[i+j]?)->jQ P Γ nt ops i l K σ->bK P nt B w0 h0 g σ a w->Kp D a0 a->a.defers=ad ->
      wpOpsIn (FR r) n P ops Q (List.range' i l.length) a w:=by
  intro l
  induction l with
  | nil=>intro i σ g a w _ h S hk had;exact hQ σ h g a w S hk had
  | cons o l ih =>
    intro i σ g a w hl h S kQ had;have ho:ops[i]? = some o:=by have:=hl 0 (by simp);simpa using this.symm
    have vk:∀j,j<l.length->l[j]? = ops[i+1+j]?:=λj hj=>by have:=hl (j+1) (by rw[xm];omega);rw[Yg]at this;rw[this];congr 1;omega
    simp only[xm,Yj,wpOpsIn,ho];simp only[jQ]at h;split at h;exact h.elim;rename_i hd;have run:∀(σ:St),bK P nt B w0 h0 g σ a w->nC (act P Γ o (dW σ.env) (lk σ.ay)) (l9 σ i o) i o.dst (jQ P Γ nt ops (i+1) l K) σ->o.wpIn (FR r) n P a w (wpOpsIn (FR r) n P ops Q (List.range' (i+1) l.length)) Q:=by
      intro σ S h;obtain⟨hs,hk⟩:=Fa.1 h;refine Jc (YN (Fp (i:=i) (Q:=Q) (r:=r) (n:=n) fK S hd rfl hs)) ?_;rintro a' w' ⟨⟨EJ,g',σ',IQ,S'⟩,v,ds,rfl⟩;exact ih (i+1) _ g' _ w' vk (hk σ' IQ) (S'.log _) (kQ.put (hD i o ho) v ds ((put_defers _ _ _).symm.trans EJ)) (EJ.trans had)
    have skp:∀(σ:St),bK P nt B w0 h0 g σ a w->jQ P Γ nt ops (i+1) l K (σ.skip o.dst)->wpOpsIn (FR r) n P ops Q (List.range' (i+1) l.length) (a.put o.dst undef) w:=by
      intro σ S h;exact ih (i+1) _ g _ w vk h (S.skip hd) (kQ.put (hD i o ho) undef a.defers rfl) ((put_defers _ _ _).trans had)
    split at h;rename_i hg;rw[dH (by simp[Region.wanted,hg])];exact run σ S h;rename_i j want hg;split at h;exact h.elim;rename_i gt TN;split at h
    · rename_i b hb;have hv:a.tmps.getD gt undef=.bool b:=by
        have:=S.env gt _ hb;generalize a.tmps.getD gt undef=v at this;cases this;rfl
      have hy:=vP TN hv;have S1:∀c,b=c->bK P nt B w0 h0 g (σ.setT gt (.bool c)) a w:=by
        intro c hc;refine S.env' (t:=gt) (d:=.bool c) ?_ (jZ _);rw[hv,hc];exact .bool c
      have h2:=qp.1 h;cases b with
      | true =>
        have h3:=h2.1 rfl;cases want with|true=>rw[dH (by simp[Region.wanted,hg,hy])];exact run _ (S1 true rfl) h3|false=>rw[dM (by simp[Region.wanted,hg,hy])];exact⟨λ_ _=>trivial,skp _ (S1 true rfl) h3⟩
      | false =>
        have h3:=h2.2 rfl;cases want with|true=>rw[dM (by simp[Region.wanted,hg,hy])];exact⟨λ_ _=>trivial,skp _ (S1 false rfl) h3⟩|false=>rw[dH (by simp[Region.wanted,hg,hy])];exact run _ (S1 false rfl) h3
    rename_i hb;have hv:a.tmps.getD gt undef=undef:=S.env gt _ hb;have hy:=sQ TN hv;rw[dM (by simp[Region.wanted,hg,hy])];exact⟨λ_ _=>trivial,skp _ S h⟩;exact h.elim
theorem GZ(fK:jk P Γ){ops:Array Oper}{K:St→Prop}{D:List Nat}{a0:Act}(hD:∀(j:Nat)(o:Oper),ops[j]? = some o→∀t,o.dst=some t→t∈D)
    (h:jQ P Γ nt ops 0 ops.toList K σ) (S:bK P nt B w0 h0 g σ a w) (kQ:Kp D a0 a)
    (hQ:∀σ',K σ'->∀g' a' w',bK P nt B w0 h0 g' σ' a' w'->Kp D a0 a'->a'.defers=a.defers->Q .normal a' w'):wpOpsIn (FR r) n P ops Q (List.range ops.size) a w:=by
  have:=yc (r:=r) (n:=n) fK hD hQ ops.toList 0 σ g a w (λj _=>by simp) h S kQ rfl;rw[dqV];simpa using this
end
end Go.Pm
namespace Go.Pm
variable [aG]
def aA.fp:aA→List (Nat×Bool)|.no=>[]|.val fp _ _ _=>fp|.chk fp _ _ _ _=>fp
def aA.u:aA→List (Nat×AO)|.no=>[]|.val _ _ u _=>u|.chk _ _ _ u _=>u
def aA.kl:aA→List Nat|.no=>[]|.val _ _ _ k=>k|.chk _ _ _ _ k=>k
def aA.gives:aA→DV→Prop|.no,_=>False|.val _ d _ _,d'=>d'=d|.chk _ _ d _ _,d'=>d'=d
def Men(o:Oper)(ev:Operand->DV)(ob:Nat->Option AO)(fp:List (Nat×Bool))(L:Nat):Prop :=
 (∃x∈o.op.operands.toList,L∈kR (ev x))\/∃y∈fp,∃o',ob y.1=some o'/\L∈oh o'
structure bP (P : Program) (Γ : bM) (o : Oper) (ev : Operand → DV) (ob : Nat → Option AO) (A : aA) : Prop where
  wr:∀x∈A.u,(x.1,true)∈A.fp
  kl:A.kl=[]\/∃L,A.kl=[L]/\(L,true)∈A.fp
  labu:∀x∈A.u,∀L∈oh x.2,Men o ev ob A.fp L
  labd:∀d,A.gives d->∀L∈kR d,Men o ev ob A.fp L\/(L,true)∈A.fp
  congr:∀ev' ob',(∀x∈o.op.operands.toList,ev' x=ev x)->(∀y∈A.fp,ob' y.1=ob y.1)->act P Γ o ev' ob'=A
section
variable{P:Program}{Γ:bM}{o:Oper}{ev:Operand->DV}{ob:Nat->Option AO}{A:aA}
theorem bP.pure{fp:List (Nat×Bool)}{d:DV}(hd:∀L∈kR d,Men o ev ob fp L∨(L,true)∈fp)
    (hc:∀ev' ob',(∀x∈o.op.operands.toList,ev' x=ev x)->(∀y∈fp,ob' y.1=ob y.1)->act P Γ o ev' ob'=.val fp d [] []):bP P Γ o ev ob (.val fp d [] []) :=
  ⟨λx hx=>by simp[aA.u]at hx,.inl rfl,λx hx=>by simp[aA.u]at hx,λd' h=>by simp only[aA.gives]at h;subst h;exact hd,hc⟩
theorem bP.pchk{fp:List (Nat×Bool)}{s:CP}{d:DV}(hd:∀L∈kR d,Men o ev ob fp L∨(L,true)∈fp)
    (hc:∀ev' ob',(∀x∈o.op.operands.toList,ev' x=ev x)->(∀y∈fp,ob' y.1=ob y.1)->act P Γ o ev' ob'=.chk fp s d [] []):bP P Γ o ev ob (.chk fp s d [] []) :=
  ⟨λx hx=>by simp[aA.u]at hx,.inl rfl,λx hx=>by simp[aA.u]at hx,λd' h=>by simp only[aA.gives]at h;subst h;exact hd,hc⟩
theorem iH{fp:List (Nat×Bool)}(v:PV):∀L∈kR (.p v),Men o ev ob fp L\/(L,true)∈fp:=λL hL=>by simp[kR,rE,lH]at hL
theorem qK{fp:List (Nat×Bool)}{x:Operand}{d:DV}(hx:x∈o.op.operands.toList)(h:∀L∈kR d,L∈kR (ev x)):∀L∈kR d,Men o ev ob fp L\/(L,true)∈fp :=
 λL hL=>.inl (.inl ⟨x,hx,h L hL⟩)
theorem QU{c:Cl}:∀L∈lH c,L∈aY c:=by cases c<;>simp[lH,aY]
theorem QV{ag:Bool}{m off:Nat}{cells:List Cl}{d:D1}(hr:kL ag m cells off=some d):∀L∈rE d,L∈cells.flatMap lH:=by
 cases ag with
 | true =>
  simp only[kL]at hr;split at hr;simp only [bG]at hr;subst hr;intro L hL;simp only[rE,jJ]at hL ⊢;obtain⟨c,hc,hL⟩:=hL;exact⟨c,jqU (qjU hc),hL⟩;cases hr
 | false =>
  simp only[kL]at hr;split at hr;rename_i x hx;simp only[bG]at hr;subst hr;intro L hL;simp only[rE]at hL;exact jJ.2 ⟨x,Jy hx,hL⟩;cases hr
theorem U9(cells:List PV):(cells.map Cl.p).flatMap lH=[]:=by
 induction cells with|nil=>rfl|cons c r ih=>simp[lH,ih]
theorem Jd{ag:Bool}{m off:Nat}{cells:List PV}{d:D1}(hr:kL ag m (cells.map .p) off=some d):rE d=[]:=by
 have:=QV hr;rw[U9]at this;cases hd:rE d with|nil=>rfl|cons x l=>have:=this x (by rw[hd];exact jM);simp at this
theorem AB{ob':Nat->Option AO}{c:Cl}(h:∀L∈aY c,ob' L=ob L):zx ob' c=zx ob c:=by
 cases c<;>first|rfl|(simp only[zx];rw[h _ (by simp[aY])])
theorem yf{ob':Nat→Option AO}:∀{cs:List Cl},(∀L∈cs.flatMap aY,ob' L=ob L)→jg ob' cs=jg ob cs
  | [],_=>rfl
  | c::cs,h=>by
    simp only[jg];rw[AB (λL hL=>h L (by simp[hL])),yf (λL hL=>h L (by simp only[lX,dG];exact .inr hL))]
theorem YP{ob':Nat->Option AO}{c:Cl}(h:∀L∈aY c,ob' L=ob L/\∀o',ob L=some o'->∀M∈dJ o',ob' M=ob M):NY ob' c=NY ob c:=by
 cases c with
 | ptr L off =>
  obtain⟨h1,h2⟩:=h L (by simp[aY]);simp only[NY];rw[h1];cases hL:ob L with
  | none=>rfl
  | some o' =>
   cases o' with|box ty cells=>simp only[];rw[yf (λM hM=>h2 _ hL M hM)]|_=>rfl
 | _=>exact AB λL hL=>(h L hL).1
theorem G5{ob':Nat→Option AO}:∀{cs:List Cl},(∀L∈cs.flatMap aY,ob' L=ob L∧∀o',ob L=some o'→∀M∈dJ o',ob' M=ob M)→nz ob' cs=nz ob cs
  | [],_=>rfl
  | c::cs,h=>by
    simp only[nz];rw[YP (λL hL=>h L (by simp[hL])),G5 (λL hL=>h L (by simp only[lX,dG];exact .inr hL))]
def DC(ob ob':Nat->Option AO)(L:Nat):Prop:=ob' L=ob L/\∀o',ob L=some o'->∀M∈dJ o',ob' M=ob M/\∀o2,ob M=some o2->∀N∈dJ o2,ob' N=ob N
theorem KT{ob':Nat->Option AO}{c:Cl}(h:∀L∈aY c,DC ob ob' L):Jz ob' c=Jz ob c:=by
 cases c with
 | ptr L off =>
  obtain⟨h1,h2⟩:=h L (by simp[aY]);simp only[Jz];rw[h1];cases hL:ob L with
  | none=>rfl
  | some o' =>
   cases o' with|box ty cells=>simp only[];rw[G5 (λM hM=>h2 _ hL M hM)]|_=>rfl
 | _=>exact AB λL hL=>(h L hL).1
theorem G6{ob':Nat→Option AO}:∀{cs:List Cl},(∀L∈cs.flatMap aY,DC ob ob' L)→rD ob' cs=rD ob cs
  | [],_=>rfl
  | c::cs,h=>by
    simp only[rD];rw[KT (λL hL=>h L (by simp[hL])),G6 (λL hL=>h L (by simp only[lX,dG];exact .inr hL))]
theorem CJ:∀caps:List rZ,(caps.map zcS).flatMap aY=lq caps|[]=>rfl|.v _::r=>by simp only[nU,lX,zcS,aY,NW,lq];exact CJ r|.b L::r=>by simp only[nU,lX,zcS,aY,lq,qdB,NW];rw[CJ r]
theorem PI{ob':Nat->Option AO}{c:Cl}(h:∀L∈aY c,DC ob ob' L):frz ob' c=frz ob c:=by
 cases c with
 | clo f caps =>
  simp only[frz];rw[G6 (ob:=ob) (ob':=ob') (cs:=caps.map zcS) (λL hL=>h L (by rw[CJ]at hL;exact hL))]
 | _=>exact KT h
theorem AC{ob':Nat→Option AO}:∀{cs:List Cl},(∀L∈cs.flatMap aY,DC ob ob' L)→su ob' cs=su ob cs
  | [],_=>rfl
  | c::cs,h=>by
    simp only[su];rw[PI (λL hL=>h L (by simp[hL])),AC (λL hL=>h L (by simp only[lX,dG];exact .inr hL))]
theorem mG{ob:Nat->Option AO}{d:DV}{k:Nat}:k∈bi ob d↔∃L∈bQ d,k=L\/∃o,ob L=some o/\∃M∈dJ o,k=M\/∃o2,ob M=some o2/\k∈dJ o2:=by
 unfold bi;rw[jJ];refine exists_congr λL=>and_congr_right λ_=>?_;rw[jW];refine or_congr_right ?_;cases ob L with
 | none=>simp
 | some o =>
  simp only[bG,exists_eq_left',jJ,jW];refine exists_congr λM=>and_congr_right λ_=>or_congr_right ?_;cases ob M with|none=>simp|some o2=>simp
theorem KU{ob':Nat->Option AO}{d:DV}(h:∀L∈bi ob d,ob' L=ob L):zy ob' d=zy ob d:=by
 have key:∀L∈bQ d,DC ob ob' L:=λL hL =>
  ⟨h L (mG.2 ⟨L,hL,.inl rfl⟩),λo' kN M hM=>⟨h M (mG.2 ⟨L,hL,.inr ⟨o',kN,M,hM,.inl rfl⟩⟩),λo2 pz N hN=>h N (mG.2 ⟨L,hL,.inr ⟨o',kN,M,hM,.inr ⟨o2,pz,hN⟩⟩⟩)⟩⟩
 cases d with
 | one d =>
  cases d with|c c=>simp only[zy];rw[PI key]|agg cs=>simp only[zy];rw[AC key]
 | tup ds=>rfl
theorem lJ{ob':Nat→Option AO}:∀{ds:List DV},(∀L∈ds.flatMap (bi ob),ob' L=ob L)→gQ ob' ds=gQ ob ds
  | [],_=>rfl
  | d::ds,h=>by
    simp only[gQ];rw[KU (λL hL=>h L (by simp[hL])),lJ (λL hL=>h L (by simp only[lX,dG];exact .inr hL))]
theorem ja{ob':Nat->Option AO}{d:DV}(h:∀L∈bi ob d,ob' L=ob L):bi ob' d=bi ob d:=by
 have fm:∀(l:List Nat)(f f':Nat->List Nat),(∀L∈l,f' L=f L)->l.flatMap f'=l.flatMap f:=by
  intro l f f'
  induction l with
  | nil=>intro _;rfl
  | cons L l ih =>
   intro h;simp only[lX];rw[h L (by simp),ih (λM hM=>h M (jB _ hM))]
 unfold bi;refine fm _ _ _ λL hL=>?_;rw[h L (mG.2 ⟨L,hL,.inl rfl⟩)];cases hL2:ob L with
 | none=>rfl
 | some o =>
  refine jF (L :: ·) (fm _ _ _ λM hM=>?_);rw[h M (mG.2 ⟨L,hL,.inr ⟨o,hL2,M,hM,.inl rfl⟩⟩)]
theorem qy{c:Cl}{v:PV}{u:lY}(h:zx ob c=some (v,u)):∀x∈u,x.1∈aY c/\oh x.2=[]:=by
 unfold zx at h;split at h;simp only[bG,fJ]at h;rw[<- h.2];intro x hx;simp at hx;split at h;simp only[bG,fJ]at h;rw[<- h.2];intro x hx;simp at hx;subst hx;exact⟨by simp[aY],rfl⟩;simp only[bG,fJ]at h;rw[<- h.2];intro x hx;simp at hx;simp only[bG,fJ]at h;rw[<- h.2];intro x hx;simp only[kK]at hx;subst hx;exact⟨by simp[aY],rfl⟩;cases h;cases h
theorem qL:∀{cs:List Cl}{l:List PV}{u:lY},jg ob cs=some (l,u)→∀x∈u,x.1∈cs.flatMap aY∧oh x.2=[]
  | [],l,u,h=>by simp[jg]at h;rw[h.2];intro x hx;simp at hx
  | c::cs,l,u,h=>by
    simp only[jg]at h;split at h;rename_i v u1 l2 u2 h1 h2;simp only[bG,fJ]at h;rw[<- h.2];intro x hx;simp only[lX,dG];rcases dG.1 hx with hx|hx
    exact⟨.inl (qy h1 x hx).1,(qy h1 x hx).2⟩;exact⟨.inr (qL h2 x hx).1,(qL h2 x hx).2⟩;cases h
theorem zdn{c:Cl}{v:PV}{u:lY}(h:NY ob c=some (v,u)):∀x∈u,(x.1∈aY c\/∃L∈aY c,∃o',ob L=some o'/\x.1∈dJ o')/\oh x.2=[]:=by
 unfold NY at h;split at h;split at h;rename_i L off _x ty cells hL;split at h;rename_i l us hl;simp only[bG,fJ]at h;rw[<- h.2];intro x hx;rcases dG.1 hx with hx|hx
 exact⟨.inr ⟨L,by simp[aY],_,hL,(qL hl x hx).1⟩,(qL hl x hx).2⟩;simp at hx;subst hx;exact⟨.inl (by simp[aY]),rfl⟩;cases h;simp only[bG,fJ]at h;rw[<- h.2];intro x hx;simp at hx;cases h;intro x hx;exact⟨.inl (qy h x hx).1,(qy h x hx).2⟩
theorem KW:∀{cs:List Cl}{l:List PV}{u:lY},nz ob cs=some (l,u)→∀x∈u,(x.1∈cs.flatMap aY∨∃L∈cs.flatMap aY,∃o',ob L=some o'∧x.1∈dJ o')∧oh x.2=[]
  | [],l,u,h=>by simp[nz]at h;rw[h.2];intro x hx;simp at hx
  | c::cs,l,u,h=>by
    simp only[nz]at h;split at h;rename_i v u1 l2 u2 h1 h2;simp only[bG,fJ]at h;rw[<- h.2];intro x hx;simp only[lX,dG];rcases dG.1 hx with hx|hx
    obtain⟨h3,h4⟩:=zdn h1 x hx;refine⟨?_,h4⟩;rcases h3 with h3|⟨L,hL,o',h5,h6⟩
    exact .inl (.inl h3);exact .inr ⟨L,.inl hL,o',h5,h6⟩;obtain⟨h3,h4⟩:=KW h2 x hx;refine⟨?_,h4⟩;rcases h3 with h3|⟨L,hL,o',h5,h6⟩
    exact .inl (.inr h3);exact .inr ⟨L,.inr hL,o',h5,h6⟩;cases h
def RC(ob:Nat->Option AO)(k:Nat)(l:List Nat):Prop:=∃L∈l,k=L\/∃o,ob L=some o/\∃M∈dJ o,k=M\/∃o2,ob M=some o2/\k∈dJ o2
theorem RC.mono{ob:Nat->Option AO}{k:Nat}{l m:List Nat}(h:RC ob k l)(hl:∀x∈l,x∈m):RC ob k m:=by
 obtain⟨L,h1,h2⟩:=h;exact⟨L,hl L h1,h2⟩
theorem Fq{c:Cl}{v:PV}{u:lY}(h:Jz ob c=some (v,u)):∀x∈u,RC ob x.1 (aY c)/\oh x.2=[]:=by
 unfold Jz at h;split at h;split at h;rename_i L off _x ty cells hL;split at h;rename_i l us hl;simp only[bG,fJ]at h;rw[<- h.2];intro x hx;rcases dG.1 hx with hx|hx
 obtain⟨h3,h4⟩:=KW hl x hx;refine⟨⟨L,by simp[aY],.inr ⟨_,hL,?_⟩⟩,h4⟩;rcases h3 with h3|⟨M,hM,o2,h5,h6⟩
 exact⟨x.1,h3,.inl rfl⟩;exact⟨M,hM,.inr ⟨o2,h5,h6⟩⟩;simp at hx;subst hx;exact⟨⟨L,by simp[aY],.inl rfl⟩,rfl⟩;cases h;simp only[bG,fJ]at h;rw[<- h.2];intro x hx;simp at hx;cases h;intro x hx;exact⟨⟨x.1,(qy h x hx).1,.inl rfl⟩,(qy h x hx).2⟩
theorem AL:∀{cs:List Cl}{l:List PV}{u:lY},rD ob cs=some (l,u)→∀x∈u,RC ob x.1 (cs.flatMap aY)∧oh x.2=[]
  | [],l,u,h=>by simp[rD]at h;rw[h.2];intro x hx;simp at hx
  | c::cs,l,u,h=>by
    simp only[rD]at h;split at h;rename_i v u1 l2 u2 h1 h2;simp only[bG,fJ]at h;rw[<- h.2];intro x hx;simp only[lX];rcases dG.1 hx with hx|hx
    exact⟨(Fq h1 x hx).1.mono λy hy=>dG.2 (.inl hy),(Fq h1 x hx).2⟩;exact⟨(AL h2 x hx).1.mono λy hy=>dG.2 (.inr hy),(AL h2 x hx).2⟩;cases h
theorem KX{c:Cl}{v:PV}{u:lY}(h:frz ob c=some (v,u)):∀x∈u,RC ob x.1 (aY c)/\oh x.2=[]:=by
 unfold frz at h;split at h;rename_i f caps;split at h;rename_i l us hl;simp only[bG,fJ]at h;obtain⟨rfl,rfl⟩:=h;have:=AL hl;rw[CJ]at this;exact this;cases h;exact Fq h
theorem yV:∀{cs:List Cl}{l:List PV}{u:lY},su ob cs=some (l,u)→∀x∈u,RC ob x.1 (cs.flatMap aY)∧oh x.2=[]
  | [],l,u,h=>by simp[su]at h;rw[h.2];intro x hx;simp at hx
  | c::cs,l,u,h=>by
    simp only[su]at h;split at h;rename_i v u1 l2 u2 h1 h2;simp only[bG,fJ]at h;rw[<- h.2];intro x hx;simp only[lX];rcases dG.1 hx with hx|hx
    exact⟨(KX h1 x hx).1.mono λy hy=>dG.2 (.inl hy),(KX h1 x hx).2⟩;exact⟨(yV h2 x hx).1.mono λy hy=>dG.2 (.inr hy),(yV h2 x hx).2⟩;cases h
theorem PK{d:DV}{v:PA}{u:lY}(h:zy ob d=some (v,u)):∀x∈u,x.1∈bi ob d/\oh x.2=[]:=by
 have deep:∀k,RC ob k (bQ d)->k∈bi ob d:=λk hk=>mG.2 hk;unfold zy at h;split at h;split at h;rename_i v' u' h1;simp only[bG,fJ]at h;rw[<- h.2];intro x hx;obtain⟨h3,h4⟩:=KX h1 x hx;exact⟨deep _ h3,h4⟩;cases h;split at h;rename_i v' u' h1;simp only[bG,fJ]at h;rw[<- h.2];intro x hx;obtain⟨h3,h4⟩:=yV h1 x hx;exact⟨deep _ h3,h4⟩;cases h;cases h
theorem AP:∀{ds:List DV}{l:List PA}{u:lY},gQ ob ds=some (l,u)→∀x∈u,x.1∈ds.flatMap (bi ob)∧oh x.2=[]
  | [],l,u,h=>by simp[gQ]at h;rw[h.2];intro x hx;simp at hx
  | d::ds,l,u,h=>by
    simp only[gQ]at h;split at h;rename_i v u1 l2 u2 h1 h2;simp only[bG,fJ]at h;rw[<- h.2];intro x hx;simp only[lX,dG];rcases dG.1 hx with hx|hx
    exact⟨.inl (PK h1 x hx).1,(PK h1 x hx).2⟩;exact⟨.inr (AP h2 x hx).1,(AP h2 x hx).2⟩;cases h
end
end Go.Pm
namespace Go.Pm
variable [aG]
section
variable{P:Program}{Γ:bM}{o:Oper}{ev:Operand->DV}{ob:Nat->Option AO}{A:aA}
theorem YQ{α β:Type}{f h:α→List β}:∀{l:List α},(∀x∈l,f x=h x)→l.flatMap f=l.flatMap h|[],_=>rfl|x::l,hf=>by simp only[lX];rw[hf x jM,YQ λy hy=>hf y (jB _ hy)]
theorem za3{x:Operand}(aU:o.op=.move x\/o.op=.assign x):bP P Γ o ev ob (.val [] (ev x) [] []):=by
 have hx:x∈o.op.operands.toList:=by rcases aU with h|h<;>simp[h,Op.operands]
 refine bP.pure (qK hx λL hL=>hL) λev' ob' he _=>?_;rcases aU with h|h<;>simp only[act,h,he x hx]
theorem zmN{b:Bool}{x y:DV}:∀L∈kR (zQ b x y),L∈kR x\/L∈kR y:=by
 unfold zQ;split;intro L hL;simp[kR,rE,lH]at hL
 ·cases b with|true=>exact λL hL=>.inl hL|false=>exact λL hL=>.inr hL
theorem zmO{c x y:Operand}{t:Bool}(aU:o.op=.pick c x y)(hc:ev c=.one (.c (.p (.bool t)))):bP P Γ o ev ob (.val [] (zQ t (ev x) (ev y)) [] []):=by
 have hcm:c∈o.op.operands.toList:=by simp[aU,Op.operands]
 have hx:x∈o.op.operands.toList:=by simp[aU,Op.operands]
 have hy:y∈o.op.operands.toList:=by simp[aU,Op.operands]
 refine bP.pure (λL hL=>?_) λev' ob' he _=>?_;rcases zmN L hL with h|h
 exact .inl (.inl ⟨x,hx,h⟩);exact .inl (.inl ⟨y,hy,h⟩);simp only[act,aPk,aU,he c hcm,he x hx,he y hy,hc]
theorem QW{ao:AO}{d:Nat→DV}(hlo:∀L∈oh ao,Men o ev ob [] L)(hld:∀t,∀L∈kR (d t),L=t)
    (hc:∀ev' ob',(∀x∈o.op.operands.toList,ev' x=ev x)->act P Γ o ev' ob'=EW ob' o.dst ao d) (hA:EW ob o.dst ao d=A) (hs:A.safe):bP P Γ o ev ob A:=by
  have qY:=hA;unfold EW at hA;split at hA;rename_i t ht;split at hA;rename_i hn;subst hA;have men:∀L,Men o ev ob [] L->Men o ev ob [(t,true)] L:=λL h=>h.imp_right λ⟨y,hy,_⟩=>by simp at hy
  refine⟨λx hx=>?_,.inl rfl,λx hx L hL=>?_,λd' fD L hL=>?_,λev' ob' he bT=>?_⟩;simp only[aA.u,kK]at hx;subst hx;simp[aA.fp];simp only[aA.u,kK]at hx;subst hx;exact men L (hlo L hL);simp only[aA.gives]at fD;subst fD;rw[hld t L hL];exact .inr (by simp[aA.fp]);rw [hc ev' ob' he];have:=bT (t,true) (by simp[aA.fp]);simp only at this;simp only[EW,ht,this,hn];subst hA;exact hs.elim;subst hA;exact hs.elim
theorem za4{t:TypeId}{z:List Cl}(h:gu P t=some z):z.flatMap lH=[]:=by
 have h1:=O4 h;cases hz:z.flatMap lH with
 | nil=>rfl
 | cons L l =>
  have:L∈z.flatMap lH:=by rw[hz];exact jM
  obtain⟨c,hc,hL⟩:=jJ.1 this;have:L∈z.flatMap aY:=jJ.2 ⟨c,hc,QU L hL⟩;rw[h1]at this;simp at this
theorem QX(d:D1):d.cells.flatMap lH=rE d:=by cases d<;>simp[D1.cells,rE]
theorem Va{t:TypeId}:∀(parts:List (Nat×Operand))(z l:List Cl),gY P t ev z parts=some l→∀L∈l.flatMap lH,L∈z.flatMap lH∨∃x∈parts,L∈kR (ev x.2)
  | [],z,l,h=>by simp[gY]at h;subst h;exact λL hL=>.inl hL
  | (i,x)::r,z,l,h=>by
    simp only[gY]at h;split at h;rename_i d hd;have zK4:∀(l' l:List Cl)(off:Nat),∀L∈(spl l off l').flatMap lH,L∈l.flatMap lH\/L∈l'.flatMap lH:=by
      intro l'
      induction l' with
      | nil=>intro l off L hL;exact .inl hL
      | cons c l' ih =>
        intro l off L hL;simp only[spl]at hL;rcases ih _ _ L hL with h|h
        obtain⟨c',hc',Qr⟩:=jJ.1 h;rcases dq3 hc' with h2|h2
        exact .inl (jJ.2 ⟨c',h2,Qr⟩);subst h2;exact .inr (jJ.2 ⟨c',jM,Qr⟩);exact .inr (by simp only[lX,dG];exact .inr h)
    have step:∀off,gY P t ev (spl z off d.cells) r=some l->∀L∈l.flatMap lH,L∈z.flatMap lH\/∃y∈(i,x)::r,L∈kR (ev y.2):=by
      intro off hb L hL;rcases Va r _ l hb L hL with h|⟨y,hy,hL⟩
      rcases zK4 _ _ _ L h with h|h
      exact .inl h;refine .inr ⟨(i,x),jM,?_⟩;simp only[hd,kR];rw[<- QX];exact h;exact .inr ⟨y,jB _ hy,hL⟩
    split at h;split at h;split at h;split at h;exact step _ h;cases h;cases h;cases h;split at h;split at h;exact step _ h;cases h;cases h;cases h;cases h
theorem CO{ev':Operand→DV}{t:TypeId}:∀(parts:List (Nat×Operand))(z:List Cl),(∀x∈parts,ev' x.2=ev x.2)→gY P t ev' z parts=gY P t ev z parts
  | [],z,_=>rfl
  | (i,x)::r,z,h=>by
    have hx:ev' x=ev x:=h (i,x) jM;have ih:∀z,gY P t ev' z r=gY P t ev z r:=λz=>CO r z λy hy=>h y (jB _ hy);simp only[gY,hx,ih]
theorem zV{ev':Operand->DV}{ob':Nat->Option AO}{s:Nat}:∀(parts:List (Nat×Operand))(i:Nat)(ls:List (List PV))(u:lY)(iW:List Nat),jd ob ev s i parts=some (ls,u,iW) ->
  (∀x∈parts,ev' x.2=ev x.2)->(∀L∈iW,ob' L=ob L)->jd ob' ev' s i parts=some (ls,u,iW)
 | [],i,ls,u,iW,h,_,_=>by simpa [jd]using h
 | (j,x)::r,i,ls,u,iW,h,he,bT=>by
  have hx:ev' x=ev x:=he (j,x) jM;simp only[jd]at h ⊢;rw[hx];split at h;rename_i IR;split at h;rename_i d hd;split at h;rename_i l u1 ls' us zsl h1 h2;split at h;rename_i hlen;simp only[bG,fJ]at h;obtain⟨rfl,rfl,rfl⟩:=h;have e1:jg ob' d.cells=some (l,u1):=by
   rw[<- h1];refine yf λL hL=>bT L (dG.2 (.inl ?_));cases d<;>simpa [D1.cells,dw]using hL
  have e2:=zV r (i+1) ls' us zsl h2 (λy hy=>he y (jB _ hy)) (λL hL=>bT L (dG.2 (.inr hL)));simp only[e1,e2,hlen];cases h;cases h;cases h;cases h
theorem vS{s:Nat}:∀(parts:List (Nat×Operand))(i:Nat)(ls:List (List PV))(u:lY)(iW:List Nat),jd ob ev s i parts=some (ls,u,iW)→∀x∈u,x.1∈iW∧oh x.2=[]
  | [],i,ls,u,iW,h=>by simp[jd]at h;rw[h.2.1];intro x hx;simp at hx
  | (j,x)::r,i,ls,u,iW,h=>by
    simp only[jd]at h;split at h;split at h;rename_i d hd;split at h;rename_i l u1 ls' us zsl h1 h2;split at h;simp only [bG,fJ]at h;obtain⟨rfl,rfl,rfl⟩:=h;intro y hy;rcases dG.1 hy with hy|hy
    obtain⟨h3,h4⟩:=qL h1 y hy;refine⟨dG.2 (.inl ?_),h4⟩;cases d<;>simpa [D1.cells,dw]using h3;obtain⟨h3,h4⟩:=vS r _ _ _ _ h2 y hy;exact⟨dG.2 (.inr h3),h4⟩;cases h;cases h;cases h;cases h
theorem zgM{t:TypeId}{parts:Array (Nat×Operand)}{z l:List Cl}(aU:o.op = .build t parts)(hf:xI P t=true)(hz:gu P t=some z)(hl:gY P t ev z parts.toList=some l) :
  bP P Γ o ev ob (.val [] (.one (.agg l)) [] []):=by
 have hm:∀x∈parts.toList,x.2∈o.op.operands.toList:=λx hx=>by
  simp only[aU,Op.operands];exact rY.2 ⟨x,hx,rfl⟩
 refine bP.pure (λL hL=>?_) λev' ob' he _=>?_;rcases Va _ _ _ hl L hL with h|⟨x,hx,h⟩
 rw[za4 hz]at h;simp at h;exact .inl (.inl ⟨x.2,hm x hx,h⟩);simp only[act,aBd,aU,hf,hz,CO parts.toList z (λx hx=>he x.2 (hm x hx)),hl]
theorem KY{l:List Nat}{L:Nat}(h:L∈l):(L,true)∈wr l:=rY.2 ⟨L,h,rfl⟩
theorem Og{t:TypeId}{n:Nat}{parts:Array (Nat×Operand)}(aU:o.op=.buildSlice t n parts)(hA:act P Γ o ev ob=A)(hs:A.safe):bP P Γ o ev ob A:=by
 have hm:∀x∈parts.toList,x.2∈o.op.operands.toList:=λx hx=>by
  simp only[aU,Op.operands];exact rY.2 ⟨x,hx,rfl⟩
 simp only[act,aBs,aU]at hA;split at hA;rename_i e hu;split at hA;rename_i ie hie;split at hA;rename_i ls u iW hp;split at hA;rename_i z dst hb hz hd;split at hA;rename_i hn;subst hA;refine⟨λx hx=>?_,.inl rfl,λx hx L hL=>?_,λd' fD L hL=>?_,λev' ob' he bT=>?_⟩;simp only [aA.u,jW]at hx;simp only[aA.fp,dG];rcases hx with rfl|hx
 exact .inr (by simp);exact .inl (KY (vS _ _ _ _ _ hp x hx).1);simp only [aA.u,jW]at hx;rcases hx with rfl|hx
 simp[oh]at hL;rw[(vS _ _ _ _ _ hp x hx).2]at hL;simp at hL;simp only [aA.gives]at fD;subst fD;simp only[kR,rE,lH,kK]at hL;subst hL;exact .inr (by simp[aA.fp]);have e1:=zV (ev':=ev') (ob':=ob') _ _ _ _ _ hp (fun x hx=>he x.2 (hm x hx)) (fun L hL=>bT (L,true) (dG.2 (.inl (KY hL))));have e2:=bT (dst,true) (dG.2 (.inr (by simp)));simp only at e2;simp only[act,aBs,aU,hu,hie,e1,hb,hz,hd,e2,hn];subst hA;exact hs.elim;subst hA;exact hs.elim;subst hA;exact hs.elim;subst hA;exact hs.elim;subst hA;exact hs.elim
theorem zvh{L:Nat}{ao:AO}{w:Bool}{d:D1}(hL:ob L=some ao)(h:∀M∈rE d,M∈oh ao):∀M∈kR (.one d),Men o ev ob [(L,w)] M\/(M,true)∈[(L,w)] :=
 λM hM=>.inl (.inr ⟨(L,w),by simp,ao,hL,h M hM⟩)
theorem zmP{t:TypeId}{x:Operand}(aU:o.op=.load t x)(hA:act P Γ o ev ob=A)(hs:A.safe):bP P Γ o ev ob A:=by
 have hm:x∈o.op.operands.toList:=by simp[aU,Op.operands]
 simp only[act,aLd,aU]at hA;split at hA;rename_i ag n xk hn;split at hA;rename_i L off hx;split at hA;rename_i ty cells hL;split at hA;rename_i d hr;subst hA;refine bP.pure (zvh hL (QV hr)) λev' ob' he bT=>?_;have e:=bT (L,false) (by simp);simp only at e;simp only[act,aLd,aU,xk,hn,he x hm,hx,e,hL,hr];subst hA;exact hs.elim;rename_i cells hL;split at hA;rename_i d hr;subst hA;refine bP.pure (λM hM=>?_) λev' ob' he bT=>?_;simp only[kR]at hM;rw[Jd hr]at hM;simp at hM;have e:=bT (L,false) (by simp);simp only at e;simp only[act,aLd,aU,xk,hn,he x hm,hx,e,hL,hr];subst hA;exact hs.elim;subst hA;exact hs.elim;rename_i cells off hx;split at hA;rename_i d hr;subst hA;refine bP.pure (λM hM=>?_) λev' ob' he bT=>?_;simp only[kR]at hM;rw[Jd hr]at hM;simp at hM;simp only[act,aLd,aU,xk,hn,he x hm,hx,hr];subst hA;exact hs.elim;rename_i L s i k hx;split at hA;rename_i e s' b len get hL;split at hA;rename_i d OA hr;subst hA;refine bP.pchk (λM hM=>?_) λev' ob' he bT=>?_;simp only[kR]at hM;rw[Jd hr]at hM;simp at hM;have e:=bT (L,false) (by simp);simp only at e;simp only[act,aLd,aU,xk,hn,he x hm,hx,e,hL,OA,hr];subst hA;exact hs.elim;rename_i s' len get hL;split at hA;rename_i d OA hr;subst hA;refine bP.pchk (λM hM=>?_) λev' ob' he bT=>?_;simp only[kR]at hM;rw[Jd hr]at hM;simp at hM;have e:=bT (L,false) (by simp);simp only at e;simp only[act,aLd,aU,xk,hn,he x hm,hx,e,hL,OA,hr];subst hA;exact hs.elim;rename_i hL0;split at hA;rename_i OA;split at hA;rename_i dst Gw;split at hA;rename_i gB hL;subst hA;refine⟨λx hx=>?_,.inl rfl,λx hx L hL=>?_,λd' fD L hL=>?_,λev' ob' he bT=>?_⟩;simp only [aA.u,jW,qjk,jqC]at hx;rcases hx with rfl|rfl<;>simp[aA.fp]
 simp only [aA.u,jW,qjk,jqC]at hx;rcases hx with rfl|rfl<;>simp[oh]at hL
 simp only [aA.gives]at fD;subst fD;simp only[kR,rE,lH,kK]at hL;subst hL;exact .inr (by simp[aA.fp]);have e1:=bT (L,true) (by simp [aA.fp]);have e2:=bT (dst,true) (by simp[aA.fp]);simp only at e1 e2;simp only[act,aLd,aU,xk,hn,he x hm,hx,e1,e2,hL,OA,Gw,gB];subst hA;exact hs.elim;subst hA;exact hs.elim;subst hA;exact hs.elim;subst hA;exact hs.elim;subst hA;exact hs.elim;subst hA;exact hs.elim
theorem zCH:∀(l' l:List Cl)(off:Nat),∀L∈(spl l off l').flatMap lH,L∈l.flatMap lH\/L∈l'.flatMap lH:=by
 intro l'
 induction l' with
 | nil=>intro l off L hL;exact .inl hL
 | cons c l' ih =>
  intro l off L hL;simp only[spl]at hL;rcases ih _ _ L hL with h|h
  obtain⟨c',hc',Qr⟩:=jJ.1 h;rcases dq3 hc' with h2|h2
  exact .inl (jJ.2 ⟨c',h2,Qr⟩);subst h2;exact .inr (jJ.2 ⟨c',jM,Qr⟩);exact .inr (by simp only[lX,dG];exact .inr h)
theorem zgN{t:TypeId}{x y:Operand}(aU:o.op=.store t x y)(hA:act P Γ o ev ob=A)(hs:A.safe):bP P Γ o ev ob A:=by
 have hx:x∈o.op.operands.toList:=by simp[aU,Op.operands]
 have hy:y∈o.op.operands.toList:=by simp[aU,Op.operands]
 simp only[act,aSt,aU]at hA;split at hA;rename_i n L off d hn hex X7;split at hA;rename_i ty cells hL;split at hA;rename_i hb;subst hA;refine⟨λz hz=>?_,.inl rfl,λz hz M hM=>?_,λd' fD M hM=>?_,λev' ob' he bT=>?_⟩;simp only[aA.u,kK]at hz;subst hz;simp[aA.fp];simp only [aA.u,kK]at hz;subst hz;simp only[oh]at hM;rcases zCH _ _ _ M hM with h|h
 exact .inr ⟨(L,true),by simp[aA.fp],_,hL,h⟩;refine .inl ⟨y,hy,?_⟩;rw[X7];simp only[kR];rw[<- QX];exact h;simp only[aA.gives]at fD;subst fD;simp[kR,rE,lH]at hM;have e:=bT (L,true) (by simp [aA.fp]);simp only at e;simp only[act,aSt,aU,hn,he x hx,he y hy,hex,X7,e,hL,hb];subst hA;exact hs.elim;subst hA;exact hs.elim;rename_i n L s i k d hn hex X7;split at hA;rename_i e s' b len get hL;split at hA;rename_i l hl;split at hA;rename_i hb;subst hA;refine⟨λz hz=>?_,.inl rfl,λz hz M hM=>?_,λd' fD M hM=>?_,λev' ob' he bT=>?_⟩;simp only[aA.u,kK]at hz;subst hz;simp[aA.fp];simp only[aA.u,kK]at hz;subst hz;simp[oh]at hM;simp only[aA.gives]at fD;subst fD;simp[kR,rE,lH]at hM;have e:=bT (L,true) (by simp [aA.fp]);simp only at e;simp only[act,aSt,aU,hn,he x hx,he y hy,hex,X7,e,hL,hl,hb];subst hA;exact hs.elim;subst hA;exact hs.elim;rename_i te bb e s' OB len ln get hL;split at hA;rename_i M';split at hA;rename_i e2 s2 b2 mm lU hM';split at hA;rename_i hb;split at hA;rename_i hq;subst hA;refine⟨λz hz=>?_,.inl rfl,λz hz M hM=>?_,λd' fD M hM=>?_,λev' ob' he bT=>?_⟩;simp only [aA.u,jW,qjk,jqC]at hz;rcases hz with rfl|rfl<;>simp[aA.fp]
 simp only [aA.u,jW,qjk,jqC]at hz;rcases hz with rfl|rfl<;>simp[oh]at hM
 simp only[aA.gives]at fD;subst fD;simp[kR,rE,lH]at hM;have e:=bT (L,true) (by simp [aA.fp]);simp only at e;have e2:=bT (M',true) (by simp[aA.fp]);simp only at e2;simp only[act,aSt,aU,hn,he x hx,he y hy,hex,X7,e,hL,e2,hM',hb];rw[dH hq];subst hA;exact hs.elim;subst hA;exact hs.elim;subst hA;exact hs.elim;subst hA;exact hs.elim;subst hA;exact hs.elim;subst hA;exact hs.elim
theorem Vb{x:Operand}(aU:o.op=.nilCheck x)(hA:act P Γ o ev ob=A)(hs:A.safe):bP P Γ o ev ob A:=by
 have hx:x∈o.op.operands.toList:=by simp[aU,Op.operands]
 simp only[act,aNc,aU]at hA;split at hA;rename_i L off h;subst hA;exact bP.pure (qK hx λL hL=>by rw[h];exact hL) λev' ob' he _=>by simp only[act,aNc,aU,he x hx,h]
 rename_i L off h;subst hA;exact bP.pure (qK hx λL hL=>by rw[h];exact hL) λev' ob' he _=>by simp only[act,aNc,aU,he x hx,h]
 rename_i L s i k h;subst hA;exact bP.pure (qK hx λL hL=>by rw[h];exact hL) λev' ob' he _=>by simp only[act,aNc,aU,he x hx,h]
 subst hA;exact hs.elim
theorem zgO{op:BinOp}{k:IntKind}{p q:Int}(hs:(Uh op k p q).safe)
    (hc:∀ev' ob',(∀x∈o.op.operands.toList,ev' x=ev x)->act P Γ o ev' ob'=Uh op k p q):bP P Γ o ev ob (Uh op k p q):=by
  cases op<;>first
    | exact hs.elim
    | exact bP.pure (iH _) λev' ob' he _=>hc ev' ob' he
    | exact bP.pchk (iH _) λev' ob' he _=>hc ev' ob' he
theorem zgP{op:BinOp}{t t':TypeId}{x y:Operand}(aU:o.op=.binOp op t x y t')(hA:act P Γ o ev ob=A)(hs:A.safe):bP P Γ o ev ob A:=by
 have hx:x∈o.op.operands.toList:=by simp[aU,Op.operands]
 have hy:y∈o.op.operands.toList:=by simp[aU,Op.operands]
 simp only[act,aBn,aU]at hA;split at hA;rename_i k p k' q hex X7;split at hA;rename_i hk;subst hA;exact zgO hs λev' ob' he=>by simp only[act,aBn,aU,he x hx,he y hy,hex,X7,hk,OM]
 rename_i hk;subst hA;have hc:∀ev' ob',(∀x∈o.op.operands.toList,ev' x=ev x)->act P Γ o ev' ob'=zfX op k p q:=λev' ob' he=>by simp only[act,aBn,aU,he x hx,he y hy,hex,X7,hk,qd2]
 cases op<;>first
  | exact hs.elim
  | exact bP.pchk (iH _) λev' ob' he _=>hc ev' ob' he
 rename_i p q hex X7;split at hA;rename_i hu;subst hA;exact bP.pure (iH _) λev' ob' he _=>by simp only[act,aBn,aU,he x hx,he y hy,hex,X7,hu]
 rename_i hu;subst hA;exact bP.pure (iH _) λev' ob' he _=>by simp only[act,aBn,aU,he x hx,he y hy,hex,X7,hu]
 subst hA;exact hs.elim;rename_i cs ds hex X7;have hc:∀ev' ob',(∀x∈o.op.operands.toList,ev' x=ev x)->act P Γ o ev' ob'=A:=λev' ob' he=>by
  simp only[act,aBn,aU,he x hx,he y hy,hex,X7];exact hA
 unfold zav at hA;split at hA;split at hA;subst hA;exact bP.pure (iH _) λev' ob' he _=>hc ev' ob' he;subst hA;exact bP.pure (iH _) λev' ob' he _=>hc ev' ob' he;subst hA;exact hs.elim;subst hA;exact hs.elim;subst hA;exact hs.elim
theorem zgQ{t:TypeId}{x y:Operand}(aU:o.op=.index t x y)(hA:act P Γ o ev ob=A)(hs:A.safe):bP P Γ o ev ob A:=by
 have hx:x∈o.op.operands.toList:=by simp[aU,Op.operands]
 have hy:y∈o.op.operands.toList:=by simp[aU,Op.operands]
 have hc:∀ev' ob',(∀x∈o.op.operands.toList,ev' x=ev x)->act P Γ o ev' ob'=A:=λev' ob' he=>by
  rw[<- hA];simp only[act,aU,he x hx,he y hy]
 simp only[act,aU,JB]at hA;split at hA;split at hA;rename_i cs k j _ _ hex X7;split at hA;rename_i d _ hr;subst hA;refine bP.pure (qK hx λL hL=>?_) λev' ob' he _=>hc ev' ob' he;rw[hex];exact QV hr L hL;subst hA;exact hs.elim;subst hA;exact hs.elim;subst hA;exact hs.elim
theorem zgR{t:TypeId}{x:Operand}{f:Nat}(aU:o.op=.field t x f)(hA:act P Γ o ev ob=A)(hs:A.safe):bP P Γ o ev ob A:=by
 have hx:x∈o.op.operands.toList:=by simp[aU,Op.operands]
 have hc:∀ev' ob',(∀x∈o.op.operands.toList,ev' x=ev x)->act P Γ o ev' ob'=A:=λev' ob' he=>by
  rw[<- hA];simp only[act,aU,he x hx]
 simp only[act,aU,JC]at hA;split at hA;split at hA;split at hA;rename_i hex;split at hA;rename_i d hr;subst hA;refine bP.pure (qK hx λL hL=>?_) λev' ob' he _=>hc ev' ob' he;rw[hex];exact QV hr L hL;subst hA;exact hs.elim;subst hA;exact hs.elim;subst hA;exact hs.elim;subst hA;exact hs.elim
theorem ok_slice{t:TypeId}{x:Operand}{lo hi:Option Operand}(aU:o.op=.slice t x lo hi none)(hA:act P Γ o ev ob=A)(hs:A.safe):bP P Γ o ev ob A:=by
 have hx:x∈o.op.operands.toList:=by simp[aU,Op.operands]
 have hlo:∀y,lo=some y->y∈o.op.operands.toList:=λy e=>by subst e;simp[aU,Op.operands]
 have hhi:∀y,hi=some y->y∈o.op.operands.toList:=λy e=>by subst e;simp[aU,Op.operands]
 have hc:∀ev' ob',(∀x∈o.op.operands.toList,ev' x=ev x)->act P Γ o ev' ob'=A:=λev' ob' he=>by
  have e1:EU ev' lo=EU ev lo:=by
   cases lo with|none=>rfl|some y=>simp only[EU,he y (hlo y rfl)]
  have e2:EU ev' hi=EU ev hi:=by
   cases hi with|none=>rfl|some y=>simp only[EU,he y (hhi y rfl)]
  rw[<- hA];simp only[act,aU,he x hx,e1,e2]
 simp only[act,aU,BL]at hA;split at hA;split at hA;split at hA;subst hA;exact bP.pchk (λL hL=>by simp[kR,rE,lH]at hL) λev' ob' he _=>hc ev' ob' he;subst hA;exact hs.elim;subst hA;exact hs.elim;subst hA;exact hs.elim
theorem zmQ{d:D1}:∀L,L∈rE d->L∈dw d:=by
 intro L hL;cases d with
 | c y=>exact QU L hL
 | agg cs =>
  obtain⟨c,hc,hL⟩:=jJ.1 hL;exact jJ.2 ⟨c,hc,QU L hL⟩
theorem zdo{q:MQ}{kd:DV}{ok:Bool}{F:List Int->Option (List Int)}{fin:DV->aA}(hA:found q kd ok F fin=A)(hs:A.safe):∃d,(∀M∈kR d,False)/\fin d=A:=by
 unfold found at hA;split at hA;split at hA
 ·rename_i d hdv;have hV:∀ M,M∈rE d->False:=λ M hM=>by have:=zmQ M hM;rw[UN hdv] at this;simp at this
  cases ok with
  | true =>
   refine⟨_,λM hM=>?_,hA⟩;simp only[kR,lX,List.flatMap_nil,qjq,dG]at hM;rcases hM with hM|hM
   exact hV M hM;simp[rE,lH]at hM
  | false=>exact⟨.one d,λM hM=>hV M hM,hA⟩
 subst hA;exact hs.elim;subst hA;exact hs.elim
theorem zdp{t:TypeId}{x y:Operand}{k:Bool}(aU:o.op=.lookup t x y k)(hA:act P Γ o ev ob=A)(hs:A.safe):bP P Γ o ev ob A:=by
 have hx:x∈o.op.operands.toList:=by simp[aU,Op.operands]
 have hy:y∈o.op.operands.toList:=by simp[aU,Op.operands]
 have EH:∀ev' ob',(∀x∈o.op.operands.toList,ev' x=ev x)->act P Γ o ev' ob'=JE P t (ev x) (ev y) k ob':=λev' ob' he=>by simp only[act,aU,he x hx,he y hy]
 rw[EH ev ob (λ_ _=>rfl)]at hA;unfold JE at hA EH;split at hA;rename_i kt vt L hu hex;split at hA;rename_i q kt' vt' q' n F hE hL;split at hA;rename_i cO;obtain⟨d,hd,e⟩:=zdo hA hs;subst e;refine bP.pure (λM hM=>(hd M hM).elim) λev' ob' he bT=>?_;rw[EH ev' ob' he];have:=bT (L,false) (by simp);simp only at this;simp only[hu,hex,this,hL,hE,dH cO];exact hA;subst hA;exact hs.elim;subst hA;exact hs.elim;subst hA;exact hs.elim
theorem QY{t:TypeId}{x y z:Operand}(aU:o.op=.mapUpdate t x y z)(hA:act P Γ o ev ob=A)(hs:A.safe):bP P Γ o ev ob A:=by
 have hx:x∈o.op.operands.toList:=by simp[aU,Op.operands]
 have hy:y∈o.op.operands.toList:=by simp[aU,Op.operands]
 have hz:z∈o.op.operands.toList:=by simp[aU,Op.operands]
 have EH:∀ev' ob',(∀x∈o.op.operands.toList,ev' x=ev x)->act P Γ o ev' ob'=Ui P t (ev x) (ev y) (ev z) ob':=λev' ob' he=>by simp only[act,aU,he x hx,he y hy,he z hz]
 rw[EH ev ob (λ_ _=>rfl)]at hA;unfold Ui at hA EH;split at hA;rename_i kt vt L hu hex;split at hA;rename_i q kt' vt' q' n F hE hL;split at hA;rename_i c dv hck hez;split at hA;rename_i l hl;split at hA;rename_i cO;have hcc:∀ev' ob',(∀x∈o.op.operands.toList,ev' x=ev x)->(∀y∈[(L,true)],ob' y.1=ob y.1)->act P Γ o ev' ob'=A:=λev' ob' he bT=>by
  rw[EH ev' ob' he];have:=bT (L,true) (by simp);simp only at this;simp only[hu,hex,this,hL,hE,hck,hez,hl,dH cO];exact hA
 subst hA;refine⟨λx hx=>?_,.inl rfl,λx hx M hM=>?_,λd' fD M hM=>?_,λev' ob' he bT=>hcc ev' ob' he bT⟩;simp only[aA.u,kK]at hx;subst hx;simp[aA.fp];simp only[aA.u,kK]at hx;subst hx;simp[oh]at hM;simp only[aA.gives]at fD;subst fD;simp[kR,rE,lH]at hM;subst hA;exact hs.elim;subst hA;exact hs.elim;subst hA;exact hs.elim;subst hA;exact hs.elim;subst hA;exact hs.elim
theorem YR{t:TypeId}(aU:o.op=.makeMap t none)(hA:act P Γ o ev ob=A)(hs:A.safe):bP P Γ o ev ob A:=by
 cases hv:zuL Γ o.dst with
 | true =>
  simp only[act,aMm,aU,hv]at hA;split at hA;rename_i kt vt hu;split at hA;rename_i q hE;exact QW (ao:=.mo kt vt q 0 (λ_=>none)) (d:=λt=>.cl (.mo t)) (λL hL=>by simp[oh]at hL) (λt L hL=>by simpa [kR,rE,lH]using hL) (λev' ob' _=>by simp only[act,aMm,aU,hv,hu,hE]) hA hs;subst hA;exact hs.elim;subst hA;exact hs.elim
 | false =>
  simp only[act,aMm,aU,hv]at hA;subst hA;exact hs.elim
theorem zmR{op:UnOp}{t:TypeId}{x:Operand}(aU:o.op=.unOp op t x)(hA:act P Γ o ev ob=A)(hs:A.safe):bP P Γ o ev ob A:=by
 have hx:x∈o.op.operands.toList:=by simp[aU,Op.operands]
 simp only[act,aUn,aU]at hA;split at hA;rename_i h;subst hA;exact bP.pure (iH _) λev' ob' he _=>by simp only[act,aUn,aU,he x hx,h]
 rename_i h;subst hA;exact bP.pure (iH _) λev' ob' he _=>by simp only[act,aUn,aU,he x hx,h]
 subst hA;exact hs.elim
theorem YS{t1 t2:TypeId}{x:Operand}(aU:o.op=.convert t1 t2 x)(hA:act P Γ o ev ob=A)(hs:A.safe):bP P Γ o ev ob A:=by
 have hx:x∈o.op.operands.toList:=by simp[aU,Op.operands]
 simp only[act,aCv,aU]at hA;split at hA;rename_i h1 h2 h;subst hA;exact bP.pure (iH _) λev' ob' he _=>by simp only[act,aCv,aU,he x hx,h,h1,h2]
 subst hA;exact hs.elim
theorem QZ{t:TypeId}{x:Operand}{f:Nat}(aU:o.op=.fieldAddr t x f)(hA:act P Γ o ev ob=A)(hs:A.safe):bP P Γ o ev ob A:=by
 have hx:x∈o.op.operands.toList:=by simp[aU,Op.operands]
 simp only[act,aFa,aU]at hA;split at hA;rename_i off hf;split at hA;rename_i h;subst hA;exact bP.pure (qK hx λL hL=>by rw[h];exact hL) λev' ob' he _=>by simp only[act,aFa,aU,he x hx,h,hf]
 rename_i h;subst hA;exact bP.pure (qK hx λL hL=>by rw[h];exact hL) λev' ob' he _=>by simp only[act,aFa,aU,he x hx,h,hf]
 rename_i h;subst hA;exact bP.pure (qK hx λL hL=>by rw[h];exact hL) λev' ob' he _=>by simp only[act,aFa,aU,he x hx,h,hf]
 subst hA;exact hs.elim;subst hA;exact hs.elim
theorem Q3{t:TypeId}{x y:Operand}(aU:o.op=.indexAddr t x y)(hA:act P Γ o ev ob=A)(hs:A.safe):bP P Γ o ev ob A:=by
 have hx:x∈o.op.operands.toList:=by simp[aU,Op.operands]
 have hy:y∈o.op.operands.toList:=by simp[aU,Op.operands]
 simp only[act,aIa,aU]at hA;split at hA;rename_i e hu;split at hA;rename_i n k j hn hj;split at hA;rename_i len s get hex;split at hA;rename_i qZ;subst hA;exact bP.pchk (iH _) λev' ob' he _=>by simp only[act,aIa,aU,he x hx,he y hy,hex,hu,hn,hj,qZ,OM]
 subst hA;exact hs.elim;rename_i L hex;split at hA;rename_i e' s b len get hL;split at hA;rename_i qZ;subst hA;refine bP.pchk (λM hM=>.inl (.inl ⟨x,hx,?_⟩)) λev' ob' he bT=>?_;rw[hex];exact hM;have e:=bT (L,false) (by simp);simp only at e;simp only[act,aIa,aU,he x hx,he y hy,hex,hu,hn,hj,e,hL,qZ,OM];subst hA;exact hs.elim;rename_i s len get hL;split at hA;rename_i qZ;subst hA;refine bP.pchk (iH _) λev' ob' he bT=>?_;have e:=bT (L,false) (by simp);simp only at e;simp only[act,aIa,aU,he x hx,he y hy,hex,hu,hn,hj,e,hL,qZ,OM];subst hA;exact hs.elim;rename_i hL;split at hA;rename_i qZ;subst hA;refine bP.pchk (λM hM=>.inl (.inl ⟨x,hx,?_⟩)) λev' ob' he bT=>?_;rw[hex];exact hM;have e:=bT (L,false) (by simp);simp only at e;simp only[act,aIa,aU,he x hx,he y hy,hex,hu,hn,hj,e,hL,qZ,OM];subst hA;exact hs.elim;rename_i hL;split at hA;rename_i qZ;subst hA;refine bP.pchk (λM hM=>.inl (.inl ⟨x,hx,?_⟩)) λev' ob' he bT=>?_;rw[hex];exact hM;have e:=bT (L,false) (by simp);simp only at e;simp only[act,aIa,aU,he x hx,he y hy,hex,hu,hn,hj,e,hL,qZ,OM];subst hA;exact hs.elim;subst hA;exact hs.elim;subst hA;exact hs.elim;subst hA;exact hs.elim;rename_i m e hu;have hc:∀ev' ob',(∀x∈o.op.operands.toList,ev' x=ev x)->act P Γ o ev' ob'=A:=λev' ob' he=>by
  simp only[act,aIa,aU,hu,he x hx,he y hy];exact hA
 unfold BJ at hA;split at hA;split at hA;split at hA;rename_i h;subst hA;exact bP.pure (qK hx λL hL=>by simp[kR,rE,lH]at hL) λev' ob' he _=>hc ev' ob' he;rename_i h;subst hA;exact bP.pure (iH _) λev' ob' he _=>hc ev' ob' he;subst hA;exact hs.elim;subst hA;exact hs.elim;subst hA;exact hs.elim;subst hA;exact hs.elim
theorem YT{x:Operand}{k:Nat}(aU:o.op=.extract x k)(hA:act P Γ o ev ob=A)(hs:A.safe):bP P Γ o ev ob A:=by
 have hx:x∈o.op.operands.toList:=by simp[aU,Op.operands]
 simp only[act,aEx,aU]at hA;split at hA;rename_i ds h;split at hA;rename_i d hd;subst hA;refine bP.pure (qK hx λL hL=>?_) λev' ob' he _=>by simp only[act,aEx,aU,he x hx,h,hd]
 rw[h];exact jJ.2 ⟨d,Jy hd,hL⟩;subst hA;exact hs.elim;subst hA;exact hs.elim
theorem yg{c:Callee}{args:Array Operand}{ts:Array TypeId}(aU:o.op=.call {callee:=c,args,argTypes:=ts}):∀x∈args.toList,x∈o.op.operands.toList:=by
 intro x hx;simp only[aU,Op.operands];cases c<;>simp[Call.operands]<;>simp at hx<;>first|exact hx|exact .inr hx
theorem zsm{b:Builtin}{args:Array Operand}{ts:Array TypeId}(hb:b=.max\/b=.min)(aU:o.op=.call {callee:=.builtin b,args,argTypes:=ts})(hA:act P Γ o ev ob=A)(hs:A.safe):bP P Γ o ev ob A:=by
 have hm:=yg aU;have XV:∀ev':Operand->DV,(∀x∈o.op.operands.toList,ev' x=ev x)->args.toList.map ev'=args.toList.map ev:=λev' he=>dqU λx hx=>he x (hm x hx);rcases hb with rfl|rfl<;>simp only[act,aMx,aMi,aU]at hA<;>split at hA
 rename_i h;subst hA;exact bP.pure (iH _) λev' ob' he _=>by simp only[act,aMx,aMi,aU,XV ev' he,h]
 subst hA;exact hs.elim;rename_i h;subst hA;exact bP.pure (iH _) λev' ob' he _=>by simp only[act,aMx,aMi,aU,XV ev' he,h]
 subst hA;exact hs.elim
theorem zvi{args:Array Operand}{ts:Array TypeId}(aU:o.op=.call {callee:=.builtin .len,args,argTypes:=ts})(hA:act P Γ o ev ob=A)(hs:A.safe):bP P Γ o ev ob A:=by
 have hm:=yg aU;simp only[act,aLn,aU]at hA;split at hA;rename_i x t fO ht;have hx:x∈o.op.operands.toList:=hm x (by rw[fO];simp);split at hA;rename_i e hu;split at hA;rename_i h;subst hA;exact bP.pure (iH _) λev' ob' he _=>by simp only[act,aLn,aU,fO,ht,hu,he x hx,h]
 rename_i h;subst hA;exact bP.pure (iH _) λev' ob' he _=>by simp only[act,aLn,aU,fO,ht,hu,he x hx,h]
 rename_i L h;split at hA;rename_i hL;subst hA;refine bP.pure (iH _) λev' ob' he bT=>?_;have e:=bT (L,false) (by simp);simp only at e;simp only[act,aLn,aU,fO,ht,hu,he x hx,h,e,hL];rename_i hL;subst hA;refine bP.pure (iH _) λev' ob' he bT=>?_;have e:=bT (L,false) (by simp);simp only at e;simp only[act,aLn,aU,fO,ht,hu,he x hx,h,e,hL];rename_i hL;subst hA;refine bP.pure (iH _) λev' ob' he bT=>?_;have e:=bT (L,false) (by simp);simp only at e;simp only[act,aLn,aU,fO,ht,hu,he x hx,h,e,hL];subst hA;exact hs.elim;subst hA;exact hs.elim;rename_i kt vt hu;split at hA;rename_i L h;split at hA;rename_i hL;subst hA;refine bP.pure (iH _) λev' ob' he bT=>?_;have e:=bT (L,false) (by simp);simp only at e;simp only[act,aLn,aU,fO,ht,hu,he x hx,h,e,hL];subst hA;exact hs.elim;subst hA;exact hs.elim;subst hA;exact hs.elim;subst hA;exact hs.elim
theorem Q4{d:DV}{ob':Nat→Option AO}{m sz:Nat}{new:Nat→List PV}{fps:List (Nat×Bool)}(h:EY d ob=some (m,sz,new,fps))(bT:∀y∈fps,ob' y.1=ob y.1) :
  EY d ob'=some (m,sz,new,fps):=by
 unfold EY at h ⊢;split at h;exact h;rename_i M;split at h;rename_i hM;have h':=h;simp only[bG,fJ]at h;have e:=bT (M,false) (by rw[<- h.2.2.2];simp);simp only at e;rw[e,hM];exact h';rename_i hM;have h':=h;simp only[bG,fJ]at h;have e:=bT (M,false) (by rw[<- h.2.2.2];simp);simp only at e;rw[e,hM];exact h';cases h;cases h
theorem zdq{args:Array Operand}{ts:Array TypeId}(aU:o.op=.call {callee:=.builtin .append,args,argTypes:=ts})(hA:act P Γ o ev ob=A)(hs:A.safe):bP P Γ o ev ob A:=by
 have hm:=yg aU;have hA0:=hA;simp only[act,aAp,aU]at hA;split at hA
 ·rename_i s x t t' fO ht;have hsm:s∈o.op.operands.toList:=hm s (by rw[fO];simp);have hx:x∈o.op.operands.toList:=hm x (by rw[fO];simp);split at hA
  ·rename_i e dst hu htt hd;split at hA
   ·rename_i ie z hie hz;have zAq:∀(ev':Operand->DV)(ob':Nat->Option AO),act P Γ o ev' ob'=Qy e ie dst (ev' x) (ev' s) ob':=λev' ob'=>by
     simp only[act,aAp,aU,fO,ht,hu,htt,hd,hie,hz]
    unfold Qy at hA zAq;split at hA
    ·rename_i m sz new fps nT
     -- the source looks only at zAo fps names
     have zH1:∀(ev':Operand->DV)(ob':Nat->Option AO),(∀x∈o.op.operands.toList,ev' x=ev x)->(∀y∈fps,ob' y.1=ob y.1) ->
       EY (ev' x) ob'=some (m,sz,new,fps):=by
      intro ev' ob' he bT;rw[he x hx];exact Q4 nT bT
     split at hA;rename_i L hes;split at hA;rename_i e' s' b' n' get' hL;split at hA;rename_i hif;subst hA;refine⟨λz hz=>?_,.inr ⟨L,rfl,by simp[aA.fp]⟩,λz hz M hM=>?_,λd' fD M hM=>?_,λev' ob' he bT=>?_⟩;simp only[aA.u,kK]at hz;subst hz;simp[aA.fp];simp only[aA.u,kK]at hz;subst hz;simp[oh]at hM;simp only [aA.gives]at fD;subst fD;simp only[kR,rE,lH,kK]at hM;subst hM;exact .inr (by simp[aA.fp]);have e1:=zH1 ev' ob' he (fun y hy=>bT y (jB _ hy));have e2:=bT (L,true) (by simp[aA.fp]);simp only at e2;rw[zAq,e1];simp only[he s hsm,he x hx,hes,e2,hL];rw[dH hif];subst hA;exact hs.elim;subst hA;exact hs.elim;rename_i hes;split at hA;rename_i hn;split at hA;rename_i hif;subst hA;refine⟨λz hz=>?_,.inl rfl,λz hz M hM=>?_,λd' fD M hM=>?_,λev' ob' he bT=>?_⟩;simp only[aA.u,kK]at hz;subst hz;simp[aA.fp];simp only[aA.u,kK]at hz;subst hz;simp[oh]at hM;simp only [aA.gives]at fD;subst fD;simp only[kR,rE,lH,kK]at hM;subst hM;exact .inr (by simp[aA.fp]);have e1:=zH1 ev' ob' he (fun y hy=>bT y (jB _ hy));have e2:=bT (dst,true) (by simp[aA.fp]);simp only at e2;rw[zAq,e1];simp only[he s hsm,hes,e2,hn];rw[dH hif];subst hA;exact hs.elim;subst hA;exact hs.elim;subst hA;exact hs.elim
    subst hA;exact hs.elim
   subst hA;exact hs.elim
  subst hA;exact hs.elim
 subst hA;exact hs.elim
theorem zsn(x:PA):rE (NZ x)=[]:=by
 cases x with|one p=>rfl|agg cs=>exact U9 cs
theorem YU(rs:List PA):kR (resD rs)=[]:=by
 have tup:∀l:List PA,kR (.tup (l.map NZ))=[]:=by
  intro l
  induction l with|nil=>rfl|cons x l ih=>simp only[nU,kR,lX,zsn,NW]at ih ⊢;exact ih
 match rs with|[]=>exact tup _|[x]=>exact zsn x|x::y::l=>exact tup _
theorem zvj{k:ET}{args:Array Operand}{c:Callee}{ts:Array TypeId}(aU:o.op = .call {callee:=c,args,argTypes:=ts})
    (hc:∀ev' ob',(∀x∈o.op.operands.toList,ev' x=ev x)->act P Γ o ev' ob'=jY P Γ o k (args.toList.map ev') ob') (hA:jY P Γ o k (args.toList.map ev) ob=A) (hs:A.safe):bP P Γ o ev ob A:=by
  have hm:=yg aU;have XV:∀ev':Operand->DV,(∀x∈o.op.operands.toList,ev' x=ev x)->args.toList.map ev'=args.toList.map ev:=λev' he=>dqU λx hx=>he x (hm x hx);unfold jY at hA;split at hA;subst hA;exact hs.elim;split at hA;rename_i L hf caps fO;split at hA;rename_i hL xk;split at hA;rename_i hif;subst hA;refine⟨λz hz=>?_,.inl rfl,λz hz M hM=>?_,λd' fD M hM=>?_,λev' ob' he bT=>?_⟩;simp only[aA.u,kK]at hz;subst hz;simp[aA.fp];simp only[aA.u,kK]at hz;subst hz;simp[oh]at hM;simp only[aA.gives]at fD;subst fD;simp[kR]at hM;have e2:=bT (L,true) (by simp [aA.fp]);simp only at e2;rw[hc ev' ob' he,XV ev' he];simp only[jY,fO,e2,hL,xk];rw[dH hif];subst hA;exact hs.elim;subst hA;exact hs.elim;subst hA;exact hs.elim;split at hA;rename_i dst fO hd;split at hA;rename_i hn hi hz;split at hA;rename_i hif;subst hA;refine⟨λz hz=>?_,.inl rfl,λz hz M hM=>?_,λd' fD M hM=>?_,λev' ob' he bT=>?_⟩;simp only[aA.u,kK]at hz;subst hz;simp[aA.fp];simp only[aA.u,kK]at hz;subst hz;simp[oh]at hM;simp only [aA.gives]at fD;subst fD;simp only[kR,rE,lH,kK]at hM;subst hM;exact .inr (by simp[aA.fp]);have e2:=bT (dst,true) (by simp [aA.fp]);simp only at e2;rw[hc ev' ob' he,XV ev' he];simp only[jY,fO,hd,e2,hn,hi,hz];rw[dH hif];subst hA;exact hs.elim;subst hA;exact hs.elim;subst hA;exact hs.elim;split at hA;rename_i az u dst has hd;split at hA;rename_i n get rs ie z hF gB hi hz;split at hA;rename_i hif;subst hA;refine⟨λz hz=>?_,.inl rfl,λz hz M hM=>?_,λd' fD M hM=>?_,λev' ob' he bT=>?_⟩;simp only[aA.u,kK]at hz;subst hz;simp[aA.fp];simp only[aA.u,kK]at hz;subst hz;simp[oh]at hM
  · simp only [aA.gives]at fD;subst fD;cases rs with
    | nil =>
      simp only[kR,rE,lH,kK]at hM;subst hM;exact .inr (by simp[aA.fp])
    | cons x l =>
      have hM2:M=dst:=by
        simp only[kR,lX,dG,rE,lH,kK,jJ,rY]at hM;rcases hM with hM|⟨d1,⟨v,_,rfl⟩,hM⟩
        exact hM;simp[rE,lH]at hM
      subst hM2;exact .inr (by simp[aA.fp])
  have hl:∀L∈(args.toList.map ev).flatMap (bi ob),ob' L=ob L:=fun L hL=>bT (L,false) (jB _ (rY.2 ⟨L,hL,rfl⟩));have e2:=bT (dst,true) (by simp[aA.fp]);simp only at e2;have e3:gQ ob' (args.toList.map ev)=some (az,u):=(lJ hl).trans has;have e4:(args.toList.map ev).flatMap (bi ob')=(args.toList.map ev).flatMap (bi ob):=YQ λd hd=>ja λL hL=>hl L (jJ.2 ⟨d,hd,hL⟩);rw[hc ev' ob' he,XV ev' he];simp only[jY,hd,e2,hF,gB,hi,hz,e3,e4];rw[dH hif];subst hA;exact hs.elim;subst hA;exact hs.elim;subst hA;exact hs.elim;split at hA;rename_i ds L NP;split at hA;rename_i az e' s' b' n get has hL;split at hA;rename_i m get' hF;split at hA;rename_i hif;subst hA;refine⟨λz hz=>?_,.inr ⟨L,rfl,by simp[aA.fp]⟩,λz hz M hM=>?_,λd' fD M hM=>?_,λev' ob' he bT=>?_⟩;simp only[aA.u,kK]at hz;subst hz;simp[aA.fp];simp only[aA.u,kK]at hz;subst hz;simp[oh]at hM;simp only [aA.gives]at fD;subst fD;simp only[kR,rE,lH,kK]at hM;subst hM;exact .inr (by simp[aA.fp]);have hl:∀M∈ds.flatMap (bi ob),ob' M=ob M:=fun M hM=>bT (M,false) (jB _ (rY.2 ⟨M,hM,rfl⟩));have e2:=bT (L,true) (by simp[aA.fp]);simp only at e2;have e3:gQ ob' ds=some (az,[]):=(lJ hl).trans has;have e4:ds.flatMap (bi ob')=ds.flatMap (bi ob):=YQ λd hd=>ja λL hL=>hl L (jJ.2 ⟨d,hd,hL⟩);rw[hc ev' ob' he,XV ev' he];simp only[jY,NP,e3,e2,hL,hF,e4];rw[dH hif];subst hA;exact hs.elim;subst hA;exact hs.elim;subst hA;exact hs.elim;rename_i ds NP;split at hA;rename_i az dst has hd;split at hA;rename_i ie z gB hi hz;split at hA;rename_i l hzl;split at hA;rename_i m get' hF;split at hA;rename_i hif;subst hA;refine⟨λz hz=>?_,.inl rfl,λz hz M hM=>?_,λd' fD M hM=>?_,λev' ob' he bT=>?_⟩;simp only[aA.u,kK]at hz;subst hz;simp[aA.fp];simp only[aA.u,kK]at hz;subst hz;simp[oh]at hM;simp only [aA.gives]at fD;subst fD;simp only[kR,rE,lH,kK]at hM;subst hM;exact .inr (by simp[aA.fp]);have hl:∀M∈ds.flatMap (bi ob),ob' M=ob M:=fun M hM=>bT (M,false) (jB _ (rY.2 ⟨M,hM,rfl⟩));have e2:=bT (dst,true) (by simp[aA.fp]);simp only at e2;have e3:gQ ob' ds=some (az,[]):=(lJ hl).trans has;have e4:ds.flatMap (bi ob')=ds.flatMap (bi ob):=YQ λd hd=>ja λL hL=>hl L (jJ.2 ⟨d,hd,hL⟩);rw[hc ev' ob' he,XV ev' he];simp only[jY,NP,e3,hd,e2,gB,hi,hz,hzl,hF,e4];rw[dH hif];subst hA;exact hs.elim;subst hA;exact hs.elim;subst hA;exact hs.elim;subst hA;exact hs.elim;subst hA;exact hs.elim;subst hA;exact hs.elim
theorem CQ{sf:kS}{ob:Nat->Option AO}:∀{cells l:List Cl}{ys cs:List XC}{u:List (Nat×AO)}{ms:List Nat},gG cells ys=some (l,u)->iF sf ob cells=some (cs,ms) ->
  u.map (·.1)=ms/\(∀x∈u,oh x.2=[])/\∀L∈l.flatMap lH,L∈cells.flatMap lH
 | [],l,[],cs,u,ms,h,h2=>by
  simp only[gG,bG,fJ]at h;obtain⟨rfl,rfl⟩:=h;simp only[iF,bG,fJ]at h2;rw[<- h2.2];exact⟨rfl,λx hx=>by simp at hx,λL hL=>hL⟩
 | [],l,_::_,cs,u,ms,h,h2=>by simp[gG]at h
 | c::cells,l,[],cs,u,ms,h,h2=>by simp[gG]at h
 | c::cells,l,y::ys,cs,u,ms,h,h2=>by
  unfold gG at h;split at h;rename_i e;simp at e;rename_i e1 e2;simp only[ES]at e1 e2;obtain⟨rfl,rfl⟩:=e1;obtain⟨rfl,rfl⟩:=e2;split at h;rename_i hp;simp only[bG,fJ]at h;obtain⟨rfl,rfl⟩:=h;simp only[iF]at h2;split at h2;rename_i hc;simp only[bG,fJ]at h2;rw[<- h2.2];obtain⟨i1,i2,i3⟩:=CQ hp hc;exact⟨i1,i2,λL hL=>by simp only[lX,lH,NW]at hL ⊢;exact i3 L hL⟩;cases h2;cases h;rename_i e1 e2;simp only[ES]at e1 e2;obtain⟨rfl,rfl⟩:=e1;obtain⟨rfl,rfl⟩:=e2;split at h;rename_i hp;simp only[bG,fJ]at h;obtain⟨rfl,rfl⟩:=h;simp only[iF]at h2;split at h2;rename_i hc;split at h2;simp only [bG,fJ]at h2;rw [← h2.2];obtain⟨i1,i2,i3⟩:=CQ hp hc;refine⟨by simp[i1],λx hx=>?_,λL hL=>?_⟩;rcases jW.1 hx with e|hx
  subst e;rfl;exact i2 x hx;simp only [lX,dG]at hL ⊢;exact hL.imp_right (i3 L);cases h2;cases h2;cases h;rename_i e1 e2;simp only[ES]at e1 e2;obtain⟨rfl,rfl⟩:=e1;obtain⟨rfl,rfl⟩:=e2;split at h;rename_i hp;simp only[bG,fJ]at h;obtain⟨rfl,rfl⟩:=h;simp only[iF]at h2;split at h2;rename_i hc;split at h2;simp only [bG,fJ]at h2;rw [← h2.2];obtain⟨i1,i2,i3⟩:=CQ hp hc;refine⟨by simp[i1],λx hx=>?_,λL hL=>?_⟩;rcases jW.1 hx with e|hx
  subst e;rfl;exact i2 x hx;simp only [lX,dG]at hL ⊢;exact hL.imp_right (i3 L);cases h2;cases h2;cases h;rename_i e1 e2;simp only[ES]at e1 e2;obtain⟨rfl,rfl⟩:=e1;obtain⟨rfl,rfl⟩:=e2;split at h;rename_i hp;simp only[bG,fJ]at h;obtain⟨rfl,rfl⟩:=h;simp only[iF]at h2;split at h2;rename_i hc;split at h2;simp only [bG,fJ]at h2;rw [← h2.2];obtain⟨i1,i2,i3⟩:=CQ hp hc;exact⟨i1,i2,λL hL=>by simp only[lX,dG]at hL ⊢;exact hL.imp_right (i3 L)⟩;cases h2;cases h2;cases h;cases h
theorem zvk{sf:kS}{ob:Nat→Option AO}{d:DV}{x y:XA}{u:List (Nat×AO)}{ls ms:List Nat}(h:Iq ob d y=some u)(h2:zC sf ob d=some (x,ls,ms)) :
  u.map (·.1)=ls/\∀x∈u,∀L∈oh x.2,∃o',ob x.1=some o'/\L∈oh o':=by
 have data:ry ob d=some (x,ls,ms)->ls=[]:=by
  intro h;unfold ry at h;split at h;simp only[bG,fJ]at h;exact h.2.1.symm;cases h
 unfold Iq at h;split at h;rename_i L;split at h;rename_i TZ cells hL;rw[oz,hL]at h2;dsimp only at h2;split at h2;rename_i cs ms' hc;simp only[bG,fJ]at h2;obtain⟨rfl,rfl,rfl⟩:=h2;split at h;split at h;rename_i l u' hty hp;simp only[bG]at h;subst h;obtain⟨i1,i2,i3⟩:=CQ hp hc;refine⟨by simp[i1],λx hx K hK=>?_⟩;rcases jW.1 hx with e|hx
 subst e;exact⟨_,hL,i3 K hK⟩;rw[i2 x hx]at hK;simp at hK;cases h;cases h;cases h2;rename_i vF;have hx:ry ob (.one (.c (.ptr L 0)))=some (x,ls,ms):=by
  rw[oz]at h2;cases hL:ob L with
  | none=>rw[hL]at h2;exact h2
  | some o =>
   rw[hL]at h2;cases o with|box ty cells=>exact absurd hL (vF _ _)|_=>exact h2
 rw[data hx];split at h;simp only[bG]at h;subst h;exact⟨rfl,λx hx=>by simp at hx⟩;cases h;rename_i vF;have hx:ry ob d=some (x,ls,ms):=by
  unfold zC at h2;split at h2;exact(vF _ rfl).elim;exact h2
 rw[data hx];split at h;simp only[bG]at h;subst h;exact⟨rfl,λx hx=>by simp at hx⟩;cases h
theorem za5{sf:kS}{ob:Nat->Option AO}:∀{ds:List DV}{xs ys:List XA}{u:List (Nat×AO)}{ls ms:List Nat},jG ob ds ys=some u->jP sf ob ds=some (xs,ls,ms) ->
  u.map (·.1)=ls/\∀x∈u,∀L∈oh x.2,∃o',ob x.1=some o'/\L∈oh o'
 | [],xs,[],u,ls,ms,h,h2=>by
  simp only[jG,bG]at h;subst h;simp only[jP,bG,fJ]at h2;rw[<- h2.2.1];exact⟨rfl,λx hx=>by simp at hx⟩
 | [],_,_::_,_,_,_,h,_=>by simp[jG]at h
 | _::_,_,[],_,_,_,h,_=>by simp[jG]at h
 | d::ds,xs,y::ys,u,ls,ms,h,h2=>by
  simp only[jG]at h;split at h;rename_i u1 u2 e1 e2;simp only[bG]at h;subst h;simp only[jP]at h2;split at h2;rename_i x bl m1 xs' bls m2 h3 h4;simp only[bG,fJ]at h2;rw[<- h2.2.1];obtain⟨i1,i2⟩:=za5 e2 h4;obtain⟨j1,j2⟩:=zvk e1 h3;exact⟨by simp[i1,j1],λx hx=>(dG.1 hx).elim (j2 x) (i2 x)⟩;cases h2;cases h
theorem G7{sf:kS}{ob ob':Nat→Option AO}:∀{cells:List Cl},(∀L∈cells.flatMap aY,ob' L=ob L)→iF sf ob' cells=iF sf ob cells
  | [],_=>rfl
  | c::cells,h=>by
    have ih:iF sf ob' cells=iF sf ob cells:=G7 λL hL=>h L (by simp only[lX,dG];exact .inr hL);cases c with|vec M=>simp only[iF,ih,h M (by simp[aY])]|mo M=>simp only[iF,ih,h M (by simp[aY])]|_=>simp only[iF,ih]
theorem zdr{sf:kS}{ob ob':Nat->Option AO}{d:DV}(h:∀L∈bi ob d,ob' L=ob L):zC sf ob' d=zC sf ob d/\∀y,Iq ob' d y=Iq ob d y:=by
 have hx:ry ob' d=ry ob d:=by simp only[ry,KU h]
 by_cases hd:∃L,d=.one (.c (.ptr L 0))
 ·obtain⟨L,rfl⟩:=hd;have hL:ob' L=ob L:=h L (mG.2 ⟨L,by simp[bQ,dw,aY],.inl rfl⟩);refine⟨?_,λy=>by simp only[Iq,hL]⟩;rw[oz,oz,hL,hx];cases ho:ob L with
  | none=>rfl
  | some o =>
   cases o with
   | box ty cells =>
    have:iF sf ob' cells=iF sf ob cells:=G7 λM hM=>h M (mG.2 ⟨L,by simp[bQ,dw,aY],.inr ⟨_,ho,M,hM,.inl rfl⟩⟩);simp only[this]
   | _=>rfl
 refine⟨?_,fun y => ?_⟩;unfold zC;split;exact(hd ⟨_,rfl⟩).elim;exact hx;unfold Iq;split;exact(hd ⟨_,rfl⟩).elim;rfl
theorem KZ{sf:kS}{ob ob':Nat→Option AO}:∀{ds:List DV},(∀L∈ds.flatMap (bi ob),ob' L=ob L)→jP sf ob' ds=jP sf ob ds∧∀ys,jG ob' ds ys=jG ob ds ys
  | [],_=>⟨rfl,λys=>by cases ys<;>rfl⟩
  | d::ds,h=>by
    obtain⟨i1,i2⟩:=KZ (sf:=sf) (ds:=ds) (ob':=ob') λL hL=>h L (by simp only[lX,dG];exact .inr hL);obtain⟨j1,j2⟩:=zdr (sf:=sf) (ob':=ob') (d:=d) λL hL=>h L (by simp only[lX,dG];exact .inl hL);refine⟨by simp only[jP,i1,j1],λys=>?_⟩;cases ys with|nil=>rfl|cons y ys=>simp only[jG,i2,j2]
theorem zgS{sf:kS}{C:MK}{ds:List DV}(hk:∀ev' ob',(∀x∈o.op.operands.toList,ev' x=ev x)->act P Γ o ev' ob'=sF C sf ds ob')(hA:sF C sf ds ob=A)(hs:A.safe):bP P Γ o ev ob A:=by
 unfold sF at hA;split at hA
 ·rename_i xs ls ms has;split at hA
  ·rename_i s rs ys hCx;split at hA
   rotate_left
   subst hA;exact hs.elim;rename_i hpm;unfold pG at hA;split at hA;rename_i u OD;split at hA;rename_i cO;subst hA;have zvl:=cO;simp only[fH,Ud]at cO;obtain⟨h1,h2⟩:=za5 OD has;have hw:∀L∈(u.filter λx=>!kT x.2).map (·.1),(L,true)∈wr ((u.filter λx=>!kT x.2).map (·.1))++rd (ds.flatMap (bi ob)):=λL hL=>dG.2 (.inl (KY hL));have hul:∀x∈u.filter λx=>!kT x.2,x.1∈(u.filter λx=>!kT x.2).map (·.1):=λx hx=>rY.2 ⟨x,hx,rfl⟩;refine⟨λx hx=>hw _ (hul x hx),?_,λx hx L hL=>?_,λd hd L hL=>(by simp only[aA.gives]at hd;subst hd;rw[YU]at hL;simp at hL),λev' ob' he bT=>?_⟩
   ·match ms,cO.1.2,cO.2 with|[],_,_=>exact .inl rfl|[x],_,hc=>exact .inr ⟨x,rfl,hw x (by simpa using hc)⟩|_::_::_,h,_=>simp at h
   obtain⟨o',ho,hL⟩:=h2 x (Qu.1 hx).1 L hL;exact .inr ⟨(x.1,true),hw _ (hul x hx),o',ho,hL⟩;have hl:∀L∈ds.flatMap (bi ob),ob' L=ob L:=fun L hL=>bT (L,false) (dG.2 (.inr (rY.2 ⟨L,hL,rfl⟩)));have e1:=KZ (sf:=sf) hl;have e2:ds.flatMap (bi ob')=ds.flatMap (bi ob):=YQ λd hd=>ja λL hL=>hl L (jJ.2 ⟨d,hd,hL⟩);rw[hk ev' ob' he];simp only[sF,pG,e1.1,has,hCx,hpm,e1.2,OD,zvl,e2];subst hA;exact hs.elim;subst hA;exact hs.elim
  subst hA;exact hs.elim
 subst hA;exact hs.elim
theorem G8{ev':Operand→DV}:∀{l:List Operand},(∀x∈l,ev' x=ev x)→BN ev' l=BN ev l|[],_=>rfl|x::l,h=>by simp only[BN,h x jM,G8 λy hy=>h y (jB _ hy)]
theorem za6{rs:List PA}{args:Array Operand}{c:Callee}{ts:Array TypeId}{az:List PA}{u:lY}(aU:o.op = .call {callee:=c,args,argTypes:=ts})
    (has:gQ ob (args.toList.map ev)=some (az,u))
    (key:∀(ev':Operand->DV)(ob':Nat->Option AO),(∀x∈o.op.operands.toList,ev' x=ev x)->(∀L∈args.toList.flatMap λx=>bi ob (ev x),ob' L=ob L) ->
      act P Γ o ev' ob'=kZ (args.toList.flatMap λx=>bi ob (ev x)) u rs) (hA:kZ (args.toList.flatMap λx=>bi ob (ev x)) u rs=A):bP P Γ o ev ob A:=by
  have zAC:∀L,L∈(args.toList.flatMap λx=>bi ob (ev x))->(L,true)∈wr (args.toList.flatMap λx=>bi ob (ev x)):=λL hL=>rY.2 ⟨L,hL,rfl⟩;have zCI:∀L,L∈(args.toList.flatMap λx=>bi ob (ev x))->(L,false)∈rd (args.toList.flatMap λx=>bi ob (ev x)):=λL hL=>rY.2 ⟨L,hL,rfl⟩;have hk:∀x∈u,(x.1,true)∈wr (args.toList.flatMap λx=>bi ob (ev x))/\oh x.2=[]:=λx hx=>by
    obtain⟨h1,h2⟩:=AP has x hx;refine⟨zAC _ ?_,h2⟩;rw[qdU]at h1;exact h1
  generalize (args.toList.flatMap λx=>bi ob (ev x))=iW at hA key hk zAC zCI;cases hl:Uf rs||Ug u rs with
  | true =>
    simp only[kZ,hl]at hA key;subst hA;exact⟨λx hx=>by simp[aA.u]at hx,.inl rfl,λx hx=>by simp[aA.u]at hx,λd hd L hL=>(by cases hd;rw[YU]at hL;simp at hL),λev' ob' he bT=>key ev' ob' he λL hL=>bT _ (zCI L hL)⟩
  | false =>
    simp only[kZ,hl]at hA key;subst hA;exact⟨λx hx=>(hk x hx).1,.inl rfl,λx hx L hL=>(by rw[(hk x hx).2]at hL;simp at hL),λd hd L hL=>(by cases hd;rw[YU]at hL;simp at hL),λev' ob' he bT=>key ev' ob' he λL hL=>bT _ (zAC L hL)⟩
theorem zmS{f:Operand}{args:Array Operand}{ts:Array TypeId}(aU:o.op=.call {callee:=.value f,args,argTypes:=ts})(hA:act P Γ o ev ob=A)(hs:A.safe):bP P Γ o ev ob A:=by
 have hm:=yg aU;have hf:f∈o.op.operands.toList:=by simp[aU,Op.operands,Call.operands]
 simp only[act,aCl,aU]at hA;have e0:∀ev':Operand->DV,(∀x∈o.op.operands.toList,ev' x=ev x)->args.toList.map ev'=args.toList.map ev:=λev' he=>dqU λx hx=>he x (hm x hx);split at hA;rename_i gf caps hef;split at hA;rename_i C hC;exact zgS (λev' ob' he=>by simp only[act,aCl,aU,he f hf,hef,hC,e0 ev' he]) hA hs;subst hA;exact hs.elim
 ·rename_i gf first caps hef
  split at hA;rename_i C hC;exact zgS (λev' ob' he=>by simp only[act,aCl,aU,he f hf,hef,hC,e0 ev' he]) hA hs;rename_i hC;split at hA;rename_i hk;split at hA;exact zvj (k:=Γ.own gf) aU (λev' ob' he=>by simp only[act,aCl,aU,he f hf,hef,hC,hk]) hA hs;subst hA;exact hs.elim;rename_i hko;split at hA
  ·rename_i az u has;split at hA
   case h_2=>subst hA;exact hs.elim
   rename_i rs hrs
   have key:∀(ev':Operand->DV)(ob':Nat->Option AO),(∀x∈o.op.operands.toList,ev' x=ev x)->(∀L∈args.toList.flatMap λx=>bi ob (ev x),ob' L=ob L) ->
     act P Γ o ev' ob'=kZ (args.toList.flatMap λx=>bi ob (ev x)) u rs:=by
    intro ev' ob' he hl;have e0:args.toList.map ev'=args.toList.map ev:=dqU λx hx=>he x (hm x hx);have e1:gQ ob' (args.toList.map ev)=gQ ob (args.toList.map ev):=lJ λL hL=>hl L (by rw[qdU]at hL;exact hL);have e2:(args.toList.flatMap λx=>bi ob' (ev' x))=args.toList.flatMap λx=>bi ob (ev x):=by
     refine YQ λx hx=>?_;rw[he x (hm x hx)];exact ja λL hL=>hl L (jJ.2 ⟨x,hx,hL⟩)
    simp only[act,aCl,aU,he f hf,hef,hC,hko,e0,e1,has,e2,hrs]
   exact za6 aU has key hA
  subst hA;exact hs.elim
 ·rename_i gf cells hef;split at hA
  ·rename_i az u has;split at hA
   case h_2=>subst hA;exact hs.elim
   rename_i rs hrs
   have key:∀(ev':Operand->DV)(ob':Nat->Option AO),(∀x∈o.op.operands.toList,ev' x=ev x)->(∀L∈args.toList.flatMap λx=>bi ob (ev x),ob' L=ob L) ->
     act P Γ o ev' ob'=kZ (args.toList.flatMap λx=>bi ob (ev x)) u rs:=by
    intro ev' ob' he hl;have e0:args.toList.map ev'=args.toList.map ev:=dqU λx hx=>he x (hm x hx);have e1:gQ ob' (args.toList.map ev)=gQ ob (args.toList.map ev):=lJ λL hL=>hl L (by rw[qdU]at hL;exact hL);have e2:(args.toList.flatMap λx=>bi ob' (ev' x))=args.toList.flatMap λx=>bi ob (ev x):=by
     refine YQ λx hx=>?_;rw[he x (hm x hx)];exact ja λL hL=>hl L (jJ.2 ⟨x,hx,hL⟩)
    simp only[act,aCl,aU,he f hf,hef,e0,e1,has,e2,hrs]
   exact za6 aU has key hA
  subst hA;exact hs.elim
 subst hA;exact hs.elim
theorem Vd{f:FuncId}{first caps:Array Operand}(aU:o.op=.makeFunc (.func f) first caps)(hA:act P Γ o ev ob=A)(hs:A.safe):bP P Γ o ev ob A:=by
 have hm:∀x∈first.toList++caps.toList,x∈o.op.operands.toList:=λx hx=>by simp only[aU,Op.operands];simpa using hx
 simp only[act,aMf,aU]at hA;split at hA;rename_i hmt;split at hA;rename_i cs hf hc;subst hA;refine bP.pure (λL hL=>by simp[kR,rE,lH]at hL) λev' ob' he _=>?_;have e1:BN ev' caps.toList=some cs:=(G8 λx hx=>he x (hm x (dG.2 (.inr hx)))).trans hc;simp only[act,aMf,aU,hmt,hf,e1];subst hA;exact hs.elim;rename_i hmt;have hbc:∀ev':Operand->DV,(∀x∈o.op.operands.toList,ev' x=ev x)->OQ ev' first.toList caps.toList=OQ ev first.toList caps.toList:=λev' he=>by
  unfold OQ;cases hf:first.toList with
  | nil=>rfl
  | cons x r =>
   cases r with
   | cons y r=>rfl
   | nil =>
    cases hc:caps.toList with|cons y r=>rfl|nil=>simp only[];rw[he x (hm x (by rw[hf];simp))]
 split at hA;rename_i l hb;subst hA;exact bP.pure (iH _) λev' ob' he _=>by simp only[act,aMf,aU,hmt,hbc ev' he,hb]
 rename_i hbn;split at hA;rename_i l u l' u' h1 h2;subst hA;have zCJ:∀(x:Operand)(c:Cl),ev x=.one (.c c)->∀k,RC ob k (aY c)->k∈bi ob (ev x):=λx c h k hk=>by
  rw[h];exact mG.2 hk
 have clm:∀(xs:List Operand),∀L∈(xs.flatMap λx=>match ev x with | .one (.c c)=>[c]|_=>[.junk]).flatMap aY,∃x∈xs,∃c,ev x=.one (.c c)/\L∈aY c:=by
  intro xs L hL;obtain⟨c,hc,hL⟩:=jJ.1 hL;obtain⟨x,hx,hc⟩:=jJ.1 hc;refine⟨x,hx,?_⟩;split at hc;rename_i c' h;simp at hc;subst hc;exact⟨_,h,hL⟩;simp at hc;subst hc;simp[aY]at hL
 have keys:∀(xs:List Operand)(l:List PV)(u:lY),su ob (xs.flatMap λx=>match ev x with | .one (.c c)=>[c]|_=>[.junk])=some (l,u) ->
   ∀x∈u,x.1∈xs.flatMap (λx=>bi ob (ev x))/\oh x.2=[]:=by
  intro xs l u h y hy;obtain⟨h3,h4⟩:=yV h y hy;refine⟨?_,h4⟩;obtain⟨L,hL,h3⟩:=h3;obtain⟨x,hx,c,hc,hL⟩:=clm xs _ hL;exact jJ.2 ⟨x,hx,zCJ x c hc _ ⟨L,hL,h3⟩⟩
 have zCK:∀(xs:List Operand)(ev':Operand->DV)(ob':Nat->Option AO),(∀x∈xs,ev' x=ev x)->(∀L∈xs.flatMap (λx=>bi ob (ev x)),ob' L=ob L) ->
   su ob' (xs.flatMap λx=>match ev' x with | .one (.c c)=>[c]|_=>[.junk])=su ob (xs.flatMap λx=>match ev x with | .one (.c c)=>[c]|_=>[.junk]):=by
  intro xs ev' ob' he bT;have e0:(xs.flatMap λx=>match ev' x with | .one (.c c)=>[c]|_=>[.junk])=xs.flatMap λx=>match ev x with | .one (.c c)=>[c]|_=>[.junk] :=
   YQ λx hx=>by rw[he x hx]
  rw[e0];refine AC λL hL=>?_;obtain⟨x,hx,c,hc,hL⟩:=clm xs _ hL;have hd:∀k,RC ob k (aY c)->ob' k=ob k:=λk hk=>bT k (jJ.2 ⟨x,hx,zCJ x c hc _ hk⟩);exact⟨hd L ⟨L,hL,.inl rfl⟩,λo' kN M hM=>⟨hd M ⟨L,hL,.inr ⟨o',kN,M,hM,.inl rfl⟩⟩,λo2 pz N hN=>hd N ⟨L,hL,.inr ⟨o',kN,M,hM,.inr ⟨o2,pz,hN⟩⟩⟩⟩⟩
 refine⟨λx hx=>?_,.inl rfl,λx hx L hL=>?_,λd' fD L hL=>?_,λev' ob' he bT=>?_⟩;simp only [aA.u]at hx;refine KY ?_;rw[qdH];rcases dG.1 hx with hx|hx
 exact dG.2 (.inl (keys _ _ _ h1 x hx).1);exact dG.2 (.inr (keys _ _ _ h2 x hx).1);simp only [aA.u]at hx;rcases dG.1 hx with hx|hx
 rw[(keys _ _ _ h1 x hx).2]at hL;simp at hL;rw[(keys _ _ _ h2 x hx).2]at hL;simp at hL;simp only[aA.gives]at fD;subst fD;simp[kR,rE,lH]at hL;have hl:∀L∈(first.toList++caps.toList).flatMap fun x=>bi ob (ev x),ob' L=ob L:=fun L hL=>bT (L,true) (KY hL);have e1:=zCK first.toList ev' ob' (λx hx=>he x (hm x (dG.2 (.inl hx)))) (λL hL=>hl L (by rw[qdH];exact dG.2 (.inl hL)));have e2:=zCK caps.toList ev' ob' (λx hx=>he x (hm x (dG.2 (.inr hx)))) (λL hL=>hl L (by rw[qdH];exact dG.2 (.inr hL)));have e3:((first.toList++caps.toList).flatMap λx=>bi ob' (ev' x))=(first.toList++caps.toList).flatMap λx=>bi ob (ev x):=by
  refine YQ λx hx=>?_;rw[he x (hm x hx)];exact ja λL hL=>hl L (jJ.2 ⟨x,hx,hL⟩)
 simp only[act,aMf,aU,hmt,e3,hbc ev' he,hbn];split;rename_i l2 u2 l3 u3 h3 h4;have a1:some (l2,u2)=some (l,u):=h3.symm.trans (e1.trans h1);have a2:some (l3,u3)=some (l',u'):=h4.symm.trans (e2.trans h2);simp only[bG,fJ]at a1 a2;obtain⟨rfl,rfl⟩:=a1;obtain⟨rfl,rfl⟩:=a2;rfl;rename_i vF;exact(vF l u l' u' (e1.trans h1) (e2.trans h2)).elim;subst hA;exact hs.elim
theorem Q5{t:TypeId}{x y:Operand}(aU:o.op=.makeSlice t x y)(hA:act P Γ o ev ob=A)(hs:A.safe):bP P Γ o ev ob A:=by
 have hx:x∈o.op.operands.toList:=by simp[aU,Op.operands]
 have hy:y∈o.op.operands.toList:=by simp[aU,Op.operands]
 have hc0:∀ev' ob',(∀x∈o.op.operands.toList,ev' x=ev x)->act P Γ o ev' ob'=rF P Γ t (ev x) (ev y) o.dst ob':=λev' ob' he=>by simp only[act,aU,he x hx,he y hy]
 have hA0:=hA;rw[hc0 ev ob (λ_ _=>rfl)]at hA;unfold rF at hA;split at hA;rename_i e k1 j k2 j2 dst hu hex X7 Gw;split at hA;rename_i ie z hi hz gB;have fin:∀(s:CP)(ao:AO),oh ao=[]->aA.chk [(dst,true)] s (.cl (.vec dst)) [(dst,ao)] []=A->(∀ob':Nat->Option AO,ob' dst=none->rF P Γ t (ev x) (ev y) o.dst ob'=A)->bP P Γ o ev ob A:=by
  intro s ao hao e hcc;subst e;refine⟨λz hz=>?_,.inl rfl,λz hz M hM=>?_,λd' fD M hM=>?_,λev' ob' he bT=>?_⟩;simp only[aA.u,kK]at hz;subst hz;simp[aA.fp];simp only[aA.u,kK]at hz;subst hz;rw[hao]at hM;simp at hM;simp only [aA.gives]at fD;subst fD;simp only[kR,rE,lH,kK]at hM;subst hM;exact .inr (by simp[aA.fp]);have e2:=bT (dst,true) (by simp [aA.fp]);simp only at e2;rw[hc0 ev' ob' he];exact hcc ob' (e2.trans gB)
 have hcc:∀ob':Nat->Option AO,ob' dst=none->rF P Γ t (ev x) (ev y) o.dst ob'=A:=λob' h=>by
  have:act P Γ o ev ob=A:=hA0;rw[hc0 ev ob (λ_ _=>rfl)]at this;rw[<- this];unfold rF;simp only[hu,hex,X7,Gw,hi,hz,gB,h]
 split at hA;split at hA;split at hA;split at hA;exact fin _ _ rfl hA hcc;subst hA;exact hs.elim;subst hA;exact hs.elim;subst hA;exact hs.elim;split at hA;split at hA;exact fin _ _ rfl hA hcc;subst hA;exact hs.elim;subst hA;exact hs.elim;subst hA;exact hs.elim;subst hA;exact hs.elim
theorem zCL(hA:act P Γ o ev ob=A)(hs:A.safe):bP P Γ o ev ob A:=by
 have qY:=hA;cases aU:o.op with
 | move x=>simp only[act,aU]at hA;subst hA;exact za3 (.inl aU)
 | assign x=>simp only[act,aU]at hA;subst hA;exact za3 (.inr aU)
 | pick c x y =>
  simp only[act,aPk,aU]at hA;split at hA;rename_i t hc;subst hA;exact zmO aU hc;subst hA;exact hs.elim
 | alloc e =>
  simp only[act,aAl,aU]at hA;split at hA;rename_i z hz;refine QW (ao:=.box e z) (d:=λt=>.cl (.ptr t 0)) (λL hL=>?_) (λt L hL=>by simp[kR,rE,lH]at hL) (λev' ob' _=>by simp only[act,aAl,aU,hz]) hA hs;simp only[oh]at hL;rw[za4 hz]at hL;simp at hL;subst hA;exact hs.elim
 | box e x =>
  have hx:x∈o.op.operands.toList:=by simp[aU,Op.operands]
  simp only[act,aBx,aU]at hA;split at hA;rename_i d m hex hm;split at hA;rename_i cO;refine QW (ao:=.box e d.cells) (d:=λt=>.cl (.ptr t 0)) (λL hL=>?_) (λt L hL=>by simp[kR,rE,lH]at hL) (λev' ob' he=>by simp only[act,aBx,aU,he x hx,hex,hm,cO]) hA hs;simp only[oh]at hL;rw[QX]at hL;exact .inl ⟨x,hx,by rw[hex];exact hL⟩;subst hA;exact hs.elim;subst hA;exact hs.elim
 | build t parts =>
  simp only[act,aBd,aU]at hA;split at hA;rename_i z hf hz;split at hA;rename_i l hl;subst hA;exact zgM aU hf hz hl;subst hA;exact hs.elim;subst hA;exact hs.elim
 | buildSlice t m parts=>exact Og aU qY hs
 | load t x=>exact zmP aU qY hs
 | store t x y=>exact zgN aU qY hs
 | nilCheck x=>exact Vb aU qY hs
 | binOp op t x y t'=>exact zgP aU qY hs
 | unOp op t x=>exact zmR aU qY hs
 | convert t1 t2 x=>exact YS aU qY hs
 | fieldAddr t x f=>exact QZ aU qY hs
 | indexAddr t x y=>exact Q3 aU qY hs
 | extract x k=>exact YT aU qY hs
 | index t x y=>exact zgQ aU qY hs
 | field t x f=>exact zgR aU qY hs
 | slice t x lo hi mx =>
  cases mx with|none=>exact ok_slice aU qY hs|some m=>simp only[act,aU]at hA;subst hA;exact hs.elim
 | lookup t x y k=>exact zdp aU qY hs
 | mapUpdate t x y z=>exact QY aU qY hs
 | makeMap t x =>
  cases x with|none=>exact YR aU qY hs|some x=>simp only[act,aU]at hA;subst hA;exact hs.elim
 | makeSlice t x y=>exact Q5 aU qY hs
 | makeFunc fn first caps =>
  cases fn with|func f=>exact Vd aU qY hs|_=>simp only[act,aU]at hA;subst hA;exact hs.elim
 | call c =>
  obtain⟨callee,args,ts⟩:=c;cases callee with
  | value f=>exact zmS aU qY hs
  | invoke x m=>simp only[act,aU]at hA;subst hA;exact hs.elim
  | builtin b =>
   cases b with|len=>exact zvi aU qY hs|max=>exact zsm (.inl rfl) aU qY hs|min=>exact zsm (.inr rfl) aU qY hs|append=>exact zdq aU qY hs|_=>simp only[act,aU]at hA;subst hA;exact hs.elim
 | _=>simp only[act,aU]at hA;subst hA;exact hs.elim
end
end Go.Pm
namespace Go.Pm
variable [aG]
structure zW (σ τ : St) : Prop where
  env:∀t,lk σ.env t=lk τ.env t
  ay:∀L,lk σ.ay L=lk τ.ay L
  log:∀x,x∈σ.log↔x∈τ.log
theorem zW.refl(σ:St):zW σ σ:=⟨λ_=>rfl,λ_=>rfl,λ_=>Ue⟩
theorem zW.symm{σ τ:St}(h:zW σ τ):zW τ σ:=⟨λt=>(h.env t).symm,λt=>(h.ay t).symm,λx=>(h.log x).symm⟩
theorem ut{e e':List (Nat×DV)}{x:Operand}(h:∀t∈QB x,lk e t=lk e' t):dW e x=dW e' x:=by
 cases x with|tmp t=>simp only[dW];rw[h t (by simp[QB])]|_=>rfl
theorem Fv(x:Cl):eH [] x=x:=by cases x<;>rfl
theorem La(x:D1):fE [] x=x:=by
 cases x with|c x=>simp[fE,Fv]|agg cs=>simp only[fE];rw[show eH []=id from funext Fv,qjs]
theorem zds(x:DV):fU [] x=x:=by
 cases x with|one x=>simp[fU,La]|tup cs=>simp only[fU];rw[show fE []=id from funext La,qjs]
theorem zdt(x:AO):dO [] x=x:=by
 cases x with|box ty cs=>simp only[dO];rw[show eH []=id from funext Fv,qjs]|_=>rfl
theorem CS{l:List Nat}{x:Cl}(h:∀L∈lH x,L∉l):eH l x=x:=by
 cases x with
 | vec L =>
  have h1:l.contains L=false:=by simpa using h L (by simp[lH])
  simp only[eH,h1]
 | vptr L s i k =>
  have h1:l.contains L=false:=by simpa using h L (by simp[lH])
  simp only[eH,h1]
 | mo L =>
  have h1:l.contains L=false:=by simpa using h L (by simp[lH])
  simp only[eH,h1]
 | _=>rfl
theorem uu{α:Type}{f:α→α}:∀{l:List α},(∀x∈l,f x=x)→l.map f=l|[],_=>rfl|x::l,h=>by rw[nU,h x jM,uu λy hy=>h y (jB _ hy)]
theorem PN{l:List Nat}{x:D1}(h:∀L∈rE x,L∉l):fE l x=x:=by
 cases x with|c x=>simp only[fE];rw[CS h]|agg cs=>simp only[fE];rw[uu λx hx=>CS λL hL=>h L (jJ.2 ⟨x,hx,hL⟩)]
theorem Lc{l:List Nat}{x:DV}(h:∀L∈kR x,L∉l):fU l x=x:=by
 cases x with|one x=>simp only[fU];rw[PN h]|tup cs=>simp only[fU];rw[uu λx hx=>PN λL hL=>h L (jJ.2 ⟨x,hx,hL⟩)]
theorem Ld{l:List Nat}{x:AO}(h:∀L∈oh x,L∉l):dO l x=x:=by
 cases x with|box ty cs=>simp only[dO];rw[uu λx hx=>CS λL hL=>h L (jJ.2 ⟨x,hx,hL⟩)]|_=>rfl
theorem Je{l:List Nat}{x:Cl}:lH (eH l x)=lH x:=by
 cases x with|vec L=>simp only[eH];split<;>rfl|vptr L s i k=>simp only[eH];split<;>rfl|mo L=>simp only[eH];split<;>rfl|_=>rfl
theorem Ve{l:List Nat}{x:D1}:rE (fE l x)=rE x:=by
 cases x with|c x=>exact Je|agg cs=>simp only[fE,rE,qdU];exact YQ λx _=>Je
theorem zmT{l:List Nat}{x:DV}:kR (fU l x)=kR x:=by
 cases x with|one x=>exact Ve|tup cs=>simp only[fU,kR,qdU];exact YQ λx _=>Ve
theorem Q7{l:List Nat}{x:AO}:oh (dO l x)=oh x:=by
 cases x with|box ty cs=>simp only[dO,oh,qdU];exact YQ λx _=>Je|_=>rfl
theorem AQ{l m:List Nat}(x:Cl):eH l (eH m x)=eH m (eH l x):=by
 cases x with|vec L=>simp only[eH];cases hl:l.contains L<;>cases hm:m.contains L<;>simp only[hl,hm]|vptr L s i k=>simp only[eH];cases hl:l.contains L<;>cases hm:m.contains L<;>simp only[hl,hm]|mo L=>simp only[eH];cases hl:l.contains L<;>cases hm:m.contains L<;>simp only[hl,hm]|_=>rfl
theorem G9{l m:List Nat}(x:D1):fE l (fE m x)=fE m (fE l x):=by
 cases x with|c x=>simp only[fE];rw[AQ]|agg cs=>simp only[fE,qdS];rw[show eH l∘eH m=eH m∘eH l from funext AQ]
theorem YV{l m:List Nat}(x:DV):fU l (fU m x)=fU m (fU l x):=by
 cases x with|one x=>simp only[fU];rw[G9]|tup cs=>simp only[fU,qdS];rw[show fE l∘fE m=fE m∘fE l from funext G9]
theorem YW{l m:List Nat}(x:AO):dO l (dO m x)=dO m (dO l x):=by
 cases x with|box ty cs=>simp only[dO,qdS];rw[show eH l∘eH m=eH m∘eH l from funext AQ]|_=>rfl
theorem za7{α:Type}{f:α→α}:∀{l:List (Nat×α)}{t:Nat},lk (kills f l) t=(lk l t).map f
  | [],_=>rfl
  | (k,a)::r,t=>by
    simp only[kills];rw[aS,aS];split;rfl;exact za7
theorem zmU{σ:St}{i:Nat}{dst:Option Nat}{fp:List (Nat×Bool)}{d:DV}{u:List (Nat×AO)}{kl:List Nat}(t:Nat) :
  lk (σ.upd i dst fp d u kl).env t=if dst=some t then some d else(lk σ.env t).map (fU kl):=by
 cases kl with
 | nil =>
  have e:(lk σ.env t).map (fU [])=lk σ.env t:=by cases lk σ.env t<;>simp[zds]
  rw[e];cases dst with|none=>rfl|some s=>simp only[St.upd,aS,bG]
 | cons K r =>
  cases dst with|none=>simp only[St.upd,za7];rw[dM (by simp)]|some s=>simp only[St.upd,aS,za7,bG]
theorem zgT{σ:St}{i:Nat}{dst:Option Nat}{fp:List (Nat×Bool)}{d:DV}{u:List (Nat×AO)}{kl:List Nat}(L:Nat) :
  lk (σ.upd i dst fp d u kl).ay L=match lk u L with|some o=>some o|none=>(lk σ.ay L).map (dO kl):=by
 cases kl with
 | nil =>
  have e:(lk σ.ay L).map (dO [])=lk σ.ay L:=by cases lk σ.ay L<;>simp[zdt]
  rw[e];change lk (u++σ.ay) L=_;rw[gX];cases lk u L<;>rfl
 | cons K r =>
  simp only[St.upd,gX,za7];cases lk u L<;>rfl
theorem zmV{σ:St}{i:Nat}{dst:Option Nat}{fp:List (Nat×Bool)}{d:DV}{u:List (Nat×AO)}{kl:List Nat}:(σ.upd i dst fp d u kl).log=σ.log:=by
 cases kl<;>rfl
abbrev aA.may:aA->DV->Prop:=aA.gives
theorem aA.may_gives{A:aA}{d:DV}(h:A.may d):A.gives d:=h
theorem aA.may_of_safe{A:aA}(h:A.safe):∃d,A.may d:=by
 cases A with|no=>exact h.elim|val fp d u kl=>exact⟨d,rfl⟩|chk fp s d u kl=>exact⟨d,rfl⟩
def nx(A:aA)(lg:List (Nat×Bool)->List Nat->List (Nat×Nat×Nat))(i:Nat)(dst:Option Nat)(σ:St)(d:DV):St :=
 (σ.upd i dst A.fp d A.u A.kl).relog (lg A.fp A.kl)
theorem lK{A:aA}{lg:List (Nat×Bool)→List Nat→List (Nat×Nat×Nat)}{i:Nat}{dst:Option Nat}{K:St→Prop}{σ:St} :
  nC A lg i dst K σ↔A.safe/\∀d,A.may d->K (nx A lg i dst σ d):=by
 cases A with|no=>simp[nC,aA.safe]|val fp d u kl=>simp[nC,aA.safe,aA.may,aA.gives,nx,aA.fp,aA.u,aA.kl]|chk fp s d u kl=>simp[nC,aA.safe,aA.may,aA.gives,nx,aA.fp,aA.u,aA.kl]
section
variable(P:Program)(Γ:bM)(nt:Nat)(ops:Array Oper)
def lL(env:List (Nat×DV))(o:Oper):Option Bool :=
 match o.guard with
 | none=>some true
 | some (j,want) =>
  match(ops[j]?).bind (·.dst)with
  | none=>none
  | some g =>
   match lk env g with|some (.one (.c (.p (.bool b))))=>some (b==want)|some (.one (.c .undef))=>some false|_=>none
def qM(σ:St)(o:Oper):aA :=
 match dA nt o.dst,lL ops σ.env o with|true,some true=>act P Γ o (dW σ.env) (lk σ.ay)|true,some false=>.val [] (.cl .undef) [] []|_,_=>.no
def ni(σ:St)(i:Nat)(o:Oper)(fp:List (Nat×Bool))(kl:List Nat):List (Nat×Nat×Nat) :=
 match lL ops σ.env o with|some true=>l9 σ i o fp kl|_=>[]
def xu:List Nat→(St→Prop)→St→Prop
  | [],K,σ=>K σ
  | i::r,K,σ=>match ops[i]? with|none=>xu r K σ|some o=>nC (qM P Γ nt ops σ o) (ni ops σ i o) i o.dst (xu r K) σ
def looks(σ:St)(o:Oper):List Nat :=
 match lL ops σ.env o with|some true=>qE ops o|_=>gdT ops o
end
section
variable{P:Program}{Γ:bM}{nt:Nat}{ops:Array Oper}{σ τ:St}{o:Oper}{i:Nat}{A:aA}
theorem yh{L k:Nat}{r:List Nat}:k∈JO σ (L::r)↔∃o,lk σ.ay k=some o/\L∈oh o:=by
 simp only[JO,Qu,rY];constructor;rintro⟨_,h⟩;split at h;rename_i o ho;exact⟨o,ho,by simpa using h⟩;cases h;rintro⟨o,ho,hL⟩;refine⟨⟨(k,o),eU ho,rfl⟩,?_⟩;rw[ho];simpa using hL
theorem PO:∀t∈looks ops σ o,t∈qE ops o:=by
 unfold looks;split;exact λ_ h=>h;exact λt h=>dG.2 (.inr h)
theorem FB:∀t∈gdT ops o,t∈looks ops σ o:=by
 unfold looks;split;exact λt h=>dG.2 (.inr h);exact λt h=>h
theorem oC{env env':List (Nat×DV)}(h:∀t∈gdT ops o,lk env' t=lk env t):lL ops env' o=lL ops env o:=by
 unfold lL;split;rfl;rename_i j want hg;split;rfl;rename_i g TN;rw[h g (by simp[gdT,hg,TN])]
theorem Q8{b:Bool}(h:lL ops σ.env o=some b):∀t∈gdT ops o,∀v,lk σ.env t=some v->kR v=[]:=by
 intro t ht v hv;unfold gdT at ht;split at ht;rename_i j want hg;split at ht;rename_i g TN;simp only[kK]at ht;subst ht;unfold lL at h;rw[hg]at h;simp only[TN]at h;rw[hv]at h;split at h;rename_i e;simp only[bG]at e;subst e;rfl;rename_i e;simp only[bG]at e;subst e;rfl;cases h;simp at ht;simp at ht
theorem Vf{L off:Nat}(h:TS σ o=some (L,off)):∃t a ty cs,o.op=.load t a/\dW σ.env a=.one (.c (.ptr L off))/\lk σ.ay L=some (.box ty cs):=by
 unfold TS at h;split at h;rename_i t a aU;split at h;rename_i L' zSc Qo;split at h;rename_i ty cs hl;cases h;exact⟨t,a,ty,cs,aU,Qo,hl⟩;cases h;cases h;cases h
theorem zgU{t:TypeId}{a:Operand}{L off:Nat}{ty:TypeId}{cs:List Cl}(aU:o.op=.load t a)(Qo:dW σ.env a=.one (.c (.ptr L off)))(hl:lk σ.ay L=some (.box ty cs)):TS σ o=some (L,off):=by
 unfold TS;simp only[aU,Qo,hl]
theorem zvm{t:TypeId}{a:Operand}{L off:Nat}{ty:TypeId}{cs:List Cl}{ev:Operand→DV}{ob:Nat→Option AO}(aU:o.op = .load t a)(Qo:ev a = .one (.c (.ptr L off)))(hl:ob L=some (.box ty cs))(hA:act P Γ o ev ob=A)(hs:A.safe) :
  ∃g n d,jb P t=some g/\oP P t=some n/\kL g n cs off=some d/\A=.val [(L,false)] (.one d) [] []:=by
 simp only[act,aU,aLd,Qo,hl]at hA;split at hA;rename_i g n hg hn;split at hA;rename_i d hd;exact⟨g,n,d,hg,hn,hd,hA.symm⟩;subst hA;exact hs.elim;subst hA;exact hs.elim
theorem zdu{g:Bool}{n off:Nat}{cs cs':List Cl}(h:cs'.drop off=cs.drop off):kL g n cs' off=kL g n cs off:=by
 unfold kL;cases g with
 | true=>simp only[h]
 | false =>
  have e:∀l:List Cl,l[off]? = (l.drop off)[0]?:=λl=>by rw[dqX];rfl
  simp only[e,h]
theorem zvn{g:Bool}{n off:Nat}{cs:List Cl}{d:D1}(h:kL g n cs off=some d):∀M∈rE d,M∈(cs.drop off).flatMap lH:=by
 intro M hM;unfold kL at h;cases g with
 | true =>
  simp only at h;split at h;cases h;obtain⟨x,hx,hxM⟩:=jJ.1 hM;exact jJ.2 ⟨x,qjU hx,hxM⟩;cases h
 | false =>
  simp only at h;split at h;rename_i x hx;cases h;have e:(cs.drop off)[0]? = some x:=by rw[dqX];exact hx
  exact jJ.2 ⟨x,Jy e,hM⟩;cases h
def Le(σ:St)(o:Oper)(k:Nat)(x:Option AO):Prop:=x=lk σ.ay k\/∃L off ty cs cs',TS σ o=some (L,off)/\k=L/\lk σ.ay k=some (.box ty cs)/\x=some (.box ty cs')/\cs'.drop off=cs.drop off
theorem Lh{l:List Nat}{x:Option DV}(h:∀v,x=some v->∀L∈kR v,L∉l):x.map (fU l)=x:=by
 cases x with|none=>rfl|some v=>simp only[OL];rw[Lc (h v rfl)]
theorem Lj{l:List Nat}{x:Option AO}(h:∀v,x=some v->∀L∈oh v,L∉l):x.map (dO l)=x:=by
 cases x with|none=>rfl|some v=>simp only[OL];rw[Ld (h v rfl)]
structure Loc (P : Program) (Γ : bM) (nt : Nat) (ops : Array Oper) (σ : St) (i : Nat) (o : Oper) (A : aA) (lg : List (Nat × Nat × Nat)) : Prop where
  fst:∀x∈lg,x.1=i
  wr:∀x∈A.u,(i,x.1,1)∈lg
  kl:A.kl=[]\/∃L,A.kl=[L]
  kl3:∀L∈A.kl,(i,L,3)∈lg
  kl1:∀L∈A.kl,(i,L,1)∈lg
  kb:∀L∈A.kl,∀k o',lk σ.ay k=some o'->L∈oh o'->(i,k,5)∈lg
  labu:∀x∈A.u,∀L∈oh x.2,(i,L,2)∈lg
  labd:∀d,A.may d->∀L∈kR d,(i,L,2)∈lg\/(i,L,1)∈lg
  see:∀t∈looks ops σ o,∀v,lk σ.env t=some v->∀L∈kR v,(i,L,2)∈lg
  fpm:∀y∈A.fp,y.2=true->∀o',lk σ.ay y.1=some o'->∀L∈oh o',(i,L,2)∈lg
  fpk:∀y∈A.fp,∀(x:Option AO)(l:List Nat),(∀L∈l,(i,L,2)∉lg)->lk σ.ay y.1=x.map (dO l)->Le σ o y.1 x
  fpj:∀y∈A.fp,∀l:List Nat,(∀L∈l,(i,L,2)∉lg)->Le σ o y.1 ((lk σ.ay y.1).map (dO l))
  fpt:∀y∈A.fp,(i,y.1,0)∈lg\/(i,y.1,1)∈lg
  wfp:∀x∈A.u,(x.1,true)∈A.fp
  congr:∀τ,(∀t∈looks ops σ o,lk τ.env t=lk σ.env t)->(∀y∈A.fp,Le σ o y.1 (lk τ.ay y.1))->qM P Γ nt ops τ o=A
  logc:∀τ,(∀t∈looks ops σ o,lk τ.env t=lk σ.env t)->(∀y∈A.fp,Le σ o y.1 (lk τ.ay y.1)) ->
    (∀L∈A.kl,∀k,(∃o',lk τ.ay k=some o'/\L∈oh o')↔∃o',lk σ.ay k=some o'/\L∈oh o')->∀x,x∈ni ops τ i o A.fp A.kl↔x∈lg
theorem eG{fp:List (Nat×Bool)}{kl:List Nat}{x:Nat×Nat×Nat}:x∈l9 σ i o fp kl ↔
    (∃y∈fp,x=(i,y.1,match y.2 with|true=>1|false=>0))\/(∃L∈tY σ o fp,x=(i,L,2))\/(∃L∈kl,x=(i,L,3))\/∃k∈JO σ kl,x=(i,k,5):=by
  simp only[l9,dG,rY,or_assoc];constructor;rintro(⟨y,h1,h2⟩|⟨y,h1,h2⟩|⟨y,h1,h2⟩|⟨y,h1,h2⟩);exact .inl ⟨y,h1,h2.symm⟩;exact .inr (.inl ⟨y,h1,h2.symm⟩);exact .inr (.inr (.inl ⟨y,h1,h2.symm⟩));exact .inr (.inr (.inr ⟨y,h1,h2.symm⟩));rintro(⟨y,h1,h2⟩|⟨y,h1,h2⟩|⟨y,h1,h2⟩|⟨y,h1,h2⟩);exact .inl ⟨y,h1,h2.symm⟩;exact .inr (.inl ⟨y,h1,h2.symm⟩);exact .inr (.inr (.inl ⟨y,h1,h2.symm⟩));exact .inr (.inr (.inr ⟨y,h1,h2.symm⟩))
theorem zdv{fp:List (Nat×Bool)}{L:Nat}(hW:TS σ o=none)(h:Men o (dW σ.env) (lk σ.ay) fp L):L∈tY σ o fp:=by
 unfold tY;rcases h with⟨x,hx,hL⟩|⟨y,hy,o',ho,hL⟩
 exact dG.2 (.inl (jJ.2 ⟨x,hx,hL⟩));refine dG.2 (.inr (jJ.2 ⟨y,hy,?_⟩));rw[ho];unfold zf5;rw[hW];exact hL
theorem zmW{fp:List (Nat×Bool)}{L:Nat}{x:Operand}(hx:x∈o.op.operands.toList)(hL:L∈kR (dW σ.env x)):L∈tY σ o fp:=by
 unfold tY;exact dG.2 (.inl (jJ.2 ⟨x,hx,hL⟩))
theorem Ha{fp:List (Nat×Bool)}(hl:TS τ o=TS σ o)(he:∀x∈o.op.operands.toList,dW τ.env x=dW σ.env x)(bT:∀y∈fp,lk τ.ay y.1=lk σ.ay y.1):tY τ o fp=tY σ o fp:=by
 unfold tY;rw[YQ (f:=λx=>kR (dW τ.env x)) (h:=λx=>kR (dW σ.env x)) λx hx=>by rw[he x hx]];congr 1;exact YQ λy hy=>by rw[bT y hy];unfold zf5;rw[hl]
theorem zgV{A:aA}(hA:act P Γ o (dW σ.env) (lk σ.ay)=A)(hs:A.safe)(hW:TS σ o=none)(he:∀x∈o.op.operands.toList,dW τ.env x=dW σ.env x)(bT:∀y∈A.fp,lk τ.ay y.1=lk σ.ay y.1):TS τ o=none:=by
 cases hT:TS τ o with
 | none=>rfl
 | some p =>
  exfalso;obtain⟨L,off⟩:=p;obtain⟨t,a,ty,cs,aU,Qo,hl⟩:=Vf hT;have ea:=he a (by rw[aU];simp[Op.operands]);rw[Qo]at ea;have qY:=hA;simp only[act,aU,aLd,<- ea]at hA;split at hA;split at hA;rename_i c1 c2 _ cells vk;rw[zgU aU ea.symm vk]at hW;cases hW;rename_i cells vk;split at hA;have:=bT (L,false) (by subst hA;simp [aA.fp]);rw[hl,vk]at this;cases this;subst hA;exact hs.elim;subst hA;exact hs.elim;subst hA;exact hs.elim
theorem zvo{L off:Nat}(hA:qM P Γ nt ops σ o=A)(hs:A.safe)(hd:dA nt o.dst=true)(hw:lL ops σ.env o=some true)(hW:TS σ o=some (L,off)):Loc P Γ nt ops σ i o A (ni ops σ i o A.fp A.kl):=by
 have hA0:act P Γ o (dW σ.env) (lk σ.ay)=A:=by unfold qM at hA;rw[hd,hw]at hA;exact hA
 obtain⟨t,a,ty,cs,aU,Qo,hl⟩:=Vf hW;obtain⟨g,n,d,hg,hn,hr,rfl⟩:=zvm aU Qo hl hA0 hs;have X8:∀fp kl,ni ops σ i o fp kl=l9 σ i o fp kl:=λfp kl=>by unfold ni;rw[hw]
 have BB:looks ops σ o=qE ops o:=by unfold looks;rw[hw]
 have men:∀M∈(cs.drop off).flatMap lH,(i,M,2)∈ni ops σ i o [(L,false)] []:=λM hM=>by
  rw[X8];refine eG.2 (.inr (.inl ⟨M,?_,rfl⟩));unfold tY;refine dG.2 (.inr (jJ.2 ⟨(L,false),jM,?_⟩));simp only[hl];unfold zf5;rw[hW];exact hM
 have zAt:∀τ:St,(∀t∈looks ops σ o,lk τ.env t=lk σ.env t)->∀x∈o.op.operands.toList,dW τ.env x=dW σ.env x:=λτ h x hx =>
  ut λt ht=>h t (by rw[BB];exact dG.2 (.inl (jJ.2 ⟨x,hx,ht⟩)))
 have hwt:∀τ:St,(∀t∈looks ops σ o,lk τ.env t=lk σ.env t)->lL ops τ.env o=some true:=λτ h=>by
  rw[oC (env:=σ.env) λt ht=>h t (FB t ht),hw]
 have same:∀τ:St,Le σ o L (lk τ.ay L)->∃cs',lk τ.ay L=some (.box ty cs')/\cs'.drop off=cs.drop off:=λτ h=>by
  rcases h with h|⟨L',zSc,TZ,c1,c2,e1,e2,e3,e4,e5⟩
  exact⟨cs,by rw[h,hl],rfl⟩;rw [hW]at e1;cases e1;rw[hl]at e3;cases e3;exact⟨c2,e4,e5⟩
 have dk:∀(l:List Nat)(c0:List Cl),(∀M∈l,(i,M,2)∉ni ops σ i o [(L,false)] [])->(∀M∈(c0.drop off).flatMap lH,M∈(cs.drop off).flatMap lH)->(c0.map (eH l)).drop off=c0.drop off:=λl c0 hn zSl=>by
  rw[<- jqB];exact uu λx hx=>CS λM hM hMl=>hn M hMl (men M (zSl M (jJ.2 ⟨x,hx,hM⟩)))
 refine⟨λx hx=>?_,λx hx=>by simp[aA.u]at hx,.inl rfl,λL hL=>by simp[aA.kl]at hL,λL hL=>by simp[aA.kl]at hL,λL hL=>by simp[aA.kl]at hL,λx hx=>by simp[aA.u]at hx,
  λd' fD M hM=>.inl ?_,λt ht v hv M hM=>?_,λy hy h1=>?_,λy hy x l hnm hx=>?_,λy hy l hnm=>?_,λy hy=>?_,λx hx=>by simp[aA.u]at hx,λτ he bT=>?_,λτ he bT _ x=>?_⟩
 rw [X8]at hx;rcases eG.1 hx with⟨_,_,h⟩|⟨_,_,h⟩|⟨_,_,h⟩|⟨_,_,h⟩<;>rw[h]
 simp only [aA.gives]at fD;subst fD;exact men M (zvn hr M hM);rw [BB]at ht;rcases dG.1 ht with ht|ht
 ·obtain⟨x,hx,ht⟩:=jJ.1 ht;rw[X8];refine eG.2 (.inr (.inl ⟨M,zmW hx ?_,rfl⟩));cases x with|tmp s=>simp only[QB,kK]at ht;subst ht;simp only[dW,hv];exact hM|_=>simp[QB]at ht
 rw[Q8 hw t ht v hv]at hM;simp at hM;simp only[aA.fp,kK]at hy;subst hy;cases h1
 ·simp only [aA.fp,kK]at hy;subst hy;simp only at hx ⊢;rw[hl]at hx;cases x with
  | none=>cases hx
  | some v =>
   cases v with
   | box TZ c0 =>
    simp only[OL,dO,bG,AO.box.injEq]at hx;obtain⟨rfl,rfl⟩:=hx;refine .inr ⟨L,off,ty,_,c0,hW,rfl,hl,rfl,?_⟩;refine(dk l c0 hnm λM hM=>?_).symm;rw[<- jqB,qdU];obtain⟨x,hx,hxM⟩:=jJ.1 hM;exact jJ.2 ⟨x,hx,by rw[Je];exact hxM⟩
   | _=>simp[dO]at hx
 simp only [aA.fp,kK]at hy;subst hy;simp only;rw[hl];exact .inr ⟨L,off,ty,cs,cs.map (eH l),hW,rfl,hl,rfl,dk l cs hnm λM hM=>hM⟩;simp only [aA.fp,kK]at hy;subst hy;exact .inl (by rw[X8];exact eG.2 (.inl ⟨(L,false),jM,rfl⟩));obtain⟨cs',h1,h2⟩:=same τ (bT (L,false) jM);have ea:=zAt τ he a (by rw[aU];simp[Op.operands]);unfold qM;rw[hd,hwt τ he];simp only[act,aU,aLd,ea,Qo,h1,hg,hn,zdu h2,hr];obtain⟨cs',h1,h2⟩:=same τ (bT (L,false) jM);have ea:=zAt τ he a (by rw[aU];simp[Op.operands]);have hW':TS τ o=some (L,off):=zgU aU (ea.trans Qo) h1;have e1:ni ops τ i o [(L,false)] []=l9 τ i o [(L,false)] []:=by unfold ni;rw[hwt τ he]
 have e2:tY τ o [(L,false)]=tY σ o [(L,false)]:=by
  unfold tY;rw[YQ (f:=λx=>kR (dW τ.env x)) (h:=λx=>kR (dW σ.env x)) λx hx=>by rw[zAt τ he x hx]];congr 1;simp only[lX,List.flatMap_nil,h1,hl];unfold zf5;rw[hW,hW'];simp only[h2]
 show x∈ni ops τ i o [(L,false)] []↔x∈ni ops σ i o [(L,false)] [];rw[e1,X8,eG,eG,e2];simp[JO]
theorem Vg(hA:qM P Γ nt ops σ o=A)(hs:A.safe):Loc P Γ nt ops σ i o A (ni ops σ i o A.fp A.kl):=by
 have qY:=hA;unfold qM at hA;split at hA
 ·rename_i hd hw;cases hW:TS σ o with
  | some p=>exact zvo qY hs hd hw hW
  | none =>
  have K:=zCL hA hs;have X8:∀fp kl,ni ops σ i o fp kl=l9 σ i o fp kl:=λfp kl=>by unfold ni;rw[hw]
  have BB:looks ops σ o=qE ops o:=by unfold looks;rw[hw]
  have zdw:∀L,Men o (dW σ.env) (lk σ.ay) A.fp L->(i,L,2)∈ni ops σ i o A.fp A.kl:=λL h=>by
   rw[X8];exact eG.2 (.inr (.inl ⟨L,zdv hW h,rfl⟩))
  have hfw:∀L,(L,true)∈A.fp->(i,L,1)∈ni ops σ i o A.fp A.kl:=λL h=>by
   rw[X8];exact eG.2 (.inl ⟨_,h,rfl⟩)
  have aU:∀τ:St,(∀t∈looks ops σ o,lk τ.env t=lk σ.env t)->∀x∈o.op.operands.toList,dW τ.env x=dW σ.env x:=λτ h x hx =>
   ut λt ht=>h t (by rw[BB];exact dG.2 (.inl (jJ.2 ⟨x,hx,ht⟩)))
  have hwt:∀τ:St,(∀t∈looks ops σ o,lk τ.env t=lk σ.env t)->lL ops τ.env o=some true:=λτ h=>by
   rw[oC (env:=σ.env) λt ht=>h t (FB t ht),hw]
  refine⟨λx hx=>?_,λx hx=>hfw _ (K.wr x hx),?_,λL hL=>?_,λL hL=>?_,λL hL k o' hk Qr=>?_,λx hx L hL=>zdw L (K.labu x hx L hL),
   λd fD L hL=>(K.labd d (aA.may_gives fD) L hL).imp (zdw L) (hfw L),λt ht v hv L hL=>?_,λy hy _ o' ho L hL=>zdw L (.inr ⟨y,hy,o',ho,hL⟩),λy hy x l hnm hx=>.inl ?_,λy hy l hnm=>.inl (Lj λv hv L hL hLl=>hnm L hLl (zdw L (.inr ⟨y,hy,v,hv,hL⟩))),λy hy=>?_,K.wr,λτ he bT=>?_,λτ he bT hkb x=>?_⟩
  rw [X8]at hx;rcases eG.1 hx with⟨_,_,h⟩|⟨_,_,h⟩|⟨_,_,h⟩|⟨_,_,h⟩<;>rw[h]
  exact K.kl.imp_right λ⟨L,h,_⟩=>⟨L,h⟩;rw[X8];exact eG.2 (.inr (.inr (.inl ⟨L,hL,rfl⟩)));rcases K.kl with h|⟨M,h,h2⟩
  rw[h]at hL;simp at hL;rw[h]at hL;simp at hL;subst hL;exact hfw _ h2;rw [X8];refine eG.2 (.inr (.inr (.inr ⟨k,?_,rfl⟩)));rcases K.kl with h|⟨M,h,h2⟩
  rw[h]at hL;simp at hL;rw[h]at hL ⊢;simp at hL;subst hL;exact yh.2 ⟨o',hk,Qr⟩;rw [BB]at ht;rcases dG.1 ht with ht|ht
  ·obtain⟨x,hx,ht⟩:=jJ.1 ht;refine zdw L (.inl ⟨x,hx,?_⟩);cases x with|tmp s=>simp only[QB,kK]at ht;subst ht;simp only[dW,hv];exact hL|_=>simp[QB]at ht
  rw[Q8 hw t ht v hv]at hL;simp at hL;have e:x.map (dO l)=x:=Lj fun v hv L hL hLl=>hnm L hLl (zdw L (.inr ⟨y,hy,dO l v,by rw [hx,hv];rfl,by rw [Q7];exact hL⟩));rw[hx,e]
  ·rw [X8];obtain⟨L,b⟩:=y;cases b with|true=>exact .inr (eG.2 (.inl ⟨_,hy,rfl⟩))|false=>exact .inl (eG.2 (.inl ⟨_,hy,rfl⟩))
  have fP:∀y∈A.fp,lk τ.ay y.1=lk σ.ay y.1:=λy hy=>by
   rcases bT y hy with h|⟨_,_,_,_,_,h,_⟩
   exact h;rw[hW]at h;cases h
  unfold qM;rw[hd,hwt τ he];exact K.congr _ _ (aU τ he) fP;have fP:∀y∈A.fp,lk τ.ay y.1=lk σ.ay y.1:=λy hy=>by
   rcases bT y hy with h|⟨_,_,_,_,_,h,_⟩
   exact h;rw[hW]at h;cases h
  have e1:ni ops τ i o A.fp A.kl=l9 τ i o A.fp A.kl:=by unfold ni;rw[hwt τ he]
  rw[e1,X8,eG,eG,Ha ((zgV hA hs hW (aU τ he) fP).trans hW.symm) (aU τ he) fP];refine qjT Ue (qjT Ue (qjT Ue ?_));rcases K.kl with h|⟨M,h,h2⟩
  rw[h];simp[JO];rw [h];have:∀k,k∈JO τ [M]↔k∈JO σ [M]:=λk=>by rw[yh,yh];exact hkb M (by rw[h];simp) k
  constructor;rintro⟨k,h1,h2⟩;exact⟨k,(this k).1 h1,h2⟩;rintro⟨k,h1,h2⟩;exact⟨k,(this k).2 h1,h2⟩
 rename_i hd hw;subst hA;have X8:∀fp kl,ni ops σ i o fp kl=[]:=λfp kl=>by unfold ni;rw[hw]
 have BB:looks ops σ o=gdT ops o:=by unfold looks;rw[hw]
 have hwt:∀τ:St,(∀t∈looks ops σ o,lk τ.env t=lk σ.env t)->lL ops τ.env o=some false:=λτ h=>by
  rw[oC (env:=σ.env) λt ht=>h t (FB t ht),hw]
 refine⟨λx hx=>?_,λx hx=>?_,.inl rfl,λL hL=>?_,λL hL=>?_,λL hL=>?_,λx hx=>?_,λd fD L hL=>?_,λt ht v hv L hL=>?_,λy hy=>?_,λy hy=>?_,λy hy=>?_,λy hy=>?_,λx hx=>?_,λτ he bT=>?_,λτ he bT hkb x=>?_⟩;rw[X8]at hx;simp at hx;simp[aA.u]at hx;simp[aA.kl]at hL;simp[aA.kl]at hL;simp[aA.kl]at hL;simp[aA.u]at hx;simp only[aA.gives]at fD;subst fD;simp[kR,rE,lH]at hL;rw[BB]at ht;rw[Q8 hw t ht v hv]at hL;simp at hL;simp[aA.fp]at hy;simp[aA.fp]at hy;simp[aA.fp]at hy;simp[aA.fp]at hy;simp[aA.u]at hx;unfold qM;rw[hd,hwt τ he];rw [X8];have:ni ops τ i o (aA.val [] (.cl .undef) [] []).fp (aA.val [] (.cl .undef) [] []).kl=[]:=by unfold ni;rw[hwt τ he]
 rw[this];subst hA;exact hs.elim
theorem FC{lg:List (Nat×Bool)->List Nat->List (Nat×Nat×Nat)}{dst:Option Nat}{d:DV}(t:Nat):lk (nx A lg i dst σ d).env t=if dst=some t then some d else(lk σ.env t).map (fU A.kl):=zmU t
theorem yX{lg:List (Nat×Bool)->List Nat->List (Nat×Nat×Nat)}{dst:Option Nat}{d:DV}(L:Nat):lk (nx A lg i dst σ d).ay L=match lk A.u L with|some o=>some o|none=>(lk σ.ay L).map (dO A.kl):=zgT L
theorem vT{lg:List (Nat×Bool)->List Nat->List (Nat×Nat×Nat)}{dst:Option Nat}{d:DV}:(nx A lg i dst σ d).log=lg A.fp A.kl++σ.log:=by simp only[nx,St.relog,zmV]
theorem zgW(h:zW σ τ)(o:Oper):qM P Γ nt ops τ o=qM P Γ nt ops σ o:=by
 unfold qM;rw[oC (env:=σ.env) λt _=>(h.env t).symm,show dW τ.env=dW σ.env from funext λx=>ut λt _=>(h.env t).symm,show lk τ.ay=lk σ.ay from funext λt=>(h.ay t).symm]
theorem zmX(h:zW σ τ):TS τ o=TS σ o:=by
 unfold TS;rw[show dW τ.env=dW σ.env from funext λx=>ut λt _=>(h.env t).symm,show lk τ.ay=lk σ.ay from funext λt=>(h.ay t).symm]
theorem zmY(h:zW σ τ){fp:List (Nat×Bool)}{kl:List Nat}(x:Nat×Nat×Nat):x∈ni ops σ i o fp kl↔x∈ni ops τ i o fp kl:=by
 unfold ni;rw[oC (env:=σ.env) (env':=τ.env) λt _=>(h.env t).symm];split
 ·rw [eG,eG,Ha (σ:=σ) (τ:=τ) (zmX h) (fun x _=>ut fun t _=>(h.env t).symm) (fun y _=>(h.ay y.1).symm)];refine qjT Ue (qjT Ue (qjT Ue ?_));cases kl with
  | nil=>simp[JO]
  | cons L r =>
   have:∀k,k∈JO σ (L::r)↔k∈JO τ (L::r):=λk=>by rw[yh,yh,h.ay k]
   constructor;rintro⟨k,h1,h2⟩;exact⟨k,(this k).1 h1,h2⟩;rintro⟨k,h1,h2⟩;exact⟨k,(this k).2 h1,h2⟩
 exact Ue
theorem Jf{K:St→Prop}(hK:∀σ τ,zW σ τ→K σ→K τ):∀(l:List Nat)(σ τ:St),zW σ τ→xu P Γ nt ops l K σ→xu P Γ nt ops l K τ
  | [],σ,τ,h,hv=>hK σ τ h hv
  | i::r,σ,τ,h,hv=>by
    simp only[xu]at hv ⊢;split at hv;exact Jf hK r σ τ h hv;rename_i o ho;rw[lK]at hv ⊢;rw[zgW h];refine⟨hv.1,λd hd=>Jf hK r _ _ ⟨λt=>?_,λL=>?_,λx=>?_⟩ (hv.2 d hd)⟩;rw[FC,FC,h.env];rw[yX,yX,h.ay];rw [vT,vT,dG,dG,h.log x];exact qjT (zmY h x) Ue
theorem zX{K K':St->Prop}{l l':List Nat}{i:Nat}(hK:∀σ,xu P Γ nt ops l K σ->xu P Γ nt ops l' K' σ)(hv:xu P Γ nt ops (i::l) K σ):xu P Γ nt ops (i::l') K' σ:=by
 simp only[xu]at hv ⊢;split at hv;exact hK _ hv;rw [lK]at hv ⊢;exact⟨hv.1,λd hd=>hK _ (hv.2 d hd)⟩
theorem Q9{K:St→Prop}{R:List (Nat×Nat×Nat)→Prop}(hR:∀l m,(∀x∈l,x∈m)→R m→R l)(hK:∀σ,K σ→R σ.log):∀(l:List Nat)(σ:St),xu P Γ nt ops l K σ→R σ.log
  | [],σ,hv=>hK σ hv
  | i::r,σ,hv=>by
    simp only[xu]at hv;split at hv;exact Q9 hR hK r σ hv;rw [lK]at hv;obtain⟨d,hd⟩:=aA.may_of_safe hv.1;refine hR _ _ (λx hx=>?_) (Q9 hR hK r _ (hv.2 d hd));rw[vT];exact dG.2 (.inr hx)
def CU(log:List (Nat×Nat×Nat))(i j:Nat):Prop:=∀L k m,(i,L,k)∈log->(j,L,m)∈log->Yl k m=false
theorem zgX{a b:Oper}(h:JP ops a b=false):(∀t∈qE ops b,a.dst≠some t)/\(∀t∈qE ops a,b.dst≠some t)/\∀t,a.dst=some t->b.dst≠some t:=by
 simp only[JP,jqW]at h;obtain⟨⟨h1,h2⟩,h3⟩:=h;refine⟨λt ht e=>?_,λt ht e=>?_,λt e e'=>?_⟩;rw [e]at h1;simp only [meets]at h1;have:(qE ops b).contains t=true:=by simpa using ht
 rw[this]at h1;cases h1;rw [e]at h2;simp only [meets]at h2;have:(qE ops a).contains t=true:=by simpa using ht
 rw[this]at h2;cases h2;rw [e,e']at h3;simp only [zay]at h3;rw[show Nat.beq t t=true from by simp]at h3;cases h3
theorem zgY{K:St→Prop}{i j:Nat}{oi oj:Oper}{r:List Nat}(hi:ops[i]? = some oi)(hj:ops[j]? = some oj)(hT:JP ops oi oj=false)
    (hE:∀τ τ',zW τ τ'->xu P Γ nt ops r K τ->xu P Γ nt ops r K τ') (hN:∀τ,xu P Γ nt ops r K τ->CU τ.log i j)
    (h:xu P Γ nt ops (i::j::r) K σ):xu P Γ nt ops (j::i::r) K σ:=by
  obtain⟨cT1,cT2,cT3⟩:=zgX hT;simp only[xu,hi,hj]at h ⊢;rw[lK]at h;obtain⟨hsA,hA⟩:=h;generalize hAe:qM P Γ nt ops σ oi=A at hsA hA;have LA:=Vg (i:=i) hAe hsA
  -- the second operation behind the first: az before it
  have key:∀d,A.may d->∃B,qM P Γ nt ops (nx A (ni ops σ i oi) i oi.dst σ d) oj=B/\B.safe /\
      (∀e,B.may e->xu P Γ nt ops r K (nx B (ni ops (nx A (ni ops σ i oi) i oi.dst σ d) j oj) j oj.dst (nx A (ni ops σ i oi) i oi.dst σ d) e)) /\
      CU (ni ops (nx A (ni ops σ i oi) i oi.dst σ d) j oj B.fp B.kl++(ni ops σ i oi A.fp A.kl)) i j:=by
    intro d hd;have h2:=hA d hd;rw[lK]at h2;obtain⟨hsB,hB⟩:=h2;refine⟨_,rfl,hsB,hB,?_⟩;obtain⟨e,he⟩:=aA.may_of_safe hsB;have:=hN _ (hB e he);rw[vT,vT]at this;intro L k m hk hm;refine this L k m ?_ ?_;rcases dG.1 hk with h|h
    exact dG.2 (.inl h);exact dG.2 (.inr (dG.2 (.inl h)));rcases dG.1 hm with h|h
    exact dG.2 (.inl h);exact dG.2 (.inr (dG.2 (.inl h)))
  have main:∀d,A.may d->∀B,qM P Γ nt ops (nx A (ni ops σ i oi) i oi.dst σ d) oj=B->B.safe ->
      (∀e,B.may e->xu P Γ nt ops r K (nx B (ni ops (nx A (ni ops σ i oi) i oi.dst σ d) j oj) j oj.dst (nx A (ni ops σ i oi) i oi.dst σ d) e)) ->
      CU (ni ops (nx A (ni ops σ i oi) i oi.dst σ d) j oj B.fp B.kl++(ni ops σ i oi A.fp A.kl)) i j ->
      qM P Γ nt ops σ oj=B/\∀e,B.may e->qM P Γ nt ops (nx B (ni ops σ j oj) j oj.dst σ e) oi=A /\
        xu P Γ nt ops r K (nx A (ni ops (nx B (ni ops σ j oj) j oj.dst σ e) i oi) i oi.dst (nx B (ni ops σ j oj) j oj.dst σ e) d):=by
    intro d hd B hBe hsB hB vF;generalize hσ1:nx A (ni ops σ i oi) i oi.dst σ d=σ1 at hBe hB vF;have LB:=Vg (i:=j) hBe hsB;have no:∀L k m,(i,L,k)∈ni ops σ i oi A.fp A.kl->(j,L,m)∈ni ops σ1 j oj B.fp B.kl->Yl k m=true->False:=λL k m h1 h2 hc=>by
      have:=vF L k m (dG.2 (.inr h1)) (dG.2 (.inl h2));rw[this]at hc;cases hc
    have zCM:∀t,lk σ1.env t=if oi.dst=some t then some d else(lk σ.env t).map (fU A.kl):=λt=>by rw[<- hσ1,FC]
    have zgZ:∀L,lk σ1.ay L=match lk A.u L with|some o=>some o|none=>(lk σ.ay L).map (dO A.kl):=λL=>by rw[<- hσ1,yX]
    -- zAo the second looks at, the first has not changed
    have zCN:∀t∈looks ops σ1 oj,lk σ.env t=lk σ1.env t:=by
      intro t ht;have e:=zCM t;rw[dM (cT1 t (PO t ht))]at e;rw[e];refine(Lh λv hv L hL hk=>?_).symm;rw[hv,OL]at e;exact no L 3 2 (LA.kl3 L hk) (LB.see t ht _ e L (by rw[zmT];exact hL)) rfl
    have fpB:∀y∈B.fp,Le σ1 oj y.1 (lk σ.ay y.1):=by
      intro y hy;have e:=zgZ y.1;have hn:lk A.u y.1=none:=by
        cases hu:lk A.u y.1 with
        | none=>rfl
        | some o' =>
          have h1:=LA.wr _ (eU hu);rcases LB.fpt y hy with h2|h2
          exact(no _ _ _ h1 h2 rfl).elim;exact(no _ _ _ h1 h2 rfl).elim
      rw[hn]at e;simp only at e;exact LB.fpk y hy _ A.kl (λL hk h2=>no L 3 2 (LA.kl3 L hk) h2 rfl) e
    have hBσ:=LB.congr σ zCN fpB;refine⟨hBσ,λe he=>?_⟩;generalize hσ1':nx B (ni ops σ j oj) j oj.dst σ e=σ1';have zso:∀t,lk σ1'.env t=if oj.dst=some t then some e else(lk σ.env t).map (fU B.kl):=λt=>by rw[<- hσ1',FC]
    have YX:∀L,lk σ1'.ay L=match lk B.u L with|some o=>some o|none=>(lk σ.ay L).map (dO B.kl):=λL=>by rw[<- hσ1',yX]
    have zCO:∀t∈looks ops σ oi,lk σ1'.env t=lk σ.env t:=by
      intro t ht;rw[zso,dM (cT2 t (PO t ht))];exact Lh λv hv L hL hk=>no L 2 3 (LA.see t ht v hv L hL) (LB.kl3 L hk) rfl
    have uB:∀y∈A.fp,lk B.u y.1=none:=by
      intro y hy;cases hu:lk B.u y.1 with
      | none=>rfl
      | some o' =>
        have h1:=LB.wr _ (eU hu);rcases LA.fpt y hy with h2|h2
        exact(no _ _ _ h2 h1 rfl).elim;exact(no _ _ _ h2 h1 rfl).elim
    have fpA:∀y∈A.fp,Le σ oi y.1 (lk σ1'.ay y.1):=by
      intro y hy;rw[YX,uB y hy];exact LA.fpj y hy B.kl λL hk h2=>no L 2 3 h2 (LB.kl3 L hk) rfl
    have hAσ:=LA.congr σ1' zCO fpA;refine⟨hAσ,hE _ _ ⟨λt=>?_,λL=>?_,λx=>?_⟩ (hB e he)⟩
    · -- the temporaries
      rw[FC,FC,zCM,zso];by_cases h1:oj.dst=some t;rw [dH h1,dH h1,dM fun h2=>cT3 t h2 h1,OL,Lc fun L hL hk => ?_];rcases LB.labd e he L hL with h3|h3
      exact no L 3 2 (LA.kl3 L hk) h3 rfl;exact no L 1 1 (LA.kl1 L hk) h3 rfl;rw [dM h1,dM h1];by_cases h2:oi.dst=some t;rw [dH h2,dH h2,OL,Lc fun L hL hk => ?_];rcases LA.labd d hd L hL with h3|h3
      exact no L 2 3 h3 (LB.kl3 L hk) rfl;exact no L 1 1 h3 (LB.kl1 L hk) rfl
      · rw [dM h2,dM h2];cases lk σ.env t with|none=>rfl|some v=>simp only[OL];rw[YV]
    · -- the objects
      rw[yX,yX,zgZ,YX];cases hb:lk B.u L with
      | some ob =>
        cases ha:lk A.u L with
        | some oa=>exact(no L 1 1 (LA.wr _ (eU ha)) (LB.wr _ (eU hb)) rfl).elim
        | none =>
          simp only[OL];rw[Ld λM hM hk=>no M 3 2 (LA.kl3 M hk) (LB.labu _ (eU hb) M hM) rfl]
      | none =>
        cases ha:lk A.u L with
        | some oa =>
          simp only[OL];rw[Ld λM hM hk=>no M 2 3 (LA.labu _ (eU ha) M hM) (LB.kl3 M hk) rfl]
        | none =>
          simp only;cases lk σ.ay L with|none=>rfl|some v=>simp only[OL];rw[YW]
    · -- the log
      rw[vT,vT];have l1:σ1.log=ni ops σ i oi A.fp A.kl++σ.log:=by rw[<- hσ1,vT]
      have l2:σ1'.log=ni ops σ j oj B.fp B.kl++σ.log:=by rw[<- hσ1',vT]
      rw[l1,l2];have e1:x∈ni ops σ j oj B.fp B.kl↔x∈ni ops σ1 j oj B.fp B.kl:=by
        refine LB.logc σ zCN fpB (λL hL k=>?_) x;rw[zgZ];cases ha:lk A.u k with
        | some oa =>
          simp only[bG];constructor;rintro⟨o',ho,Qr⟩;exact(no L 2 3 (LA.fpm _ (LA.wfp _ (eU ha)) rfl o' ho L Qr) (LB.kl3 L hL) rfl).elim;rintro⟨o',rfl,Qr⟩;exact(no L 2 3 (LA.labu _ (eU ha) L Qr) (LB.kl3 L hL) rfl).elim
        | none =>
          simp only;cases lk σ.ay k with|none=>simp|some v=>simp[Q7]
      have e2:x∈ni ops σ1' i oi A.fp A.kl↔x∈ni ops σ i oi A.fp A.kl:=by
        refine LA.logc σ1' zCO fpA (λL hL k=>?_) x;rw[YX];cases hb:lk B.u k with
        | some ob =>
          simp only[bG];constructor;rintro⟨o',rfl,Qr⟩;exact(no L 3 2 (LA.kl3 L hL) (LB.labu _ (eU hb) L Qr) rfl).elim;rintro⟨o',ho,Qr⟩;exact(no k 5 1 (LA.kb L hL k o' ho Qr) (LB.wr _ (eU hb)) rfl).elim
        | none =>
          simp only;cases lk σ.ay k with|none=>simp|some v=>simp[Q7]
      simp only[dG];rw[e1,e2,<- or_assoc,<- or_assoc];exact qjT (or_comm) Ue
  rw[lK];obtain⟨d0,hd0⟩:=aA.may_of_safe hsA;obtain⟨B,hBe,hsB,hB,vF⟩:=key d0 hd0;obtain⟨hBσ,zIg⟩:=main d0 hd0 B hBe hsB hB vF;rw[hBσ];refine⟨hsB,λe he=>?_⟩;rw[lK];rw[(zIg e he).1];refine⟨hsA,λd hd=>?_⟩;obtain⟨B',zK6,zRW,hB',zRV⟩:=key d hd;obtain⟨zK7,zAf⟩:=main d hd B' zK6 zRW hB' zRV;have hBB:B'=B:=zK7.symm.trans hBσ;subst hBB;exact(zAf e he).2
end
end Go.Pm
namespace Go.Pm
variable [aG]
open Go.RowKit (Below)
section
variable{P:Program}{Γ:bM}{nt B:Nat}{w0:World}{h0:Fz}{g:Gh}{σ:St}{a:Act}{w:World}{r:Option Nat}{n i:Nat}{Q:Exit->Act->World->Prop}{ops:Array Oper}
theorem YY{K:St->Prop}(hK:∀σ τ,zW σ τ->K σ->K τ):∀(l:List Oper)(i:Nat)(σ:St),(∀j,l[j]? = ops[i+j]?)->jQ P Γ nt ops i l K σ->xu P Γ nt ops (List.range' i l.length) K σ:=by
 intro l
 induction l with
 | nil=>intro i σ _ h;exact h
 | cons o l ih =>
  intro i σ hl h;have ho:ops[i]? = some o:=by have:=hl 0;simpa using this.symm
  have vk:∀j,l[j]? = ops[i+1+j]?:=λj=>by have:=hl (j+1);rw[Yg]at this;rw[this];congr 1;omega
  rw[xm,Yj];simp only[jQ]at h;split at h;exact h.elim;rename_i hd;have one:∀τ:St,lL ops τ.env o=some true->nC (act P Γ o (dW τ.env) (lk τ.ay)) (l9 τ i o) i o.dst (jQ P Γ nt ops (i+1) l K) τ->xu P Γ nt ops (i::List.range' (i+1) l.length) K τ:=by
   intro τ hw hv;simp only[xu,ho];have e1:qM P Γ nt ops τ o=act P Γ o (dW τ.env) (lk τ.ay):=by unfold qM;rw[hd,hw]
   have e2:ni ops τ i o=l9 τ i o:=by funext fp kl;unfold ni;rw[hw]
   rw[e1,e2];rw[lK]at hv ⊢;exact⟨hv.1,λd hd=>ih (i+1) _ vk (hv.2 d hd)⟩
  have two:∀τ:St,lL ops τ.env o=some false->jQ P Γ nt ops (i+1) l K (τ.skip o.dst)->xu P Γ nt ops (i::List.range' (i+1) l.length) K τ:=by
   intro τ hw hv;simp only[xu,ho];have e1:qM P Γ nt ops τ o=.val [] (.cl .undef) [] []:=by unfold qM;rw[hd,hw]
   have e2:ni ops τ i o=λ_ _=>[]:=by funext fp kl;unfold ni;rw[hw]
   rw[e1,e2];change xu P Γ nt ops (List.range' (i+1) l.length) K ((τ.upd i o.dst [] (.cl .undef) [] []).relog []);have e3:(τ.upd i o.dst [] (.cl .undef) [] []).relog []=τ.skip o.dst:=by cases o.dst<;>rfl
   rw[e3];exact ih (i+1) _ vk hv
  split at h;rename_i hg;exact one σ (by unfold lL;rw[hg]) h;rename_i j want hg;split at h;exact h.elim;rename_i gt TN;have wt:∀b,lL ops (σ.setT gt (.bool b)).env o=some (b==want):=λb=>by
   unfold lL;rw[hg];simp only[TN];rw[show lk (σ.setT gt (.bool b)).env gt=some (.bool b)by simp[St.setT,aS]]
  split at h
  ·rename_i b hb;have eq:∀c,b=c->zW (σ.setT gt (.bool c)) σ:=λc hc=>⟨λt=>by
    simp only[St.setT,aS];split;rename_i e;subst e;rw[hb,hc];rfl,λ_=>rfl,λ_=>Ue⟩
   have h2:=qp.1 h;refine Jf hK _ _ _ (eq b rfl) ?_;cases b with
   | true =>
    have h3:=h2.1 rfl;cases want with|true=>exact one _ (wt true) h3|false=>exact two _ (wt true) h3
   | false =>
    have h3:=h2.2 rfl;cases want with|true=>exact two _ (wt false) h3|false=>exact one _ (wt false) h3
  rename_i hb;refine two σ ?_ h;unfold lL;rw[hg];simp only[TN];rw[hb];exact h.elim
theorem zvp(fK:jk P Γ){K:St→Prop}{l:List Nat}{R:Act→World→Prop}{D:List Nat}{a0:Act}{ad:List Deferred}(hD:∀(j:Nat)(o:Oper),ops[j]? = some o→∀t,o.dst=some t→t∈D)
    (hv:xu P Γ nt ops (i::l) K σ) (S:bK P nt B w0 h0 g σ a w) (kQ:Kp D a0 a) (had:a.defers=ad)
    (hR:∀σ' g' a' w',xu P Γ nt ops l K σ'->bK P nt B w0 h0 g' σ' a' w'->Kp D a0 a'->a'.defers=ad->R a' w'):wpOpIn (FR r) n P ops Q i R a w:=by
  simp only[xu]at hv;unfold wpOpIn;split at hv;rename_i ho;rw[ho];exact hR σ g a w hv S kQ had;rename_i o ho;rw[ho];simp only;obtain⟨hs,hk⟩:=Fa.1 hv;have wnt:∀b,lL ops σ.env o=some b->Region.wanted o (yielded ops a.tmps)=b:=by
    intro b hw;unfold lL at hw;split at hw;rename_i hg;simp only[bG]at hw;subst hw;simp[Region.wanted,hg];rename_i j want hg;split at hw;cases hw;rename_i gt TN;split at hw;rename_i c hb;simp only[bG]at hw;subst hw;have hvv:a.tmps.getD gt undef=.bool c:=by
      have:=S.env gt _ hb;generalize a.tmps.getD gt undef=v at this;cases this;rfl
    simp[Region.wanted,hg,vP TN hvv];rename_i hb;simp only[bG]at hw;subst hw;have hvv:a.tmps.getD gt undef=undef:=S.env gt _ hb;simp[Region.wanted,hg,sQ TN hvv];cases hw
  generalize hA:qM P Γ nt ops σ o=A at hs hk;have qY:=hA;unfold qM at hA;split at hA;rename_i hd hw;rw[dH (wnt true hw)];refine Jc (YN (Fp (i:=i) (Q:=Q) (r:=r) (n:=n) fK S hd hA hs)) ?_;rintro a' w' ⟨⟨EJ,g',σ',IQ,S'⟩,v,ds,rfl⟩;exact hR _ g' _ w' (hk σ' IQ) (S'.log _) (kQ.put (hD i o ho) v ds ((put_defers _ _ _).symm.trans EJ)) (EJ.trans had);rename_i hd hw;rw[dM (by rw[wnt false hw];simp)];refine⟨λ_ _=>trivial,?_⟩;subst hA;refine hR _ g _ w (hk _ rfl) ?_ (kQ.put (hD i o ho) undef a.defers rfl) ((put_defers _ _ _).trans had);have:=S.skip hd;have e:(σ.upd i o.dst [] (.cl .undef) [] [])=σ.skip o.dst:=by cases o.dst<;>rfl
  rw[e];exact this.log _;subst hA;exact hs.elim
theorem PP{K:St→Prop}{i:Nat}{oi:Oper}{l2:List Nat}(hi:ops[i]? = some oi)(hE:∀σ τ,zW σ τ→K σ→K τ){R:List (Nat×Nat×Nat)→Prop}(hR:∀l m,(∀x∈l,x∈m)→R m→R l)(hK:∀σ,K σ→R σ.log) :
  ∀(l1:List Nat)(σ:St),(∀p∈l1,(∀log,R log->CU log p i)/\∀op,ops[p]? = some op->JP ops op oi=false) ->
   xu P Γ nt ops (l1++i::l2) K σ->xu P Γ nt ops (i::(l1++l2)) K σ
 | [],σ,_,h=>h
 | p::l1,σ,hp,h=>by
  have h1:xu P Γ nt ops (p::i::(l1++l2)) K σ:=zX (λσ h=>PP hi hE hR hK l1 σ (λq hq=>hp q (jB _ hq)) h) h;obtain⟨hN,hT⟩:=hp p jM;cases aU:ops[p]? with
  | none =>
   have e:∀l σ,xu P Γ nt ops (p::l) K σ↔xu P Γ nt ops l K σ:=λl σ=>by simp only[xu,aU]
   have h2:=(e _ _).1 h1;exact zX (λτ h=>(e _ _).2 h) h2
  | some op =>
   exact zgY aU hi (hT op aU) (λτ τ' he hv=>Jf hE _ _ _ he hv) (λτ hv=>hN _ (Q9 hR hK _ _ hv)) h1
theorem He{ms:List Nat}{S:Nat->Prop}{p:Nat}:∀(es:List Edge),(∀e∈es,Region.binds .any e=true->S e.on) ->
  (∀k m,ms[k]? = some m->S k->m.testBit p=true->S p)->(Ap ms es).testBit p=true->S p
 | [],_,_,h=>by simp[Ap]at h
 | e::r,he,hm,h=>by
  have ih:=He (ms:=ms) (p:=p) r (λe' h'=>he e' (jB _ h')) hm;simp only[Ap]at h;split at h;rename_i m hb hms;have hS:=he e jM hb;rw[jqv,jqv,qdj,qdj]at h;rcases h with(h|h)|h
  rw [Nat.testBit_two_pow]at h;have:e.on=p:=qde h;rw[<- this];exact hS;exact hm _ _ hms hS h;exact ih h;exact ih h
theorem Ll{S:Nat->Prop}{p:Nat}(zN:∀(k:Nat)(o:Oper),ops[k]? = some o->S k->∀e∈o.after,Region.binds .any e=true->S e.on):∀(l:List Oper)(ms:List Nat),(∀j,l[j]? = ops[ms.length+j]?) ->
  (∀(k:Nat)(o:Oper)(m:Nat),ops[k]? = some o->ms[k]? = some m->(∀e∈o.after,Region.binds .any e=true->S e.on)->m.testBit p=true->S p) ->
  ∀(k:Nat)(o:Oper)(m:Nat),ops[k]? = some o->(masks l ms)[k]? = some m->(∀e∈o.after,Region.binds .any e=true->S e.on)->m.testBit p=true->S p
 | [],ms,_,h=>h
 | o::r,ms,hl,h=>by
  have ho:ops[ms.length]? = some o:=by have:=hl 0;simpa using this.symm
  simp only[masks];refine Ll zN r (ms++[Ap ms o.after.toList]) (λj=>by have:=hl (j+1);rw[Yg]at this;rw[this,BG];congr 1;simp;omega) ?_;intro k ok m hk hm he hb;rw[List.getElem?_append]at hm;split at hm;exact h k ok m hk hm he hb
  ·rename_i jv;have je:k=ms.length:=by
    rcases qd7 k (ms.length+1)with h1|h1
    omega;rw[dq7 (by simp;omega)]at hm;cases hm
   subst je;rw[ho]at hk;simp only[bG]at hk;subst hk;simp only[Nat.sub_self,qdp,bG]at hm;subst hm;refine He _ (λe h'=>he e (by simpa using h')) (λk' m' Ju hS lS=>?_) hb;have zr0:k'<ms.length:=by
    rcases qd7 k' ms.length with h1|h1
    exact h1;rw[dq7 h1]at Ju;cases Ju
   cases fK:ops[k']? with
   | some ok'=>exact h k' ok' m' fK Ju (zN k' ok' fK hS) lS
   | none =>
    have hlen:ms.length<ops.size:=by
     rcases qd7 ms.length ops.size with h1|h1
     exact h1;rw[qjc h1]at ho;cases ho
    rw[jqn]at fK;omega
def wW(ms:List Nat)(log:List (Nat×Nat×Nat)):Prop:=tZ ms log=true
theorem wW.sub{ms:List Nat}(l m:List (Nat×Nat×Nat))(h:∀x∈l,x∈m)(hm:wW ms m):wW ms l:=by
 simp only[wW,tZ,Aj]at hm ⊢;exact λx hx y hy=>hm x (h x hx) y (h y hy)
theorem wW.no{ms:List Nat}{log:List (Nat×Nat×Nat)}(h:wW ms log){p i:Nat}(hpi:p<i)(hb:∀m,ms[i]? = some m->m.testBit p=false):CU log p i:=by
 intro L k m h1 h2;simp only[wW,tZ,Aj]at h;have:=h _ h1 _ h2;simp only[qdj,NQ]at this;rcases this with((h3|h3)|h3)|h3
 rw[show Nat.blt p i=true from by simpa [qd6]using hpi]at h3;cases h3;rw[show Nat.beq L L=true from by simp]at h3;cases h3;exact h3;split at h3;rename_i m' Ju;rw[hb m' Ju]at h3;cases h3;cases h3
def TT(ops:Array Oper)(listed:Array Bool):List Nat:=(List.range ops.size).filter λk=>!listed.getD k true
theorem FD{listed:Array Bool}:i∈Region.ready .any ops listed↔i∈TT ops listed/\∃o,ops[i]? = some o/\∀e∈o.after,Region.binds .any e=true->listed.getD e.on false=true:=by
 simp only[Region.ready,TT,Qu,fH];constructor
 ·rintro⟨h1,h2,h3⟩;refine⟨⟨h1,h2⟩,?_⟩;cases ho:ops[i]? with
  | none=>rw[ho]at h3;simp at h3
  | some o =>
   rw[ho]at h3;simp only[OL,qdI,qj5,qdj,NQ]at h3;refine⟨o,rfl,λe he hb=>?_⟩;rcases h3 e he with h|h
   rw[hb]at h;cases h;exact h
 ·rintro⟨⟨h1,h2⟩,o,ho,h3⟩;refine⟨h1,h2,?_⟩;rw[ho];simp only[OL,qdI,qj5,qdj,NQ];intro e he;cases hb:Region.binds .any e with|false=>exact .inl rfl|true=>exact .inr (h3 e he hb)
theorem Vh{listed:Array Bool}{i k:Nat}{b:Bool}:(listed.setIfInBounds i true).getD k b=if k=i/\k<listed.size then true else listed.getD k b:=by
 rw[yP,yP,qdZ];by_cases h:i=k;subst h;by_cases hs:i<listed.size;simp[hs];simp[hs];rw[dM h,dM omY]
theorem zmZ{listed:Array Bool}(jw:listed.size=ops.size):TT ops (listed.setIfInBounds i true)=(TT ops listed).filter λk=>!(k==i):=by
 unfold TT;rw[List.filter_filter];refine List.filter_congr λk hk=>?_;have hk:=Ak.1 hk;rw[Vh];by_cases h:k=i;subst h;rw[dH ⟨rfl,omY⟩];simp;rw[dM (λh'=>h h'.1)];simp[h]
theorem zm0(fK:jk P Γ){K:St→Prop}{D:List Nat}{a0:Act}{ad:List Deferred}(hD:∀(j:Nat)(o:Oper),ops[j]? = some o→∀t,o.dst=some t→t∈D)(hE:∀σ τ,zW σ τ→K σ→K τ)(zai:JR ops=true)(hT:Aq ops (masks ops.toList [])=true)
    (hL:∀σ,K σ->wW (masks ops.toList []) σ.log) (hQ:∀σ',K σ'->∀g' a' w',bK P nt B w0 h0 g' σ' a' w'->Kp D a0 a'->a'.defers=ad->Q .normal a' w') :
    ∀(fuel:Nat)(listed:Array Bool)(σ:St)(g:Gh)(a:Act)(w:World),listed.size=ops.size->(TT ops listed).length<=fuel ->
      (∀k o,ops[k]? = some o->listed.getD k false=true->∀e∈o.after,Region.binds .any e=true->listed.getD e.on false=true) ->
      xu P Γ nt ops (TT ops listed) K σ->bK P nt B w0 h0 g σ a w->Kp D a0 a->a.defers=ad->wpAnyIn (FR r) n P .any ops Q fuel listed a w:=by
  -- if nothing is ready, nothing is left
  have stuck:∀listed:Array Bool,Region.ready .any ops listed=[]->TT ops listed=[]:=by
    intro listed hr;cases hu:TT ops listed with
    | nil=>rfl
    | cons i rest =>
      exfalso;have hi:i∈TT ops listed:=by rw[hu];exact jM
      have jw:i<ops.size:=Ak.1 (Qu.1 hi).1;have Ih:(TT ops listed).Pairwise (· < ·):=jqX _ jqG;have:i∈Region.ready .any ops listed:=by
        refine FD.2 ⟨hi,ops[i],qdM jw,λe he hb=>?_⟩;simp only[JR,Aj]at zai;have h1:=zai i (Ak.2 jw);rw[qdM jw]at h1;simp only[Aj,qdj,NQ]at h1;have h2:e.on<i:=by
          rcases h1 e (by simpa using he)with h|h
          rw[hb]at h;cases h;simpa [qd6]using h
        cases hl:listed.getD e.on false with
        | true=>rfl
        | false =>
          exfalso;have qX:e.on∈TT ops listed\/listed.getD e.on true=true:=by
            cases hl2:listed.getD e.on true with|true=>exact .inr rfl|false=>exact .inl (Qu.2 ⟨Ak.2 omY,by rw[hl2];rfl⟩)
          rw[hu]at qX Ih;rcases qX with qX|qX
          rcases jW.1 qX with h|h
          omega;have:=(qdr.1 Ih).1 _ h;omega
          · -- then it lies outside
            rw[yP]at hl qX;have EI:listed[e.on]? = none:=by
              cases hx:listed[e.on]? with|none=>rfl|some b=>rw[hx]at hl qX;simp at hl qX;rw[hl]at qX;cases qX
            have hi2:listed.getD i true=true:=by
              rw[jqn]at EI;rw[yP,qjc omY];rfl
            have:=(Qu.1 hi).2;rw[hi2]at this;cases this
      rw[hr]at this;simp at this
  intro fuel
  induction fuel with
  | zero =>
    intro listed σ g a w jw hf zN hv S kQ had;have zac:TT ops listed=[]:=qdn omY;refine⟨?_,?_⟩
    · cases hr:Region.ready .any ops listed with
      | nil=>rfl
      | cons i l =>
        have:=(FD (i:=i) (ops:=ops) (listed:=listed)).1 (by rw[hr];exact jM);rw[zac]at this;simp at this
    rw [zac]at hv;exact hQ σ hv g a w S kQ had
  | succ fuel ih =>
    intro listed σ g a w jw hf zN hv S kQ had;refine⟨λhr=>?_,λi hi=>?_⟩;have zac:=stuck listed hr;rw[zac]at hv;exact hQ σ hv g a w S kQ had;obtain⟨hu,oi,hoi,hed⟩:=FD.1 hi;have hil:i<ops.size:=Ak.1 (Qu.1 hu).1;have Ih:(TT ops listed).Pairwise (· < ·):=jqX _ jqG;obtain⟨l1,l2,hl⟩:=List.append_of_mem hu;rw[hl]at Ih hv;have jv:∀p∈l1,p<i:=λp hp=>(qdE.1 Ih).2.2 p hp i jM;have TN:∀p∈l2,i<p:=λp hp=>(qdr.1 (qdE.1 Ih).2.1).1 p hp;have zHR:TT ops (listed.setIfInBounds i true)=l1++l2:=by
      rw[zmZ jw,hl,List.filter_append,qdo];rw[dM (by simp),qjX.2 λp hp=>by have:=jv p hp;simp;omega,qjX.2 λp hp=>by have:=TN p hp;simp;omega]
    have bits:∀p∈l1,∀m,(masks ops.toList [])[i]? = some m->m.testBit p=false:=by
      intro p hp m hm;cases hb:m.testBit p with
      | false=>rfl
      | true =>
        exfalso;have:=Ll (S:=λk=>listed.getD k false=true) (p:=p) (ops:=ops) (λk o ho hS=>zN k o ho hS) ops.toList [] (λj=>by simp) (λk o m _ hm=>by simp at hm) i oi m hoi hm hed hb;have hpu:p∈TT ops listed:=by rw[hl];exact dG.2 (.inl hp)
        have h2:=(Qu.1 hpu).2;rw[yP]at this h2;cases hx:listed[p]? with|none=>rw[hx]at this;simp at this|some b=>rw[hx]at this h2;simp at this h2;rw[this]at h2;cases h2
    have zvq:=PP hoi hE (R:=wW (masks ops.toList [])) wW.sub hL l1 σ (λp hp=>⟨λlog zK8=>zK8.no (jv p hp) (bits p hp),λop aU=>?_⟩) hv;refine zvp fK hD zvq S kQ had fun σ' g' a' w' Ah S' zdx zK9 => ?_;refine ih (listed.setIfInBounds i true) σ' g' a' w' (by simpa using jw) ?_ ?_ ?_ S' zdx zK9;rw [zHR];rw[hl]at hf;simp only[BG,xm]at hf ⊢;omega;intro k o hk jU e he hb;rw[Vh]at jU ⊢;split at jU;rename_i hki;rw[hki.1,hoi]at hk;simp only[bG]at hk;subst hk;have:=hed e he hb;split;rfl;exact this;have:=zN k o hk jU e he hb;split;rfl;exact this;rw[zHR];exact Ah
    · simp only [Aq,Aj]at hT;have h1:=hT i (Ak.2 hil) p (Ak.2 (jv p hp));rw[aU,hoi]at h1;cases hm:(masks ops.toList [])[i]? with
      | none=>rw[hm]at h1;simp at h1
      | some m =>
        rw[hm]at h1;simp only[qdj,NQ]at h1;rcases h1 with h|h
        exact h;rw[bits p hp m hm]at h;cases h
theorem bK.drew(S:bK P nt B w0 h0 g σ a w):bK P nt B w0 h0 g σ a {w with drawn:=w.drawn+1}:=by
 refine {S with obj:=λL o h=>?_,below:=?_,hw:=S.hw,bs:=S.bs};have:=S.obj L o h;cases o<;>exact this;exact S.below.drew
theorem YZ(fK:jk P Γ){K:St→Prop}{D:List Nat}{a0:Act}(hD:∀(j:Nat)(o:Oper),ops[j]? = some o→∀t,o.dst=some t→t∈D)(kQ:Kp D a0 a)(hm:P.follows .mixedOrders=true)(zai:JR ops=true)(hT:Aq ops (masks ops.toList [])=true)(hE:∀σ τ,zW σ τ→K σ→K τ)
    (h:jQ P Γ nt ops 0 ops.toList (λσ'=>match tZ (masks ops.toList []) σ'.log with|true=>K σ'|false=>False) σ) (S:bK P nt B w0 h0 g σ a w)
    (hQ:∀σ',K σ'->∀g' a' w',bK P nt B w0 h0 g' σ' a' w'->Kp D a0 a'->a'.defers=a.defers->Q .normal a' w') {id:Nat}:(Code.region id ops true).wpIn (FR r) n P Q a w:=by
  refine wpIn_region_any hm ?_;have hE':∀σ τ:St,zW σ τ->(match tZ (masks ops.toList []) σ.log with|true=>K σ|false=>False)->(match tZ (masks ops.toList []) τ.log with|true=>K τ|false=>False):=by
    intro σ τ he hσ;split at hσ;rename_i hl;have:wW (masks ops.toList []) τ.log:=wW.sub _ _ (λx hx=>(he.log x).2 hx) hl;rw[show tZ (masks ops.toList []) τ.log=true from this];exact hE σ τ he hσ;exact hσ.elim
  have Ii:TT ops (Array.replicate ops.size false)=List.range ops.size:=by
    unfold TT;refine qjX.2 λk hk=>?_;have:=Ak.1 hk;simp[yP,this]
  refine zm0 fK hD (K:=λσ'=>match tZ (masks ops.toList []) σ'.log with|true=>K σ'|false=>False) hE' zai hT (λσ hσ=>?_) (λσ' hσ=>?_) ops.size _ σ g a _ (by simp) ?_ ?_ ?_ S.drew kQ rfl;split at hσ
  assumption
  exact hσ.elim;split at hσ;exact hQ σ' hσ;exact hσ.elim;rw[Ii];simp;intro k o _ hk;rw[yP]at hk;by_cases hks:k<ops.size;simp[hks]at hk;rw[qjc (by simp;omega)]at hk;simp at hk;rw [Ii];have:=YY hE' ops.toList 0 σ (λj=>by simp) h;rw[dqV];simpa using this
end
end Go.Pm
