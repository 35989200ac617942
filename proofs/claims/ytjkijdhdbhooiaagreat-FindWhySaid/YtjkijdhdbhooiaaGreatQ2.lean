/- Part 2: framework, functions, plain laws. -/
import Derived.Test.YtjkijdhdbhooiaaGreatQ1
import Derived.ChangeKeysEq
import Derived.MapKept
import Derived.Laws.Slices
import Derived.Laws.OwnMore
import Derived.Scope
import Derived.OrdersIn
set_option linter.all false
noncomputable section
namespace Go.Pm
variable [aC]
open Go.RowKit (Below)
section
variable{P:Program}{Γ:bK}{nt B:Nat}{w0:World}{h0:Fz}{g:Gh}{σ:St}{a:Act}{w:World}{r:Option Nat}{n i:Nat}{Q:Exit->Act->World->Prop}
theorem zhX(σ:St)(i:Nat)(dst:Option Nat)(fp:List (Nat×Bool))(d:DV)(u:List (Nat×AO))(L:Nat) :
  σ.upd i dst fp d u [L]=⟨ZX dst d (kills (gY [L]) σ.env),u++kills (fE [L]) σ.ay,σ.log⟩:=by
 cases dst<;>rfl
theorem Ib{t e:TypeId}{ty:TypeId}{ie:TypeInfo}{base m m' s:Nat}{v x:Value}{xs news:List Value}(hu:P.underlying t=some (.slice e))(hi:P.info? e=some ie)
    {z:Value} (hz:ie.zero=some z) (AQ:z.cells.size=ie.size) (hs:ie.size=s) (iU:0<s) (RH:base<=w.heap.size) (jv:w.ownsRow base e s v m xs) (pg:zGZ w x m' s news)
    (hlen:m+m'<=9223372036854775807) (zO:(m+m')*ie.bytes<=140737488355328) :
    ∃v' w',(Builtin.append_ #[t,t] ty #[v,x]).run P w=.ok v' w'/\w'.ownsRow base e s v' (m+m') (xs++news)/\GrB w w' v.ownBlock/\(v'.ownBlock=v.ownBlock\/v'.ownBlock=some w.heap.size) /\
      v'.oneCell'=true:=by
  have jS:∃ad c,v=.slice ad m c:=by
    rcases jv.2 with⟨h1,h2⟩|⟨k,cap,cur,h1,_⟩
    subst h2;exact⟨_,_,h1⟩;exact⟨_,_,h1⟩
  obtain⟨ad,c,jS⟩:=jS;rcases pg with⟨rfl,hx|⟨a',c',hx⟩,rfl⟩|⟨b,o,cap,hx,hl,sK,h1⟩
  subst hx;have dh:=run_append_owned_none (P:=P) (w:=w) base t ty e ie s hu hi v m xs jv;refine⟨v,w,dh,by simpa using jv,⟨⟨rfl,rfl,rfl,kD _,λ_ _ _=>rfl⟩,kD _⟩,.inl rfl,by rw[jS];rfl⟩;subst hx
  obtain ⟨v', w', dh, yx, hg, _⟩ := run_append_own (P := P) w base t ty e ie z s ie.bytes hu hi hz hs rfl (by rw [AQ, hs]) iU v m xs jv a' 0 c' [] (by simp)
    (λj u hj=>by simp at hj) (λu hu=>by simp at hu) (by simp only[maxLen];omega) zO RH
  refine⟨v',w',dh,yx,⟨hg,KQ (ig _ _ _ _ dh)⟩,?_,?_⟩;rw [jS]at dh;have:=Dv (P:=P) (t:=t) (ty:=ty) w v' w' dh;rw[jS];cases ad<;>exact this;rcases yx.2 with⟨h1,_⟩|⟨k,cap,cur,h1,_⟩<;>rw[h1]<;>rfl
  subst hx
  obtain ⟨v', w', dh, yx, hg, _⟩ := run_append_own (P := P) w base t ty e ie z s ie.bytes hu hi hz hs rfl (by rw [AQ, hs]) iU v m xs jv ⟨b, o, none⟩ m' cap news hl
    (λj u hj=>by rw[addr_add];exact sK j u hj) h1 (by simp only[maxLen];omega) zO RH
  refine⟨v',w',dh,yx,⟨hg,KQ (ig _ _ _ _ dh)⟩,?_,?_⟩;rw [jS]at dh;have:=Dv (P:=P) (t:=t) (ty:=ty) w v' w' dh;rw[jS];cases ad<;>exact this;rcases yx.2 with⟨h1,_⟩|⟨k,cap,cur,h1,_⟩<;>rw[h1]<;>rfl
theorem Lu{t e:TypeId}{ty:TypeId}{ie:TypeInfo}{base m m' s:Nat}{v x:Value}{xs:List Value}{new:Nat→List PV}(hu:P.underlying t=some (.slice e))(hi:P.info? e=some ie)
    {z:Value} (hz:ie.zero=some z) (AQ:z.cells.size=ie.size) (hs:ie.size=s) (iU:0<s) (RH:base<=w.heap.size) (jv:w.ownsRow base e s v m xs) (pg:Wp g w x m' s new)
    (hlen:m+m'<=9223372036854775807) (zO:(m+m')*ie.bytes<=140737488355328) :
    ∃v' w' news,(Builtin.append_ #[t,t] ty #[v,x]).run P w=.ok v' w'/\w'.ownsRow base e s v' (m+m') (xs++news)/\GrB w w' v.ownBlock/\(v'.ownBlock=v.ownBlock\/v'.ownBlock=some w.heap.size) /\
      v'.oneCell'=true/\news.length=m'*s/\∀k,k<m'->RL (Rep g.h) (new k) ((news.drop (k*s)).take s):=by
  rcases pg with⟨rfl,hx⟩|⟨b,o,cap,news,hx,hl,sK,h1,hr⟩
  obtain⟨v',w',h⟩:=Ib (P:=P) (ty:=ty) (news:=[]) hu hi hz AQ hs iU RH jv (.inl ⟨rfl,hx,rfl⟩) hlen zO;exact⟨v',w',[],h.1,h.2.1,h.2.2.1,h.2.2.2.1,h.2.2.2.2,by simp,λk hk=>absurd hk omY⟩;obtain⟨v',w',h⟩:=Ib (P:=P) (ty:=ty) (news:=news) hu hi hz AQ hs iU RH jv (.inr ⟨b,o,cap,hx,hl,sK,h1⟩) hlen zO;exact⟨v',w',news,h.1,h.2.1,h.2.2.1,h.2.2.2.1,h.2.2.2.2,hl,hr⟩
theorem zhY{L e s b m m':Nat}{get new:Nat→List PV}{v':Value}{w':World}{xs news:List Value}(hu:uo (appG m get new))(hv0:0<s∧∃i z,P.info? e=some i∧i.size=s∧i.bytes=b∧i.zero=some z∧z.cells.size=s)
    (hx:xs.length=m*s) (hr:∀k,k<m->RL (Rep g.h) (get k) ((xs.drop (k*s)).take s)) (_hn:news.length=m'*s) (hrn:∀k,k<m'->RL (Rep g.h) (new k) ((news.drop (k*s)).take s))
    (jv:w'.ownsRow B e s v' (m+m') (xs++news)):Dp P (g.setSv L v') w' B L e s b (m+m') (appG m get new):=by
  refine⟨⟨hu,hv0.1⟩,hv0.2,xs++news,by rw[show(g.setSv L v').sv L=v' by simp[Gh.setSv]];exact jv,?_⟩;intro k hk;show RL (Rep g.h) (match Nat.ble m k with|true=>new (k-m)|false=>get k) _;cases hb:Nat.ble m k with
  | true =>
    have hmk:=qdU hb;have e:((xs++news).drop (k*s)).take s=(news.drop ((k-m)*s)).take s:=by
      rw[List.drop_append,show xs.drop (k*s)=[]from List.drop_eq_nil_of_le (by rw[hx];exact RJ s hmk),PT,hx,<- Nat.sub_mul]
    rw[e];exact hrn (k-m) omY
  | false =>
    have hmk:k<m:=by
      have:¬m<=k:=λh=>by rw[qjU h]at hb;cases hb
      omega
    have hle:k*s+s<=m*s:=by have:=RJ s (qdp hmk);rw[Vr]at this;exact this
    have e:((xs++news).drop (k*s)).take s=(xs.drop (k*s)).take s:=by
      rw[List.drop_append_of_le_length omY,List.take_append_of_le_length (by simp;omega)]
    rw[e];exact hr k hmk
theorem Z5{o:Oper}{args:Array Operand}{ts:Array TypeId}{A:aH}(S:bW P nt B w0 h0 g σ a w)(hd:dI nt o.dst=true)(aZ:o.op = .call {callee := .builtin .append,args,argTypes:=ts})
    (hA:act P Γ o (fV σ.env) (lk σ.ay)=A) (hs:A.safe):jD P nt B w0 h0 r n i o A σ a w Q:=by
  simp only[act,aAp,aZ]at hA;split at hA;rename_i s x t t' gQ hts;split at hA;rename_i e dst hu htt Hy;have htt:=lH htt;subst htt;have ha:args = #[s,x]:=by rw[<- qdj (xs:=args),gQ]
  have ht:ts = #[t,t]:=by rw[<- qdj (xs:=ts),hts]
  subst ha ht;split at hA;rename_i ie z hi hz;obtain⟨zv,Hz,AQ⟩:=jo hz hi;have zhZ:∀(v':Value)(w':World),(Builtin.append_ #[t,t] o.type #[a.eval s,a.eval x]).run P w=.ok v' w'->(execOp a.eval o).run P w=.ok (.value v') w':=by
    intro v' w' h;refine fb aZ ?_;simp only[builtin,Sem.run_bind,List.map_toArray,nX,qdY,h,Result.andThen_ok,Sem.run_pure]
  unfold RZ at hA;split at hA;rename_i m sz new fps pg;unfold F5 at pg;have zh0:sz≠0->Wp g w (a.eval x) m sz new:=by
    intro jU;have jU:0<sz:=by omega
    split at pg;rename_i hx;simp only[bV,gJ]at pg;obtain⟨rfl,rfl,rfl,_⟩:=pg;exact zhW S jU (jM S hx);rename_i M hx;obtain⟨h1,_⟩:=iY S hx;split at pg;rename_i hM;simp only[bV,gJ]at pg;obtain⟨rfl,rfl,rfl,_⟩:=pg;rw[h1.1];exact zoH (S.obj M _ hM);rename_i hM;simp only[bV,gJ]at pg;obtain⟨rfl,rfl,rfl,_⟩:=pg;rw[h1.1];exact zhW S jU (S.obj M _ hM).1;cases pg;cases pg
  have Wq:uo new:=by
    split at pg;rename_i hx;simp only[bV,gJ]at pg;obtain⟨rfl,rfl,rfl,_⟩:=pg;exact(jM S hx).un.rows.2;split at pg;rename_i hM;simp only[bV,gJ]at pg;obtain⟨rfl,rfl,rfl,_⟩:=pg;exact(S.obj _ _ hM).1.1;rename_i hM;simp only[bV,gJ]at pg;obtain⟨rfl,rfl,rfl,_⟩:=pg;exact(S.obj _ _ hM).1.un.rows.2;cases pg;cases pg
  split at hA;rename_i L hsL;obtain⟨h1,_⟩:=iY S hsL;split at hA;rename_i e' s' b' m0 get hL;split at hA;rename_i dw;obtain⟨rfl,rfl,rfl,zh1,iU,_,sN⟩:=dw;subst hA;have qi:(m0+m)*ie.bytes<=140737488355328/\m0+m<=9223372036854775807:=hs;have z01:sz≠0:=by omega
  have zef:=zh0 z01;rw[zh1]at zef;obtain⟨⟨Z7,hp⟩,nP,xs,hx,hr⟩:=S.obj L _ hL;obtain⟨v',w',news,dh,yx,hg,Jk,mf,hnl,hrn⟩:=Lu (P:=P) (ty:=o.type) hu hi Hz AQ rfl hp S.bs hx zef qi.2 qi.1;rw[<- h1.1]at dh;have hnz:nzG (get 0) (appG m0 get new)=appG m0 get new:=ZM λi=>by
    unfold appG;split;exact(KG sN (Z7 0 0) (Wq 0 0)).trans (Wq 0 _);exact Z7 0 _
  rw[hnz];have zhV:=zhY (P:=P) (L:=L) (zor Z7 Wq (KG sN (Z7 0 0) (Wq 0 0))) ⟨hp,nP⟩ hx.1 hr hnl hrn yx;have S':=S.grow (dst:=o.dst) hL hd hg (Jk.imp id .inl) zhV mf σ.log;refine qp (by simp[aZ]) (zhZ v' w' dh) ⟨g.setSv L v',σ.upd i o.dst ((L,true)::fps) (.cl (.vec L)) [(L,.vec e' ie.size ie.bytes (m0+m) (appG m0 get new))] [L],rfl,?_⟩;rw[zhX];exact S';subst hA;exact hs.elim;subst hA;exact hs.elim;rename_i hsN;split at hA;rename_i iF;split at hA;rename_i dw;obtain⟨zh1,iU⟩:=dw;subst hA;have qi:m*ie.bytes<=140737488355328/\m<=9223372036854775807:=hs;have zef:=zh0 omY;have zbQ:a.eval s=.slice none 0 0:=by
    have:=jM S hsN;generalize a.eval s=v at this;cases this;rfl
  obtain⟨v',w',news,dh,yx,hg,Jk,mf,hnl,hrn⟩:=Lu (P:=P) (ty:=o.type) (base:=w.heap.size) (m:=0) (v := .slice none 0 0) (xs:=[]) hu hi Hz AQ zh1.symm iU (kD _)
    (World.ownsRow_nil w _ e sz) zef omY (by rw[O3];exact qi.1)
  rw[<- zbQ]at dh;rw[O3,PT]at yx;have zG0:w'.ownsRow B e sz v' m news:=by
    refine⟨yx.1,?_⟩;rcases yx.2 with h|⟨k,cap,cur,h1,h2,h3⟩
    exact .inl h;exact .inr ⟨k,cap,cur,h1,FN S.bs h2,h3⟩
  have zhV:Dp P (g.setSv dst v') w' B dst e sz ie.bytes m new:=by
    refine⟨⟨Wq,iU⟩,⟨ie,zv,hi,zh1.symm,rfl,Hz,by rw[AQ,zh1]⟩,news,?_,hrn⟩;rw[show(g.setSv dst v').sv dst=v' by simp[Gh.setSv]];exact zG0
  have hold:∀b,b<w.heap.size->w'.heap[b]? = w.heap[b]?:=λb hb=>hg.block b hb (by simp[Value.ownBlock])
  have S' := S.newVec (t := dst) (w' := w') iF ⟨⟨hg.os, hg.tape, hg.output, hg.size, fun k hk => hold k (qdx hk S.bs)⟩, hg.drawn⟩ hold
    (λb hb=>(yx.lt b hb).1) zhV
  refine qp (by simp[aZ]) (zhZ v' w' dh) ⟨g.setSv dst v',σ.upd i o.dst ((dst,true)::fps) (.cl (.vec dst)) [(dst,.vec e sz ie.bytes m new)] [],rfl,?_⟩;rw[gu];refine S'.put (v:=v') hd (d:=.cl (.vec dst)) ⟨by simp[Gh.setSv],mf⟩ ?_ _;intro L hL;simp[cO,dD,bC]at hL;subst hL;exact⟨_,by rw[aX,eY rfl]⟩;subst hA;exact hs.elim;subst hA;exact hs.elim;subst hA;exact hs.elim;subst hA;exact hs.elim;subst hA;exact hs.elim;subst hA;exact hs.elim;subst hA;exact hs.elim
end
end Go.Pm
namespace Go.Pm
variable [aC]
open Go.RowKit (Below)
open Go.MapKept (IsKey findNow_spec run_checkKey)
section
variable{P:Program}{w:World}
abbrev VI(xs:List Int):List Value:=xs.map (Value.int .i64)
def mkI(ag:Bool)(c:List Int):Value:=match ag with|true=>tJ c|false=>.int .i64 (c.headD 0)
theorem rC{t:TypeId}{ag:Bool}{n off:Nat}{xs:List Int}(hg:jK P t=some ag)(hs:qI P t=some n)(h1:ag=false→n=1)(hl:off+n≤xs.length) :
  (part t (VI xs).toArray off).run P w=.ok (mkI ag ((xs.drop off).take n)) w:=by
 cases ag with
 | true =>
  simp only[part,Sem.run_bind,oK hg,Result.andThen_ok,PW,run_sizeOf hs,Sem.run_pure];simp[mkI,tJ,jq2,jqz,List.map_take,List.map_drop]
 | false =>
  have:=h1 rfl;subst this;have iM:off<xs.length:=by omega
  simp only[part,Sem.run_bind,oK hg,Result.andThen_ok,qdw,qd8];rw[show(VI xs).toArray[off]? = some (.int .i64 xs[off])by simp[iM]];rw[List.drop_eq_getElem_cons iM];rfl
theorem take_split(xs:List Int)(m k r:Nat):(xs.drop m).take (k+r)=(xs.drop m).take k++(xs.drop (m+k)).take r:=by
 rw[List.take_add,List.drop_drop]
theorem zcj{a b c d:List Int}(h:a.length=b.length):decide (a++c=b++d)=(decide (a=b)&&decide (c=d)):=by
 by_cases h1:a=b;subst h1;simp;have:¬(a++c=b++d):=fun e=>h1 (List.append_inj e h).1;simp[h1,this]
theorem take_len{xs:List Int}{m k:Nat}(h:m+k<=xs.length):((xs.drop m).take k).length=k:=by
 rw[qdB,Zx];omega
theorem vM{d:Nat}{t:TypeId}{n:Nat}{ag:Bool}(h:lu P d t=some n)(hg:jK P t=some ag):ag=false->n=1:=by
 intro e;subst e;cases d with
 | zero=>simp[lu]at h
 | succ d =>
  simp only[lu]at h;split at h;split at h;split at h;simp only[bV]at h;exact h.symm;cases h;cases h;rename_i hu;simp[jK,hu]at hg;rename_i hu;simp[jK,hu]at hg;cases h
def Ic (P : Program) (d : Nat) : Option Nat → Field → Option Nat := fun acc f => match acc, f.name != "_", lu P d f.type, qI P f.type with
 | some m,true,some n,some n'=>match Nat.beq f.offset m&&Nat.beq n n' with|true=>some (m+n)|false=>none
 | _,_,_,_=>none
theorem LC{d:Nat}:∀l:List Field,l.foldl (Ic P d) none=none|[]=>rfl|f::l=>by rw[VF,show Ic P d none f=none from rfl];exact LC l
theorem LD{d:Nat}{f:Field}{l:List Field}{m n:Nat}(h:(f::l).foldl (Ic P d) (some m)=some n) :
  ∃ k, lu P d f.type = some k ∧ qI P f.type = some k ∧ f.name ≠ "_" ∧ f.offset = m ∧ l.foldl (Ic P d) (some (m + k)) = some n := by
 rw[VF]at h;cases hs:Ic P d (some m) f with
 | none=>rw[hs,LC]at h;cases h
 | some q =>
  rw[hs]at h;unfold Ic at hs;split at hs;rename_i m' k k' e1 e2 e3 e4;simp only[bV]at e1;subst e1;split at hs;rename_i hb;simp only[gq]at hb;have h1:=lH hb.1;have h2:=lH hb.2;simp only[bV]at hs;subst hs;subst h2;exact⟨k,e3,e4,by simpa using e2,h1,h⟩;cases hs;cases hs
theorem Qm {d : Nat} : ∀ (l : List Field) (m q : Nat), l.foldl (Ic P d) (some m) = some q → m ≤ q ∧ ∀ f ∈ l, f.name ≠ "_" ∧ ∃ k, lu P d f.type = some k ∧ qI P f.type = some k ∧ f.offset + k ≤ q
  | [],m,q,h=>by
    simp only[List.foldl_nil,bV]at h;subst h;exact⟨kD _,λf hf=>by simp at hf⟩
  | f::l,m,q,h=>by
    obtain⟨k,h1,h2,h3,h4,h5⟩:=LD h;obtain⟨h6,h7⟩:=Qm l (m+k) q h5;refine⟨omY,λg hg=>?_⟩;rcases kS.1 hg with rfl|hg
    exact⟨h3,k,h1,h2,omY⟩;exact h7 g hg
theorem qQ{d:Nat}{t:TypeId}{n:Nat}(h:lu P d t=some n):∃ag,jK P t=some ag:=by
 cases d with
 | zero=>simp[lu]at h
 | succ d =>
  simp only[lu]at h;cases hu:P.underlying t with|none=>rw[hu]at h;cases h|some x=>unfold jK;rw[hu];exact⟨_,rfl⟩
theorem Jy:∀(d:Nat)(t:TypeId)(n:Nat)(ag:Bool),lu P d t=some n->jK P t=some ag->∀(e:Nat)(xs ys:List Int),xs.length=n->ys.length=n ->
  (Op.equalIn (d+e) t (mkI ag xs) (mkI ag ys)).run P w=.ok (decide (xs=ys)) w
 | 0,t,n,ag,h,_=>by simp[lu]at h
 | d+1,t,n,ag,h,hg=>by
  intro e xs ys hx hy;rw[show d+1+e=(d+e)+1 by omega];have h0:=h;simp only[lu]at h;split at h
  ·rename_i hu;have uT:ag=false:=by simp[jK,hu] at hg;exact hg
   subst uT;have hn:=vM h0 hg rfl;subst hn
   match xs,ys,hx,hy with
   | [x],[y],_,_ =>
    simp only[mkI,qjg];rw[run_equalIn_int w (d+e) t .i64 .i64 x y hu];by_cases hxy:x=y<;>simp[hxy]
  rename_i fs hu;split at h;cases h;rename_i FT;have uT:ag=true:=by simp[jK,hu]at hg;exact hg
  subst uT;have hf:P.fieldsOf t=fs:=by simp[Program.fieldsOf,hu]
  simp only[mkI,tJ];rw[run_equalIn_struct w (d+e) t _ _ (by rw[hf];exact hu) FT,hf]
  have key:∀(l:List Field)(m q:Nat),l.foldl (Ic P d) (some m)=some q->q<=xs.length->q<=ys.length ->
    m<=q/\(Op.eqFields (d+e) (VI xs).toArray (VI ys).toArray l).run P w=.ok (decide ((xs.drop m).take (q-m)=(ys.drop m).take (q-m))) w:=by
   intro l
   induction l with
   | nil =>
    intro m q hq _ _;simp only[List.foldl_nil,bV]at hq;subst hq;exact⟨kD _,by simp[Op.eqFields]⟩
   | cons f l ih =>
    intro m q hq hxl hyl;obtain⟨k,h1,h2,h3,h4,h5⟩:=LD hq;obtain⟨hle,hr⟩:=ih (m+k) q h5 hxl hyl;obtain⟨ag',uQ⟩:=qQ h1;have hk1:=vM h1 uQ;refine⟨omY,?_⟩;have p1:=rC (w:=w) (xs:=xs) (off:=m) uQ h2 hk1 omY;have p2:=rC (w:=w) (xs:=ys) (off:=m) uQ h2 hk1 omY;have p3:=Jy d f.type k ag' h1 uQ e ((xs.drop m).take k) ((ys.drop m).take k) (take_len omY) (take_len omY);rw[show q-m=k+(q-(m+k))by omega,take_split,take_split,zcj (by rw[take_len omY,take_len omY])];simp only[Op.eqFields,h3,ne_eq,not_false_eq_true,PW,Sem.run_bind,h4,p1,p2,p3,Result.andThen_ok];cases hd:decide (List.take k (List.drop m xs)=List.take k (List.drop m ys))with|false=>simp|true=>simpa using hr
  have:=(key fs.toList 0 n h omY omY).2;rw[this];simp only[List.drop_zero,jqR];rw[qdc omY,qdc omY];rename_i m0 e0 hu;split at h;rename_i m m' hm J7;split at h;rename_i hb;have hmm:=lH hb;subst hmm;simp only[bV]at h;have uT:ag=true:=by simp[jK,hu]at hg;exact hg
  subst uT;obtain⟨ag',uQ⟩:=qQ hm;have hk1:=vM hm uQ;obtain⟨i,hi,his⟩:∃i,P.info? e0=some i/\i.size=m:=by
   unfold qI at J7;cases hi:P.info? e0 with|none=>rw[hi]at J7;cases J7|some i=>rw[hi]at J7;simp only[RU,bV]at J7;exact⟨i,rfl,J7⟩
  have hc:P.cellsOf e0=m:=by simp[Program.cellsOf,hi,his]
  simp only[mkI,tJ];rw[run_equalIn_array w (d+e) _ _ hu hi,hc,dqZ];have key:∀(k s:Nat),(s+k)*m<=xs.length->(s+k)*m<=ys.length->(Op.eqItems (d+e) e0 m (VI xs).toArray (VI ys).toArray (List.range' s k)).run P w=.ok (decide ((xs.drop (s*m)).take (k*m)=(ys.drop (s*m)).take (k*m))) w:=by
   intro k
   induction k with
   | zero=>intro s _ _;simp[Op.eqItems]
   | succ k ih =>
    intro s hxl hyl;have e1:(s+(k+1))*m=s*m+(k+1)*m:=Nat.add_mul _ _ _;have e2:(k+1)*m=m+k*m:=by rw[Vr,jqS]
    have e3:(s+1)*m=s*m+m:=Vr _ _;have hr:=ih (s+1) (by rw[show s+1+k=s+(k+1)by omega];exact hxl) (by rw[show s+1+k=s+(k+1)by omega];exact hyl);have p1:=rC (w:=w) (xs:=xs) (off:=s*m) uQ J7 hk1 omY;have p2:=rC (w:=w) (xs:=ys) (off:=s*m) uQ J7 hk1 omY;have p3:=Jy d e0 m ag' hm uQ e ((xs.drop (s*m)).take m) ((ys.drop (s*m)).take m) (take_len omY) (take_len omY);rw[e2,take_split,take_split,zcj (by rw[take_len omY,take_len omY])];rw[ZJ];simp only[Op.eqItems,Sem.run_bind,p1,p2,p3,Result.andThen_ok];rw[e3]at hr;cases hd:decide (List.take m (List.drop (s*m) xs)=List.take m (List.drop (s*m) ys))with|false=>simp|true=>simpa using hr
  have:=key m0 0 (by rw[O3,h];omega) (by rw[O3,h];omega);rw[this];simp only[jqQ,List.drop_zero,h];rw[qdc omY,qdc omY];cases h;cases h;cases h
theorem wW:∀(d:Nat)(t:TypeId)(n:Nat)(ag em:Bool),lu P d t=some n->jK P t=some ag->∀(e:Nat)(xs:List Int),xs.length=n ->
  (Instr.checkKey em (d+e) t (mkI ag xs)).run P w=.ok () w
 | 0,t,n,ag,em,h,_=>by simp[lu]at h
 | d+1,t,n,ag,em,h,hg=>by
  intro e xs hx;rw[show d+1+e=(d+e)+1 by omega];have h0:=h;simp only[lu]at h;split at h;rename_i hu;have uT:ag=false:=by simp[jK,hu]at hg;exact hg
  subst uT;simp only[mkI,Instr.checkKey,Sem.run_bind,run_underlying hu,Result.andThen_ok,Sem.run_pure];rename_i fs hu;split at h;cases h
  ·rename_i FT;have uT:ag=true:=by simp[jK,hu] at hg;exact hg
   subst uT;simp only[mkI,tJ,Instr.checkKey,Sem.run_bind,run_underlying hu,Result.andThen_ok];rw[<- Array.forIn_toList];have deep:=(Qm fs.toList 0 n h).2;clear h h0;generalize fs.toList=L at deep
   induction L with
   | nil=>simp
   | cons f L ih =>
    obtain⟨hn,k,h1,h2,h3⟩:=deep f (by simp);obtain⟨ag',uQ⟩:=qQ h1;have p1:=rC (w:=w) (xs:=xs) (off:=f.offset) uQ h2 (vM h1 uQ) omY;have p3:=wW d f.type k ag' em h1 uQ e ((xs.drop f.offset).take k) (take_len omY);simp only[List.forIn_cons,Sem.run_bind,hn,ne_eq,not_false_eq_true,PW,Result.andThen_ok,p1,p3,Sem.run_pure];exact ih λy hy=>deep y (by simp[hy])
  rename_i m0 e0 hu;split at h;rename_i m m' hm J7;split at h
  ·rename_i hb;have hmm:=lH hb;subst hmm;simp only[bV] at h;have uT:ag=true:=by simp[jK,hu] at hg;exact hg
   subst uT;obtain⟨ag',uQ⟩:=qQ hm;have hk1:=vM hm uQ;simp only[mkI,tJ,Instr.checkKey,Sem.run_bind,run_underlying hu,Result.andThen_ok];simp only[Std.Legacy.Range.forIn_eq_forIn_range',Std.Legacy.Range.size,jqR,Nat.add_one_sub_one,Nat.div_one];have deep:∀i∈List.range' 0 m0,i*m+m<=xs.length:=λi hi=>by
    have iM:i<m0:=by simp at hi;exact hi
    have:(i+1)*m<=m0*m:=RJ _ iM;rw[Vr]at this;omega
   generalize List.range' 0 m0=is at deep
   induction is with
   | nil=>simp
   | cons i is ih =>
    have h3:=deep i (by simp);have p1:=rC (w:=w) (xs:=xs) (off:=i*m) uQ J7 hk1 h3;have p3:=wW d e0 m ag' em hm uQ e ((xs.drop (i*m)).take m) (take_len h3);simp only[List.forIn_cons,Sem.run_bind,run_sizeOf J7,Result.andThen_ok,p1,p3,Sem.run_pure];exact ih λy hy=>deep y (by simp[hy])
  cases h;cases h;cases h
theorem Z8(kf:KF)(c:List Int):Instr.sameBits 10000 (fJ kf c) (fJ kf c)=true:=by
 cases kf with
 | one=>simp[fJ,Instr.sameBits]
 | ints =>
  have key:∀(l:List Int)(m:Nat),((VI l).zip (VI l)).all (λ(x,y)=>Instr.sameBits (m+1) x y)=true:=by
   intro l m
   induction l with
   | nil=>rfl
   | cons a l ih =>
    simp only[VI,nX,List.zip_cons_cons,qdZ,gq];exact⟨by simp[Instr.sameBits],ih⟩
  simp only[fJ,tJ,Instr.sameBits];simp only[qjp,I5];exact key c 9998
theorem yY{k:TypeId}{kf:KF}{n:Nat}(h:fC P k=some (kf,n)) :
  (kf=.ints/\lu P 8 k=some n/\jK P k=some true)\/(kf=.one/\lu P 8 k=some n/\jK P k=some false/\n=1):=by
 unfold fC at h;split at h;rename_i h1 h2;simp only[bV,gJ]at h;obtain⟨rfl,rfl⟩:=h;exact .inl ⟨rfl,h1,h2⟩;rename_i h1 h2;split at h;rename_i hb;simp only[bV,gJ]at h;obtain⟨rfl,rfl⟩:=h;exact .inr ⟨rfl,h1,h2,lH hb⟩;cases h;cases h
theorem Jz{k:TypeId}{kf:KF}{n:Nat}(h:fC P k=some (kf,n)):kf=.one->n=1:=by
 rintro rfl;rcases yY h with⟨e,_⟩|⟨_,_,_,h⟩
 cases e;exact h
theorem zyq{k:TypeId}{kf:KF}{n:Nat}(h:fC P k=some (kf,n)){xs ys:List Int}(hx:xs.length=n)(hy:ys.length=n) :
  (Op.equalIn 10000 k (fJ kf xs) (fJ kf ys)).run P w=.ok (decide (xs=ys)) w:=by
 rcases yY h with⟨rfl,h1,h2⟩|⟨rfl,h1,h2,_⟩
 exact Jy (w:=w) 8 k n true h1 h2 9992 xs ys hx hy;exact Jy (w:=w) 8 k n false h1 h2 9992 xs ys hx hy
theorem Qn{k:TypeId}{kf:KF}{n:Nat}(em:Bool)(h:fC P k=some (kf,n)){xs:List Int}(hx:xs.length=n) :
  (Instr.checkKey em 10000 k (fJ kf xs)).run P w=.ok () w:=by
 rcases yY h with⟨rfl,h1,h2⟩|⟨rfl,h1,h2,_⟩
 exact wW (w:=w) 8 k n true em h1 h2 9992 xs hx;exact wW (w:=w) 8 k n false em h1 h2 9992 xs hx
theorem yZ{kt n:Nat}{ag:KF}(h:fC P kt=some (ag,n)){c:List Int}(hc:c.length=n):∀(es:List MapEntry)(en:List (List Int×List Int))(i:Nat),
  es.map (·.key)=en.map (λx=>fJ ag x.1)->(∀x∈en,x.1.length=n) ->
   ((Instr.findAsking kt (fJ ag c) es i).run P w=.ok none w/\∀x∈en,x.1≠c) \/
   ∃(j:Nat)(e:MapEntry)(v:List Int),(Instr.findAsking kt (fJ ag c) es i).run P w=.ok (some (i+j,e.val)) w/\es[j]? = some e/\en[j]? = some (c,v)
 | [],[],i,_,_=>.inl ⟨by simp[Instr.findAsking],by simp⟩
 | [],_::_,i,hk,_=>by simp at hk
 | _::_,[],i,hk,_=>by simp at hk
 | e::es,(k,v)::en,i,hk,hl=>by
  simp only[nX,FV]at hk;have q:=zyq (w:=w) h hc (hl _ kX);have q':(Op.equal kt (fJ ag c) e.key).run P w=.ok (decide (c=k)) w:=by rw[hk.1];exact q
  by_cases hck:c=k;subst hck;refine .inr ⟨0,e,v,?_,rfl,rfl⟩;simp only[Instr.findAsking,Sem.run_bind,q',Result.andThen_ok,decide_true,PW,Sem.run_pure,qd3];rcases yZ h hc es en (i+1) hk.2 (fun x hx=>hl x (jW _ hx))with⟨h1,h2⟩|⟨j,e',v',h1,h2,h3⟩
  refine .inl ⟨?_,fun x hx => ?_⟩;simp only [Instr.findAsking,Sem.run_bind,q',Result.andThen_ok,hck,Kq,qdw,qd8];exact h1;rcases kS.1 hx with rfl|hx
  exact λe=>hck e.symm;exact h2 x hx;refine .inr ⟨j+1,e',v',?_,by simpa using h2,by simpa using h3⟩;simp only[Instr.findAsking,Sem.run_bind,q',Result.andThen_ok,hck,Kq,qdw,qd8];rw[h1,show i+1+j=i+(j+1)by omega]
theorem run_findKey{kt n:Nat}{ag:KF}(h:fC P kt=some (ag,n)){c:List Int}(hc:c.length=n)(es:List MapEntry)(en:List (List Int×List Int))
    (hk : es.map (·.key) = en.map (fun x => fJ ag x.1)) (hl : ∀ x ∈ en, x.1.length = n) :
      ((Instr.findKey kt (fJ ag c) es).run P w=.ok none w/\∀x∈en,x.1≠c) \/
      ∃(j:Nat)(e:MapEntry)(v:List Int),(Instr.findKey kt (fJ ag c) es).run P w=.ok (some (j,e.val)) w/\es[j]? = some e/\en[j]? = some (c,v):=by
  by_cases mf:ag=.one
  · subst mf;have hn:=Jz h rfl;subst hn;have hu:P.underlying kt=some (.int .i64):=by
      obtain⟨h,hg⟩:lu P 8 kt=some 1/\jK P kt=some false:=by
        rcases yY h with⟨e,_⟩|⟨_,h1,h2,_⟩
        cases e;exact⟨h1,h2⟩
      simp only[lu]at h;split at h
      assumption
      rename_i hu;simp[jK,hu]at hg;rename_i hu;simp[jK,hu]at hg;cases h
    match c,hc with
    | [a],_ =>
      have RG:∀x∈es,IsKey (.int .i64) x.key:=by
        intro x hx;have:x.key∈en.map (λx=>fJ .one x.1):=hk▸uV.2 ⟨x,hx,rfl⟩;obtain⟨y,_,hy⟩:=uV.1 this;rw[<- hy];exact zce _
      have hat:∀(j:Nat)(e:MapEntry),es[j]? = some e->∃k v,en[j]? = some ([k],v)/\e.key=.int .i64 k:=by
        intro j e he;have h1:(es.map (·.key))[j]? = some e.key:=by simp[he]
        rw[hk]at h1;simp only[qdd,Zw]at h1;obtain⟨⟨k,v⟩,h2,h3⟩:=h1;have hkl:=hl _ (Ko h2)
        match k,hkl with|[k0],_=>exact⟨k0,v,h2,h3.symm⟩
      simp only[fJ,qjg];rcases findNow_spec (zce a) es 0 RG with⟨h1,h2⟩|⟨jj,e',h1,h2,h3⟩
      refine .inl ⟨by simp only [Instr.findKey,Sem.run_bind,run_underlying hu,Result.andThen_ok,h1,Sem.run_pure],fun x hx e => ?_⟩;obtain⟨j,hj⟩:=ZI hx;have hlen:es.length=en.length:=by have:=jX List.length hk;simpa using this
      have hjl:j<es.length:=by rw[hlen];exact(Bl.1 hj).1
      obtain⟨k,v,h4,h5⟩:=hat j es[j] (Au hjl);rw[hj]at h4;simp only[bV]at h4;rw[h4]at e;simp only[FV,jqm]at e;subst e;exact h2 es[j] (RN hjl) h5;obtain⟨k,v,h4,h5⟩:=hat jj e' h2;rw[h3]at h5;simp only[Value.int.injEq,true_and]at h5;subst h5;exact .inr ⟨jj,e',v,by simp only[Instr.findKey,Sem.run_bind,run_underlying hu,Result.andThen_ok,h1,Sem.run_pure,O3],h2,h4⟩
  · have hg:jK P kt=some true:=by
      rcases yY h with⟨_,_,h2⟩|⟨e,_⟩
      exact h2;exact absurd e mf
    have hkv:∀c:List Int,∃l,fJ ag c=.agg l:=λc=>by
      cases ag with|one=>exact absurd rfl mf|ints=>exact⟨_,rfl⟩
    match es,en,hk with
    | [],[],_ =>
      refine .inl ⟨?_,by simp⟩;obtain⟨x,hu⟩:∃x,P.underlying kt=some x:=by
        cases hu:P.underlying kt with|none=>simp[jK,hu]at hg|some x=>exact⟨x,rfl⟩
      simp only[Instr.findKey,Sem.run_bind,run_underlying hu,Result.andThen_ok,Instr.findNow,Sem.run_pure]
    | [],_::_,hk=>simp at hk
    | _::_,[],hk=>simp at hk
    | e::es,x::en,hk =>
      have hke:e.key=fJ ag x.1:=by simp only[nX,FV]at hk;exact hk.1
      have hf:(Instr.findKey kt (fJ ag c) (e::es)).run P w=(Instr.findAsking kt (fJ ag c) (e::es)).run P w:=by
        obtain⟨y,hu⟩:∃y,P.underlying kt=some y:=by
          cases hu:P.underlying kt with|none=>simp[jK,hu]at hg|some y=>exact⟨y,rfl⟩
        have hs:Instr.findNow y (fJ ag c) (e::es) 0=none:=by
          obtain⟨l1,e1⟩:=hkv c;obtain⟨l2,e2⟩:=hkv x.1;simp only[Instr.findNow,hke,e1,e2];have:Instr.sameNow y (.agg l1) (.agg l2)=none:=by
            cases y<;>rfl
          rw[this]
        simp only[Instr.findKey,Sem.run_bind,run_underlying hu,Result.andThen_ok,hs]
      rw[hf];rcases yZ (w:=w) h hc (e::es) (x::en) 0 hk hl with h1|⟨j,e',v,h1,h2,h3⟩
      exact .inl h1;exact .inr ⟨j,e',v,by rw[h1,O3],h2,h3⟩
theorem LG{c:List Int}:∀{en:List (List Int×List Int)},(∀x∈en,x.1≠c)→og c en=none
  | [],_=>rfl
  | (k,v)::r,h=>by
    simp only[og];rw[fH (h _ kX)];exact LG λx hx=>h x (jW _ hx)
theorem LH {c v : List Int} : ∀ {en : List (List Int × List Int)} {j : Nat}, (en.map (·.1)).Nodup → en[j]? = some (c, v) → og c en = some v
  | [],j,_,h=>by simp at h
  | (k,u)::r,j,hn,h=>by
    simp only[nX,qdu]at hn;simp only[og];cases j with
    | zero=>simp at h;rw[eY h.1,h.2]
    | succ j =>
      simp only[ZH]at h;rw[fH (λe=>hn.1 (uV.2 ⟨_,Ko h,e.symm⟩))];exact LH hn.2 h
end
end Go.Pm
namespace Go.Pm
variable [aC]
open Go.RowKit (Below)
section
variable{P:Program}{Γ:bK}{nt B:Nat}{w0:World}{h0:Fz}{g:Gh}{σ:St}{a:Act}{w:World}{r:Option Nat}{n i:Nat}{Q:Exit->Act->World->Prop}
theorem zoI(k:Option IntKind)(x:Int):jw g (.p (zhC k x)) (cellV k x):=by
 cases k with|none=>exact .bool _|some k=>exact .int _ _
theorem zh4(o:Option (List Int)):∀(ks:List (Option IntKind))(i:Nat),RL (jw g) ((zx6 o i ks).map .p) (rM o i ks)|[],_=>trivial|k::ks,i=>⟨zoI k _,zh4 o ks (i+1)⟩
theorem zyr{yH:Bool}{ks:List (Option IntKind)}{o:Option (List Int)}{d:D1}(h:zhD yH ks o=some d):A7 g d (mi yH ks o):=by
 have hr:=zh4 (g:=g) o ks 0;unfold zhD at h;cases yH with
 | true =>
  simp only[bV]at h;rw[<- h];exact⟨_,rfl,hr⟩
 | false =>
  split at h;rename_i l e;cases e
  ·rename_i v _ e;simp only[bV]at h;rw[<- h];rw[e]at hr;cases hc:rM o 0 ks with|nil=>rw[hc]at hr;exact hr.elim|cons x l=>rw[hc]at hr;simp only[mi,hc,qjg];exact hr.1
  cases h
theorem Ws{yH:Bool}{ks:List (Option IntKind)}{o:Option (List Int)}{d:D1}(h:zhD yH ks o=some d):dD d=[]:=by
 unfold zhD at h;split at h;simp only[bV]at h;rw[<- h];exact oN _;simp only[bV]at h;rw[<- h];rfl;cases h
def zve(c:Cl)(acc:Option (List (Option IntKind))):Option (List (Option IntKind)):=match c,acc with|.p (.int k (.ofNat 0)),some l=>some (some k::l)|.p (.bool false),some l=>some (none::l)|_,_=>none
theorem BD:∀(vs:List Value)(cs:List Cl)(ks:List (Option IntKind))(i:Nat),jJ vs=some cs→cs.foldr zve (some [])=some ks→vs=rM none i ks
  | [],cs,ks,i,h1,h2=>by
    simp only[jJ,bV]at h1;subst h1;simp only[List.foldr_nil,bV]at h2;subst h2;rfl
  | v::vs,cs,ks,i,h1,h2=>by
    simp only[jJ]at h1;split at h1;rename_i x l hx hl;simp only[bV]at h1;subst h1;rw[List.foldr_cons]at h2;unfold zve at h2;split at h2;rename_i k l' e1 e2;simp only[bV]at h2;subst h2;simp only[Cl.p.injEq]at e1;rw[BD vs l l' (i+1) hl e2];have:v=.int k 0:=by
      rw[e1]at hx;unfold wP at hx;split at hx<;>simp at hx;obtain⟨rfl,rfl⟩:=hx;rfl
    rw[this];rfl;rename_i l' e1 e2;simp only[bV]at h2;subst h2;simp only[Cl.p.injEq]at e1;rw[BD vs l l' (i+1) hl e2];have:v=.bool false:=by
      rw[e1]at hx;unfold wP at hx;split at hx<;>simp at hx;subst hx;rfl
    rw[this];rfl;cases h2;cases h1
structure zoJ (P : Program) (kt vt : Nat) (ag : KF) (m : Nat) (yH : Bool) (ks : List (Option IntKind)) : Prop where
  key:fC P kt=some (ag,m)
  zero:∀w,(zeroValue vt).run P w=.ok (mi yH ks none) w
  one:yH=false->ks.length=1
theorem Wu{kt vt:Nat}{ag:KF}{m:Nat}{yH:Bool}{ks:List (Option IntKind)}(h:Kw P kt vt=some (ag,m,yH,ks)):zoJ P kt vt ag m yH ks:=by
 unfold Kw at h;split at h
 ·rename_i ag' m' ks' zG1 h1 h3 h4;have zero:∀z,(P.info? vt).bind (·.zero)=some z->∀w,(zeroValue vt).run P w=.ok z w/\z.cells.toList=rM none 0 ks':=by
   intro z hz w;unfold zhB at h3;split at h3;rename_i zc hzc;obtain⟨i,v,hi,hv,ho,_⟩:=lZ hzc;rw[hi]at hz;simp only[jqi,hv,bV]at hz;subst hz;exact⟨lK hi hv,BD _ _ _ 0 ho h3⟩;cases h3
  cases hb:(zG1||Nat.beq ks'.length 1)with
  | false=>rw[hb]at h;cases h
  | true =>
   rw[hb]at h;cases hz:(P.info? vt).bind (·.zero)with
   | none=>rw[hz]at h;cases h
   | some z =>
    rw[hz]at h;cases zG1 with
    | true =>
     cases z with
     | agg cs =>
      simp only[bV,gJ]at h;obtain⟨rfl,rfl,rfl,rfl⟩:=h;refine⟨h1,λw=>?_,λe=>by cases e⟩;obtain⟨r1,r2⟩:=zero _ hz w;rw[r1];simp only[Value.cells]at r2;simp only[mi,<- r2]
     | _=>cases h
    | false =>
     have hlen:ks'.length=1:=by
      simp only[jqF]at hb;exact lH hb
     have fin:z.cells.toList=[z]->some (ag',m',false,ks')=some (ag,m,yH,ks)->zoJ P kt vt ag m yH ks:=by
      intro hcz h;simp only[bV,gJ]at h;obtain⟨rfl,rfl,rfl,rfl⟩:=h;refine⟨h1,λw=>?_,λ_=>hlen⟩;obtain⟨r1,r2⟩:=zero _ hz w;rw[r1];rw[hcz]at r2;simp only[mi,<- r2,qjg]
     cases z with|agg cs=>cases h|_=>exact fin rfl h
 cases h
theorem zh5{ag:KF}{m:Nat}{d:DV}{c:List Int}{v:Value}(h:zok ag m d=some c)(uT:ag=.one->m=1)(hv:rO g d v):v=fJ ag c/\c.length=m:=by
 unfold zok at h;split at h;rename_i cs;split at h;rename_i l hl;split at h;rename_i hb;simp only[bV]at h;subst h;obtain⟨vs,rfl,hr⟩:=hv;exact⟨by rw[zcf hl hr];rfl,lH hb⟩;cases h;cases h;simp only [bV]at h;subst h;cases hv;exact⟨rfl,(uT rfl).symm⟩;cases h
theorem JA:∀(ks:List (Option IntKind))(cs:List Cl)(l:List Int)(vs:List Value)(pre:List Int),vg ks cs=some l→RL (jw g) cs vs→vs=rM (some (pre++l)) pre.length ks
  | [],[],l,[],pre,h,_=>rfl
  | [],[],_,_::_,_,_,hr=>hr.elim
  | [],_::_,l,vs,pre,h,_=>by simp[vg]at h
  | k::ks,[],l,vs,pre,h,_=>by cases k<;>simp[vg]at h
  | k::ks,c::cs,l,[],pre,h,hr=>hr.elim
  | k::ks,c::cs,l,v::vs,pre,h,hr=>by
    unfold vg at h;split at h;rename_i e1 e2;cases e1;rename_i k' ks' k2 x r e1 e2;simp only[FV]at e1 e2;obtain⟨rfl,rfl⟩:=e1;obtain⟨rfl,rfl⟩:=e2;split at h;rename_i hkk;subst hkk;split at h;rename_i l' Aq;simp only[bV]at h;subst h;have ih:=JA ks cs l' vs (pre++[x]) Aq hr.2;have h1:=hr.1;cases h1;rw[show pre++[x]++l'=pre++x::l' by simp,show(pre++[x]).length=pre.length+1 by simp]at ih;rw[ih];simp[rM,cellV,yL];cases h;cases h;rename_i ks' b r e1 e2;simp only[FV]at e1 e2;obtain⟨rfl,rfl⟩:=e1;obtain⟨rfl,rfl⟩:=e2;split at h;rename_i l' Aq;simp only[bV]at h;subst h;have h1:=hr.1;cases h1;have ih:∀y:Int,vs=rM (some (pre++y::l')) (pre.length+1) ks:=λy=>by
      have ih:=JA ks cs l' vs (pre++[y]) Aq hr.2;rw[show pre++[y]++l'=pre++y::l' by simp,show(pre++[y]).length=pre.length+1 by simp]at ih;exact ih
    rw[ih (match b with|true=>1|false=>0)];cases b<;>simp[rM,cellV,yL];cases h;cases h
theorem zoK{yH:Bool}{ks:List (Option IntKind)}{dv:D1}{l:List Int}{v:Value}(h:vg ks dv.cells=some l)(uT:dv.isAgg=yH)(hv:A7 g dv v):v=mi yH ks (some l):=by
 subst uT;cases dv with
 | c x =>
  have:=JA (g:=g) ks [x] l [v] [] h ⟨hv,trivial⟩;simp only[PT,RQ]at this;simp only[D1.isAgg,mi,<- this,qjg]
 | agg cs =>
  obtain⟨vs,rfl,hr⟩:=hv;have:=JA (g:=g) ks cs l vs [] h hr;simp only[PT,RQ]at this;simp only[D1.isAgg,mi,<- this]
theorem zck {kt vt m : Nat} {ag : KF} {yH : Bool} {ks : List (Option IntKind)} (E : zoJ P kt vt ag m yH ks) {es : Array MapEntry} {en : List (List Int × List Int)} (hen : es.toList.map (fun e => (e.key, e.val)) = en.map (fun x => (fJ ag x.1, mi yH ks (some x.2))))
    (hl : ∀ x ∈ en, x.1.length = m) (hn : (en.map (·.1)).Nodup) {c : List Int} (hc : c.length = m) :
      ((Instr.findKey kt (fJ ag c) es.toList).run P w=.ok none w/\og c en=none/\∀x∈en,x.1≠c) \/
      ∃(j:Nat)(e:MapEntry)(v:List Int),(Instr.findKey kt (fJ ag c) es.toList).run P w=.ok (some (j,mi yH ks (some v))) w/\es[j]? = some e/\en[j]? = some (c,v)/\e.key=fJ ag c/\og c en=some v:=by
  have hk:es.toList.map (·.key)=en.map (λx=>fJ ag x.1):=by
    have:=jX (List.map Prod.fst) hen;simpa [qdO,Function.comp_def]using this
  rcases run_findKey (w:=w) E.key hc es.toList en hk hl with⟨h1,h2⟩|⟨j,e,v,h1,h2,h3⟩
  exact .inl ⟨h1,LG h2,h2⟩;have h4:(es.toList.map (fun e=>(e.key,e.val)))[j]? = some (e.key,e.val):=by simp [h2]
  rw[hen]at h4;simp only[qdd,h3,RU,bV,gJ]at h4;exact .inr ⟨j,e,v,by rw[h1,<- h4.2],by simpa using h2,h3,h4.1.symm,LH hn h3⟩
theorem SN{kt vt:Nat}{q:MQ}(h:Kw P kt vt=some q):zoJ P kt vt q.1 q.2.1 q.2.2.1 q.2.2.2:=by
 obtain⟨ag,m,yH,ks⟩:=q;exact Wu h
def zcl(q:MQ)(ok:Bool)(o:Option (List Int)):Value :=
 match ok with|true=>.tuple #[mi q.2.2.1 q.2.2.2 o,.bool o.isSome]|false=>mi q.2.2.1 q.2.2.2 o
theorem Z9{t kt vt b:Nat}{q:MQ}{ok:Bool}{F:List Int→Option (List Int)}{k:Nat}{es:Array MapEntry}{clock:Nat}(hu:P.underlying t=some (.map kt vt))(E0:Kw P kt vt=some q)
    (yw:w.heap[b]? = some (.map es clock)) (hm:moE q k F es clock) {c:List Int} (hc:c.length=q.2.1) :
    (Instr.lookup t (.map (some b)) (fJ q.1 c) ok).run P w=.ok (zcl q ok (F c)) w:=by
  obtain⟨en,M⟩:=hm;have E:=SN E0;have hck:=Qn (P:=P) (w:=w) es.isEmpty E.key hc;rw[M.find c hc];rcases zck (w:=w) E M.ents (λx hx=>(M.len x hx).1) M.nodup hc with⟨h1,h2,_⟩|⟨j,e,v,h1,_,_,_,h2⟩
  rw [h2];simp only[Instr.lookup,Sem.run_bind,run_underlying hu,Result.andThen_ok,MapKept.run_getObj_map yw,Sem.run_pure,hck,h1,E.zero w];cases ok<;>rfl;rw [h2];simp only[Instr.lookup,Sem.run_bind,run_underlying hu,Result.andThen_ok,MapKept.run_getObj_map yw,Sem.run_pure,hck,h1];cases ok<;>rfl
theorem zeJ{o:Oper}{t:TypeId}{x y:Operand}{q:MQ}{ok:Bool}{A:aH}{F:List Int→Option (List Int)}{fin:DV→aH}{fp:List (Nat×Bool)}(S:bW P nt B w0 h0 g σ a w)(hd:dI nt o.dst=true)(aZ:o.op = .lookup t x y ok)
    (hA:found q (fV σ.env y) ok F fin=A) (hs:A.safe) (mf:q.1=.one->q.2.1=1)
    (FT:∀d,(fin d).safe->oM (fin d) i o.dst σ (σ.upd i o.dst fp d [] []))
    (dh:∀c d,fin d=A->c.length=q.2.1->(Instr.lookup t (a.eval x) (fJ q.1 c) ok).run P w=.ok (zcl q ok (F c)) w) :
    jD P nt B w0 h0 r n i o A σ a w Q:=by
  unfold found at hA;split at hA;rename_i c hc;obtain⟨RD,AX⟩:=zh5 hc mf (S.ev y);split at hA
  · rename_i d hdv;have hvd:=zyr (g:=g) hdv;have AU:=Ws hdv;cases ok with
    | true =>
      have hr:=dh c _ hA AX;subst hA;refine dQ S hd (by simp[aZ]) (d:=.tup [d,.c (.p (.bool (F c).isSome))]) (v:=zcl q true (F c)) (fp:=fp) (FT _ hs) ?_ ?_ ?_;simp only[execOp,aZ,RD,Sem.run_bind,hr,Result.andThen_ok,Sem.run_pure];exact⟨[_,_],rfl,hvd,.bool _,trivial⟩;intro M hM;rw[show cO (.tup [d,.c (.p (.bool (F c).isSome))])=dD d++([]++[])from rfl,AU]at hM;simp at hM
    | false =>
      have hr:=dh c _ hA AX;subst hA;refine dQ S hd (by simp[aZ]) (d:=.one d) (v:=zcl q false (F c)) (fp:=fp) (FT _ hs) ?_ hvd ?_;simp only[execOp,aZ,RD,Sem.run_bind,hr,Result.andThen_ok,Sem.run_pure];intro M hM;simp[cO,AU]at hM
  subst hA;exact hs.elim;subst hA;exact hs.elim
theorem zaa{o:Oper}{t:TypeId}{x y:Operand}{ok:Bool}{A:aH}(S:bW P nt B w0 h0 g σ a w)(hd:dI nt o.dst=true)(aZ:o.op = .lookup t x y ok)
    (hA:Ky P t (fV σ.env x) (fV σ.env y) ok (lk σ.ay)=A) (hs:A.safe):jD P nt B w0 h0 r n i o A σ a w Q:=by
  unfold Ky at hA;split at hA;rename_i kt vt L hu hx;split at hA;rename_i q kt' vt' q' k F hE hL;split at hA;rename_i dw;obtain⟨rfl,rfl,rfl⟩:=dw;have E:=SN hE;obtain⟨yz,_⟩:=iY S hx;have yz:a.eval x=.map (some (pM (g.sv L))):=yz;obtain⟨es,clock,yw,_,hm⟩:=S.obj L _ hL;exact zeJ (fp:=[(L,false)]) S hd aZ hA hs (Jz E.key) (λd _=>rfl) λc d _ hc=>by rw[yz];exact Z9 hu hE yw hm hc
  subst hA;exact hs.elim;subst hA;exact hs.elim;subst hA;exact hs.elim
theorem Qo{c:List Int}(v:List Int):∀{en:List (List Int×List Int)},og c en=none→∀c',og c' (en++[(c,v)])=if c'=c then some v else og c' en
  | [],_,c'=>by
    simp only[PT,og];by_cases h:c=c';subst h;simp;rw[fH h,fH (λe=>h e.symm)]
  | (k,u)::r,hn,c'=>by
    simp only[og]at hn;split at hn;cases hn;rename_i hkc;simp only[qdT,og];by_cases h:k=c';subst h;rw[eY rfl,eY rfl,fH hkc];rw [fH h,fH h];exact Qo v hn c'
theorem Qp {c v v' : List Int} : ∀ {en : List (List Int × List Int)} {j : Nat}, (en.map (·.1)).Nodup → en[j]? = some (c, v) → ∀ c', og c' (en.set j (c, v')) = if c' = c then some v' else og c' en
  | [],j,_,h,_=>by simp at h
  | (k,u)::r,j,hn,h,c'=>by
    simp only[nX,qdu]at hn;cases j with
    | zero =>
      simp only[qdE,bV,gJ]at h;obtain⟨rfl,rfl⟩:=h;simp only[List.set_cons_zero,og];by_cases h:k=c';subst h;simp;rw[fH h,fH (λe=>h e.symm),fH h]
    | succ j =>
      simp only[ZH]at h;have hkc:k≠c:=λe=>hn.1 (uV.2 ⟨_,Ko h,e.symm⟩);simp only[List.set_cons_succ,og];by_cases h2:k=c';subst h2;rw[eY rfl,eY rfl,fH hkc];rw [fH h2,fH h2];exact Qp hn.2 h c'
theorem zcm(c v:List Int)(F:List Int->Option (List Int))(x:List Int):Di c v F x=if x=c then some v else F x:=by
 unfold Di;by_cases h:x=c<;>simp[h]
theorem Gg:∀{ks:List (Option IntKind)}{cs:List Cl}{l:List Int},vg ks cs=some l→l.length=ks.length
  | [],[],l,h=>by simp[vg]at h;subst h;rfl
  | [],_::_,l,h=>by simp[vg]at h
  | k::ks,[],l,h=>by cases k<;>simp[vg]at h
  | k::ks,c::cs,l,h=>by
    unfold vg at h;split at h;rename_i e1 e2;cases e1;rename_i k' ks' k2 x r e1 e2;simp only[FV]at e1 e2;obtain⟨rfl,rfl⟩:=e1;obtain⟨rfl,rfl⟩:=e2;split at h;split at h;rename_i l' Aq;simp only[bV]at h;subst h;simp[Gg Aq];cases h;cases h;rename_i ks' b r e1 e2;simp only[FV]at e1 e2;obtain⟨rfl,rfl⟩:=e1;obtain⟨rfl,rfl⟩:=e2;split at h;rename_i l' Aq;simp only[bV]at h;subst h;simp[Gg Aq];cases h;cases h
theorem zeK{t kt vt b:Nat}{q:MQ}{F:List Int→Option (List Int)}{k:Nat}{es:Array MapEntry}{clock:Nat}(hu:P.underlying t=some (.map kt vt))(E0:Kw P kt vt=some q)
    (yw:w.heap[b]? = some (.map es clock)) (hm:moE q k F es clock) {c:List Int} (hc:c.length=q.2.1) (l:List Int) (hll:l.length=q.2.2.2.length) :
    ∃es' CV,(Instr.mapUpdate t (.map (some b)) (fJ q.1 c) (mi q.2.2.1 q.2.2.2 (some l))).run P w=.ok () {w with heap:=w.heap.setIfInBounds b (.map es' CV)}/\moE q (addN (F c) k) (Di c l F) es' CV:=by
  obtain⟨ag,m,yH,ks⟩:=q;obtain⟨en,h1',h2',hen,hl,hn,hF,jU,hbo,hbn⟩:=hm;simp only at h1' h2' hen hl hn hF hc hll ⊢;have E:=Wu E0;have hck:=Qn (P:=P) (w:=w) false E.key hc;rcases zck (w:=w) E hen (λx hx=>(hl x hx).1) hn hc with⟨h1,h2,h3⟩|⟨j,e,v,h1,h2,h3,h4,h5⟩
  refine⟨es.push {key:=fJ ag c,val:=mi yH ks (some l),born:=clock},clock+1,?_,en++[(c,l)],h1',h2',?_,?_,?_,?_,?_,?_,?_⟩;simp only[Instr.mapUpdate,Sem.run_bind,run_underlying hu,Result.andThen_ok,MapKept.run_getObj_map yw,hck,h1,MapKept.run_setObj_map _ yw];rw[jqc,PU,hen,PU];rfl;intro x hx;rcases dX.1 hx with hx|hx
  exact hl x hx;simp only[lN]at hx;subst hx;exact⟨hc,hll⟩;rw [PU,qjJ];refine⟨hn,by simp,λa ha b hb e=>?_⟩;simp only[nX,qdY,lN]at hb;obtain⟨x,hx,hxa⟩:=uV.1 ha;exact h3 x hx (by rw[hxa,e,hb]);intro c' hc';rw[zcm,Qo l h2,hF c' hc'];rw[hF c hc,h2,jU];simp[addN];intro x hx;rw[jqc]at hx;rcases dX.1 hx with hx|hx
  exact Nat.lt_succ_of_lt (hbo x hx);simp only[lN]at hx;subst hx;exact Nat.lt_succ_self _;rw [jqc,PU,qjJ];refine⟨hbn,by simp,λa ha b hb e=>?_⟩;simp only[nX,qdY,lN]at hb;obtain⟨x,hx,hxa⟩:=uV.1 ha;have:=hbo x hx;omega;have znr:(es.modify j λe=>{e with key:=fJ ag c,val:=mi yH ks (some l)}).toList=es.toList.set j {e with key:=fJ ag c,val:=mi yH ks (some l)}:=by
    rw[Array.toList_modify];have h2':es.toList[j]? = some e:=by simpa using h2
    obtain⟨hj,he⟩:=Bl.1 h2';apply qdk;intro q;rw[List.getElem?_modify,qjI];by_cases hq:j=q;subst hq;rw[h2'];have qH:j<es.size:=by simpa using hj
    simp[qH];simp[hq]
  have z0q:es.toList.map (λe=>(e.key,e.val))=en.map (λx=>(fJ ag x.1,mi yH ks (some x.2))):=hen;refine⟨es.modify j λe=>{e with key:=fJ ag c,val:=mi yH ks (some l)},clock,?_,en.set j (c,l),h1',h2',?_,?_,?_,?_,?_,?_,?_⟩;have z0Q:((es[j]?).map (·.key)).getD (fJ ag c)=fJ ag c:=by rw [h2];simp [h4]
  have FT:(Instr.keyThatStays (fJ ag c) (fJ ag c)).run P w=.ok (fJ ag c) w:=by
    simp[Instr.keyThatStays,Z8]
  simp only[Instr.mapUpdate,Sem.run_bind,run_underlying hu,Result.andThen_ok,MapKept.run_getObj_map yw,hck,h1,z0Q,FT,MapKept.run_setObj_map _ yw];rw[znr,jqf,jqf,z0q];intro x hx;rcases qdh hx with hx|rfl
  exact hl x hx;exact⟨hc,hll⟩;rw [jqf];rw[show(en.map (·.1)).set j c=en.map (·.1)from ?_];exact hn;have:(en.map (·.1))[j]? = some c:=by simp [h3]
  obtain⟨hj,he⟩:=Bl.1 this;apply qdk;intro q;rw[qjI];by_cases hq:j=q;subst hq;rw[this];simp;simpa using hj;simp[hq];intro c' hc';rw[zcm,Qp hn h3,hF c' hc'];rw[hF c hc,h5,List.length_set,jU];rfl;intro x hx;rw[znr]at hx;rcases qdh hx with hx|rfl
  exact hbo x hx;exact hbo e (Ko (by simpa using h2));rw [znr,jqf];rw[show(es.toList.map (·.born)).set j e.born=es.toList.map (·.born)from ?_];exact hbn;have:(es.toList.map (·.born))[j]? = some e.born:=by simp [h2]
  obtain⟨hj,he⟩:=Bl.1 this;apply qdk;intro q;rw[qjI];by_cases hq:j=q;subst hq;rw[this];simp;simpa using hj;simp[hq]
theorem zeL{o:Oper}{t:TypeId}{x y z:Operand}{A:aH}(S:bW P nt B w0 h0 g σ a w)(hd:dI nt o.dst=true)(aZ:o.op = .mapUpdate t x y z)
    (hA:VM P t (fV σ.env x) (fV σ.env y) (fV σ.env z) (lk σ.ay)=A) (hs:A.safe):jD P nt B w0 h0 r n i o A σ a w Q:=by
  unfold VM at hA;split at hA;rename_i kt vt L hu hx;split at hA;rename_i q kt' vt' q' k F hE hL;split at hA;rename_i c dv hc hz;split at hA;rename_i l hl;split at hA;rename_i dw;obtain⟨rfl,rfl,rfl,uT⟩:=dw;subst hA;have E:=SN hE;obtain⟨yz,_⟩:=iY S hx;have yz:a.eval x=.map (some (pM (g.sv L))):=yz;obtain⟨RD,AX⟩:=zh5 hc (Jz E.key) (S.ev y);have Hz:a.eval z=mi q'.2.2.1 q'.2.2.2 (some l):=zoK hl uT (by have:=S.ev z;rw[hz]at this;exact this);obtain⟨es,clock,yw,_,hm⟩:=S.obj L _ hL;obtain⟨es',CV,dh,J7⟩:=zeK (P:=P) hu hE yw hm AX l (Gg hl);have iM:=(VD.1 yw).1;have hB:=(S.own L _ (pM (g.sv L)) hL rfl).1;refine Jv (by simp[aZ]) (w':={w with heap:=w.heap.setIfInBounds (pM (g.sv L)) (.map es' CV)}) ?_ ⟨g,_,rfl,?_⟩;simp only[execOp,aZ,yz,RD,Hz,Sem.run_bind,dh,Result.andThen_ok,Sem.run_pure];rw [gu];have rq:∀b,¬(pM (g.sv L)=b)->(w.heap.setIfInBounds (pM (g.sv L)) (Obj.map es' CV))[b]? = w.heap[b]?:=λb hb=>by rw[qd2,fH hb]
  have S' := S.write (o' := .mo kt' vt' q' (addN (F c) k) (Di c l F)) (w' := { w with heap := w.heap.setIfInBounds (pM (g.sv L)) (.map es' CV) }) hL (fun b hb => hb)
    (Dw hB (by simp) (λq hq=>rq q λe=>hq e.symm) rfl rfl rfl rfl) (λb hb=>rq b hb)
    ⟨es',CV,by show(w.heap.setIfInBounds (pM (g.sv L)) _)[pM (g.sv L)]? = _;simp[iM],hE,J7⟩ (λM hM=>by simp[dW]at hM)
  exact S'.put (d:=.junk) hd trivial (λM hM=>by simp[cO,dD,bC]at hM) _;subst hA;exact hs.elim;subst hA;exact hs.elim;subst hA;exact hs.elim;subst hA;exact hs.elim;subst hA;exact hs.elim
theorem bW.newMo(S:bW P nt B w0 h0 g σ a w){t kt vt:Nat}{q:MQ}(ht:lk σ.ay t=none)(hE:Kw P kt vt=some q) :
  bW P nt B w0 h0 (g.setSv t (.map (some w.heap.size))) {σ with ay:=(t,.mo kt vt q 0 (λ_=>none))::σ.ay} a (w.alloc (.map #[] 0)):=by
 have jk:∀L o,lk σ.ay L=some o->L≠t:=λL o h e=>by subst e;rw[ht]at h;cases h
 have fG:∀L o,lk σ.ay L=some o->jl g (g.setSv t (.map (some w.heap.size))) L:=λL o h=>⟨rfl,by simp[Gh.setSv,jk L o h],rfl⟩;have hold:∀b,b<w.heap.size->(w.alloc (.map #[] 0)).heap[b]? = w.heap[b]?:=λb hb=>heap_alloc_old w _ b hb;have kQ:∀L o,lk ((t,AO.mo kt vt q 0 (λ_=>none))::σ.ay) L=some o->(L=t/\o=.mo kt vt q 0 (λ_=>none))\/(L≠t/\lk σ.ay L=some o):=by
  intro L o h;rw[aX]at h;split at h;rename_i e;simp at h;exact .inl ⟨e.symm,h.symm⟩;rename_i e;exact .inr ⟨λe'=>e e'.symm,h⟩
 have iP:∀L o b,lk σ.ay L=some o->iy (g.setSv t (.map (some w.heap.size))) L o b->iy g L o b:=λL o b ho cZ=>Eq.mp (qj7 (gZ (fG L o ho)) _) cZ;refine S.change (g':=g.setSv t (.map (some w.heap.size))) fG (λ_ _ h=>h) ?_ (λb o h=>.inl h) (yh.of ⟨(Below.refl B w).alloc S.bs _,kD _⟩) ?_ ?_ ?_ ?_ ?_;exact S.hw.same λb o h=>hold b (vH S.hw h);intro L o ho;rcases kQ L o ho with⟨rfl,rfl⟩|⟨_,ho⟩
 have E:=SN hE;exact⟨#[],0,by rw[show pM ((g.setSv L (.map (some w.heap.size))).sv L)=w.heap.size by simp[Gh.setSv,pM]];exact heap_alloc_new w _,hE,[],Jz E.key,E.one,rfl,λx hx=>by simp at hx,qjD,λc _=>rfl,rfl,λe he=>by simp at he,by simp⟩;refine kz (S.obj L o ho) (fG L o ho) (fun M hM => ?_) (fun _ _ h=>h) (fun b cZ=>hold b (iW (S.obj L o ho) cZ));obtain⟨o',lq⟩:=S.clO L o ho M hM;exact fG M o' lq;intro L o b ho cZ;rcases kQ L o ho with⟨rfl,rfl⟩|⟨_,ho⟩
 ·simp [iy,Gh.setSv,pM]at cZ;subst cZ;refine⟨S.bs,?_⟩;cases hh:g.h w.heap.size with|none=>exact hh|some x=>exact absurd (vH S.hw hh) omY
 exact S.own L o b ho (iP L o b ho cZ);intro L o b L' o' ho lq cZ iK;rcases kQ L o ho with⟨rfl,rfl⟩|⟨hn,o9⟩<;>rcases kQ L' o' lq with⟨rfl,rfl⟩|⟨hn',nT⟩
 rfl;simp [iy,Gh.setSv,pM]at cZ;subst cZ;exact absurd (iW (S.obj L' o' nT) (iP _ _ _ nT iK)) omY;simp [iy,Gh.setSv,pM]at iK;subst iK;exact absurd (iW (S.obj L o o9) (iP _ _ _ o9 cZ)) omY;exact S.sep L o b L' o' o9 nT (iP _ _ _ o9 cZ) (iP _ _ _ nT iK);intro L o ho;refine⟨o,?_⟩;rw[aX,fH (λe=>jk L o ho e.symm)];exact ho;intro L o ho M hM;have fin:∀M o,lk σ.ay M=some o->∃o',lk ((t,AO.mo kt vt q 0 (λ_=>none))::σ.ay) M=some o':=λM o h=>⟨o,by rw[aX,fH (λe=>jk M o h e.symm)];exact h⟩;rcases kQ L o ho with⟨rfl,rfl⟩|⟨_,ho⟩
 simp[dW]at hM;obtain⟨o',lq⟩:=S.clO L o ho M hM;exact fin M o' lq
theorem zab{o:Oper}{t kt vt:TypeId}{q:MQ}{A:aH}(S:bW P nt B w0 h0 g σ a w)(hd:dI nt o.dst=true)(aZ:o.op = .makeMap t none)(hE:Kw P kt vt=some q)
    (hA:FY (lk σ.ay) o.dst (.mo kt vt q 0 (λ_=>none)) (λt=>.cl (.mo t))=A) (hs:A.safe):jD P nt B w0 h0 r n i o A σ a w Q:=by
  unfold FY at hA;split at hA;rename_i L hL;split at hA;rename_i kQ;subst hA;have S':=S.newMo (kt:=kt) (vt:=vt) kQ hE;refine qp (by simp[aZ]) (v:=.map (some w.heap.size)) (w':=w.alloc (.map #[] 0)) ?_ ⟨g.setSv L (.map (some w.heap.size)),_,rfl,?_⟩;simp[execOp,aZ,Instr.makeMap];rw [gu];refine S'.put (σ:={σ with ay:=(L,AO.mo kt vt q 0 (λ_=>none))::σ.ay}) hd (d:=.cl (.mo L)) ?_ ?_ _;simp[rO,A7,jw,Gh.setSv,pM];intro M hM;simp[cO,dD,bC]at hM;subst hM;exact⟨_,by rw[aX,eY rfl]⟩;subst hA;exact hs.elim;subst hA;exact hs.elim
end
end Go.Pm
namespace Go.Pm
variable [aC]
open Go.RowKit (Below)
section
variable{P:Program}{Γ:bK}{nt B:Nat}{w0:World}{h0:Fz}{g:Gh}{σ:St}{a:Act}{w:World}{r:Option Nat}{n i:Nat}{Q:Exit->Act->World->Prop}
theorem zh6{h:Fz}{n s l k:Nat}{get:Nat→List PV}{v:Value}(hr:Rep h (.sl n s get) v)(hl:l≤k)(hk:k≤n) :
  ∃a len cap,v=.slice a len cap/\len=n/\len<=cap/\Rep h (.sl (k-l) s (slG get l)) (sliced a l k cap s):=by
 have hu:uo get:=hr.un.rows.2;cases hr with
 | sl0=>exact⟨none,0,0,rfl,rfl,kD _,by
   obtain rfl:k=0:=by omega
   obtain rfl:l=0:=by omega
   exact .sl0 _ _ (wQ hu _)⟩
 | sle _ _ a cap=>exact⟨some a,0,cap,rfl,rfl,ui _,by
   obtain rfl:k=0:=by omega
   obtain rfl:l=0:=by omega
   unfold sliced;split;exact .sle _ _ _ _ (wQ hu _);exact .sle _ _ _ _ (wQ hu _)⟩
 | sl _ _ _ _ b o cap C ty fr vs hb kR hlen hc hr =>
  refine⟨_,n,cap,rfl,rfl,kR,?_⟩;unfold sliced;by_cases hkl:k-l=0;rw [hkl];split;exact .sle _ _ _ _ (wQ hu _);exact .sle _ _ _ _ (wQ hu _);rw [fH omY];simp only[RU,addr_add];refine .sl (k-l) s (slG get l) (wQ hu _) b (o+l*s) (cap-l) C ty fr (λi=>vs (i+l)) hb omY (λi hi=>hlen (i+l) omY) (λi j x hi hj=>?_) (λi j x hi hj=>hr (i+l) j x omY hj);have:=hc (i+l) j x omY hj;rw[Nat.add_mul]at this;rw[show o+l*s+i*s+j=o+(i*s+l*s)+j by omega];exact this
theorem Wv(S:bW P nt B w0 h0 g σ a w){x:Option Operand}{j:Option Int}(h:FX (fV σ.env) x=some j):(j=none/\x.map a.eval=none)\/∃k q,j=some q/\x.map a.eval=some (.int k q):=by
 cases x with
 | none=>simp only[FX,bV]at h;exact .inl ⟨h.symm,rfl⟩
 | some x =>
  simp only[FX]at h;split at h;rename_i k q hx;simp only[bV]at h;exact .inr ⟨k,q,h.symm,by rw[RU,kN S hx]⟩;cases h
theorem zeM{o:Oper}{t:TypeId}{x:Operand}{lo hi:Option Operand}{A:aH}(S:bW P nt B w0 h0 g σ a w)(hd:dI nt o.dst=true)(aZ:o.op = .slice t x lo hi none)
    (hA:Dk P t (fV σ.env x) (FX (fV σ.env) lo) (FX (fV σ.env) hi)=A) (hs:A.safe):jD P nt B w0 h0 r n i o A σ a w Q:=by
  unfold Dk at hA;split at hA;rename_i e m s get lo' kH hu hx hlo hhi;split at hA;rename_i q hq;split at hA;rename_i hb;have hsq:=lH hb;subst hsq;subst hA;obtain⟨h1,h2,h3⟩:0<=lo'.getD 0/\lo'.getD 0<=kH.getD (m:Int)/\kH.getD (m:Int)<=(m:Int):=hs;have hv:=jM S hx;obtain⟨ad,len,cap,hav,hlen,kR,hr⟩:=zh6 (l:=(lo'.getD 0).toNat) (k:=(kH.getD (m:Int)).toNat) hv omY omY;subst hlen;have hue:P.underlying t=some (.slice (P.elem t)):=by simp[Program.elem,hu]
  have H5:P.elem t=e:=by simp[Program.elem,hu]
  have jU:=run_sizeOf (w:=w) hq;have dh:(Instr.slice t (a.eval x) (lo.map a.eval) (hi.map a.eval) none).run P w=.ok (sliced ad (lo'.getD 0).toNat (kH.getD (len:Int)).toNat cap s) w:=by
    rw[hav,run_slice_any w t ad len cap hue,H5];have hb:(Instr.sliceBounds true len cap (lo.map a.eval) (hi.map a.eval) none).run P w=.ok ((lo'.getD 0).toNat,(kH.getD (len:Int)).toNat,cap) w:=by
      rcases Wv S hlo with⟨rfl,e1⟩|⟨k1,q1,rfl,e1⟩<;>rcases Wv S hhi with⟨rfl,e2⟩|⟨k2,q2,rfl,e2⟩<;>rw[e1,e2]<;>simp only[qdM,Option.getD_none]at h1 h2 h3 ⊢
      simp[Instr.sliceBounds];simp[Instr.sliceBounds,run_sliceBound w k2 q2 cap _ omY omY];simp[Instr.sliceBounds,run_sliceBound w k1 q1 len _ omY omY];simp[Instr.sliceBounds,run_sliceBound w k2 q2 cap _ omY omY,run_sliceBound w k1 q1 q2.toNat _ omY omY]
    rw[hb];simp only[Result.andThen_ok,jU]
  refine dQ S hd (by simp[aZ]) (d:=.p (.sl (kH.getD (len:Int)-lo'.getD 0).toNat s (slG get (lo'.getD 0).toNat))) (v:=sliced ad (lo'.getD 0).toNat (kH.getD (len:Int)).toNat cap s) (fp:=[]) rfl ?_ ?_ (kU _);simp[execOp,aZ,Instr.sliceAt,run_underlying hu,dh];rw [show(kH.getD (len:Int)-lo'.getD 0).toNat=(kH.getD (len:Int)).toNat-(lo'.getD 0).toNat by omega];exact hr;subst hA;exact hs.elim;subst hA;exact hs.elim;subst hA;exact hs.elim
end
end Go.Pm
namespace Go.Pm
variable [aC]
open Go.RowKit (Below)
section
variable{P:Program}{Γ:bK}{nt B:Nat}{w0:World}{h0:Fz}{g:Gh}{σ:St}{a:Act}{w:World}{r:Option Nat}{n i:Nat}{Q:Exit->Act->World->Prop}
theorem bW.newObj(S:bW P nt B w0 h0 g σ a w){t:Nat}{o:AO}{g':Gh}{w':World}(ht:lk σ.ay t=none)(hh:g'.h=g.h)(hs:∀M,M≠t→jl g g' M)
    (hb:KR B w w') (hold:∀b,b<w.heap.size->w'.heap[b]? = w.heap[b]?) (hv:∀b,iy g' t o b->w.heap.size<=b) (AU:dW o=[]) (hr:OX P g' w' B t o) :
    bW P nt B w0 h0 g' {σ with ay:=(t,o)::σ.ay} a w':=by
  have jk:∀L o,lk σ.ay L=some o->L≠t:=λL o h e=>by subst e;rw[ht]at h;cases h
  have fG:∀L o,lk σ.ay L=some o->jl g g' L:=λL o h=>hs L (jk L o h);have kQ:∀L x,lk ((t,o)::σ.ay) L=some x->(L=t/\x=o)\/(L≠t/\lk σ.ay L=some x):=by
    intro L x h;rw[aX]at h;split at h;rename_i e;simp at h;exact .inl ⟨e.symm,h.symm⟩;rename_i e;exact .inr ⟨λe'=>e e'.symm,h⟩
  have iP:∀L o b,lk σ.ay L=some o->iy g' L o b->iy g L o b:=λL o b ho cZ=>Eq.mp (qj7 (gZ (fG L o ho)) _) cZ;have hle:kF g.h g'.h:=by rw[hh];exact λ_ _ h=>h
  refine S.change (g':=g') fG hle ?_ (λb o h=>by rw[hh]at h;exact .inl h) (.of hb) ?_ ?_ ?_ ?_ ?_;rw[hh];exact S.hw.same λb o h=>hold b (vH S.hw h);intro L x hx;rcases kQ L x hx with⟨rfl,rfl⟩|⟨_,hx⟩
  exact hr;refine kz (S.obj L x hx) (fG L x hx) (fun M hM => ?_) hle (fun b cZ=>hold b (iW (S.obj L x hx) cZ));obtain⟨o',lq⟩:=S.clO L x hx M hM;exact fG M o' lq;intro L x b' hx cZ;rcases kQ L x hx with⟨rfl,rfl⟩|⟨_,hx⟩
  · have h1:=hv b' cZ;refine⟨FN S.bs h1,?_⟩;rw[hh];cases hq:g.h b' with|none=>rfl|some x=>exact absurd (vH S.hw hq) omY
  rw[hh];exact S.own L x b' hx (iP L x b' hx cZ);intro L x b' L' x' hx yK cZ iK;rcases kQ L x hx with⟨rfl,rfl⟩|⟨hn,PO⟩<;>rcases kQ L' x' yK with⟨rfl,rfl⟩|⟨hn',ZY⟩
  rfl;have:=hv b' cZ;exact absurd (iW (S.obj L' x' ZY) (iP _ _ _ ZY iK)) omY;have:=hv b' iK;exact absurd (iW (S.obj L x PO) (iP _ _ _ PO cZ)) omY;exact S.sep L x b' L' x' PO ZY (iP _ _ _ PO cZ) (iP _ _ _ ZY iK);intro L o ho;refine⟨o,?_⟩;rw[aX,fH (λe=>jk L o ho e.symm)];exact ho;intro L x hx M hM;rcases kQ L x hx with⟨rfl,rfl⟩|⟨_,hx⟩
  rw[AU]at hM;simp at hM;obtain⟨o',lq⟩:=S.clO L x hx M hM;exact⟨o',by rw[aX,fH (λe=>jk M o' lq e.symm)];exact lq⟩
theorem Qq{z:Array Value}{s m i:Nat}(hz:z.size=s)(hi:i<m):((madeCells z (m*s)).toList.drop (i*s)).take s=z.toList:=by
 have hii:i*s+s<=m*s:=by have:=RJ s (qdp hi);rw[Vr]at this;exact this
 apply qdk;intro j;rw[Jn];split;rename_i hj;rw[qdl];have:(madeCells z (m*s)).toList[i*s+j]? = some z[(i*s+j)%z.size]!:=by
  simp only[madeCells,qjo,qdd];rw[Array.toList_range,qjb omY];rfl
 rw[this,hz,qdK i s,jqo,jqj hj];have qH:j<z.size:=by omega
 simp[qH];rename_i hj;rw[qdm (by simp;omega)]
theorem Pg{o:Oper}{t:TypeId}{x y:Operand}{A:aH}(S:bW P nt B w0 h0 g σ a w)(hd:dI nt o.dst=true)(aZ:o.op = .makeSlice t x y)
    (hA:tC P Γ t (fV σ.env x) (fV σ.env y) o.dst (lk σ.ay)=A) (hs:A.safe):jD P nt B w0 h0 r n i o A σ a w Q:=by
  unfold tC at hA;split at hA
  · rename_i e k1 j k2 j2 dst hu hx hy Hy;split at hA
    · rename_i ie z hi hz iF;obtain⟨i',zv,hi2,Hz,hov,hlen⟩:=lZ hz;rw[hi] at hi2;simp only[bV] at hi2;subst hi2;have AQ:zv.cells.size=ie.size:=by have:=(kY (g:=g) _ _ hov).length;simp at this;omega
      have yz:=kN S hx;have RD:=kN S hy
      have made:∀(hs:0<=j/\j=j2/\j<=1000000)(zO:ie.bytes<=1000000),∃w',(execOp a.eval o).run P w=.ok (.value (.slice (some ⟨w.heap.size,0,none⟩) j.toNat j.toNat)) w' /\
          w'.ownsRow B e ie.size (.slice (some ⟨w.heap.size,0,none⟩) j.toNat j.toNat) j.toNat (madeCells zv.cells (j.toNat*ie.size)).toList/\KR B w w'/\∀b,b<w.heap.size->w'.heap[b]? = w.heap[b]?:=by
        intro hs zO;obtain⟨h0,rfl,h1⟩:=hs;have hj:j=((j.toNat:Nat):Int):=by omega
        have hmul:ie.bytes*j.toNat<=281474976710656:=FN (jqA zO (show j.toNat<=1000000 by omega)) (by decide);obtain⟨w',hr,jv,hg⟩:=run_make_full (P:=P) w B t e ie zv ie.size hu hi Hz rfl k1 k2 j.toNat hmul (by simp only[maxLen];omega) S.bs;refine⟨w',?_,jv,⟨⟨hg.os,hg.tape,hg.output,hg.size,λk hk=>hg.block k (qdx hk S.bs) (by simp)⟩,KQ (ig _ _ _ _ hr)⟩,λb hb=>hg.block b hb (by simp)⟩;rw[<- hj]at hr;simp only[execOp,aZ,yz,RD,Sem.run_bind,hr,Result.andThen_ok,Sem.run_pure]
      split at hA
      · split at hA
        · rename_i e2 hue;split at hA
          · rename_i i2 z2 zG2 zN0 dw;simp only[gq,Vs] at dw;have hs1:=lH dw.1;split at hA
            · rename_i l2 hl2 VC;have zh7:0 < i2.size:=qjK (qdU VC);subst hA;obtain⟨w',dh,jv,sH,hold⟩:=made hs dw.2;obtain⟨i3,zv2,hi3,zRJ,zRK,z3N⟩:=lZ zN0;rw[zG2] at hi3;simp only[bV] at hi3;subst hi3;have zyt:zv2.cells.size=i2.size:=by have:=(kY (g:=g) _ _ zRK).length;simp at this;omega
              have mG:(g.setVv dst (.slice (some ⟨w.heap.size,0,none⟩) j.toNat j.toNat) (λ_=>.slice none 0 0)).sv dst=.slice (some ⟨w.heap.size,0,none⟩) j.toNat j.toNat:=by simp[Gh.setVv]
              have hiv:(g.setVv dst (.slice (some ⟨w.heap.size,0,none⟩) j.toNat j.toNat) (λ_=>.slice none 0 0)).iv dst=λ_=>.slice none 0 0:=by simp[Gh.setVv]
              have hz1:zv.cells.toList=[.slice none 0 0]:=by
                match hl:zv.cells.toList,hov with
                | [],h=>simp[jJ]at h
                | [v],h =>
                  simp only[jJ]at h;split at h;rename_i x' l' h1 h2;simp only[bV]at h2;subst h2;simp only[bV,FV,Cl.p.injEq,jqm]at h;subst h;unfold wP at h1;split at h1<;>simp at h1;rfl;cases h
                | v::u::l,h =>
                  simp only[jJ]at h;split at h;rename_i x' l' h1 h2;simp only[bV,FV]at h;obtain⟨_,rfl⟩:=h;split at h2;simp at h2;cases h2;cases h
              have S2 := S.newObj (t := dst) (o := .vv e ie.bytes e2 i2.size i2.bytes j.toNat (fun _ => 0) (fun _ _ => l2)) (g' := g.setVv dst (.slice (some ⟨w.heap.size, 0, none⟩) j.toNat j.toNat) (fun _ => .slice none 0 0)) (w' := w')
                iF rfl (λM hM=>⟨rfl,by simp[Gh.setVv,hM],by simp[Gh.setVv,hM]⟩) sH hold (λb hb=>by
                  rcases hb with hb|⟨i,_,hb⟩
                  rw[mG]at hb;simp only[Value.ownBlock,bV]at hb;omega;rw[hiv]at hb;cases hb) rfl (by
                refine⟨⟨λ_ _ _ _=>Jt zN0 hl2,zh7⟩,⟨ie,zv,hi,hs1,rfl,Hz,by rw[AQ,hs1]⟩,⟨i2,zv2,zG2,rfl,rfl,zRJ,zyt⟩,?_,λi kH=>?_,λi k _ h=>?_⟩
                rotate_left
                rw[hiv];exact⟨rfl,λ_=>rfl,[],World.ownsRow_nil _ _ _ _,λ_ h=>absurd h (RP _)⟩;rw[hiv]at h;cases h;rw[mG,hiv];rw[hs1]at jv;have:(madeCells zv.cells (j.toNat*1)).toList=(List.range j.toNat).map λ_=>Value.slice none 0 0:=by
                  apply qdk;intro q;by_cases hq:q<j.toNat;have h1:=Qq (z:=zv.cells) (s:=1) (by rw [AQ,hs1]) hq;have h2:=jX (λl=>l[0]?) h1;simp only[Jn,qdl]at h2;rw[eY (by decide)]at h2;simp only[Nat.mul_one,qd3]at h2;rw[Nat.mul_one,h2,hz1];simp[hq];rw[qdm (by simp[madeCells];omega),qdm (by simp;omega)]
                rw[this]at jv;exact jv)
              refine qp (by simp[aZ]) dh ⟨g.setVv dst (.slice (some ⟨w.heap.size,0,none⟩) j.toNat j.toNat) (λ_=>.slice none 0 0),_,rfl,?_⟩;rw[gu];refine S2.put (v:=.slice (some ⟨w.heap.size,0,none⟩) j.toNat j.toNat) hd (d:=.cl (.vec dst)) ⟨mG.symm,rfl⟩ ?_ _;intro M hM;simp[cO,dD,bC]at hM;subst hM;exact⟨_,by rw[aX,eY rfl]⟩
            subst hA;exact hs.elim
          subst hA;exact hs.elim
        subst hA;exact hs.elim
      split at hA;rename_i l hl;split at hA;rename_i dw;simp only[gq,Vs]at dw;subst hA;obtain⟨w',dh,jv,sH,hold⟩:=made hs dw.2;have mG:(g.setSv dst (.slice (some ⟨w.heap.size,0,none⟩) j.toNat j.toNat)).sv dst=.slice (some ⟨w.heap.size,0,none⟩) j.toNat j.toNat:=by simp[Gh.setSv]
      have oz:=kY (g:=g) _ _ hov;rw[oO hl]at oz;have oz:=RL.map_left.1 oz
      have S2 := S.newVec (t := dst) (w' := w') (e := e) (s := ie.size) (b := ie.bytes) (n := j.toNat) (get := fun _ => AA P e l) (v := .slice (some ⟨w.heap.size, 0, none⟩) j.toNat j.toNat) iF sH hold
        (λb hb=>by simp[Value.ownBlock]at hb;omega) ⟨⟨KH (yQ (vz oz)),omY⟩,⟨ie,zv,hi,rfl,rfl,Hz,AQ⟩,_,by rw[mG];exact jv,λi kH=>by rw[Qq AQ kH];exact vz oz⟩
      refine qp (by simp[aZ]) dh ⟨g.setSv dst (.slice (some ⟨w.heap.size,0,none⟩) j.toNat j.toNat),_,rfl,?_⟩;rw[gu];refine S2.put (v:=.slice (some ⟨w.heap.size,0,none⟩) j.toNat j.toNat) hd (d:=.cl (.vec dst)) ⟨mG.symm,rfl⟩ ?_ _;intro M hM;simp[cO,dD,bC]at hM;subst hM;exact⟨_,by rw[aX,eY rfl]⟩;subst hA;exact hs.elim;subst hA;exact hs.elim
    subst hA;exact hs.elim
  subst hA;exact hs.elim
end
end Go.Pm
namespace Go.Pm
variable [aC]
open Go.RowKit (Below)
section
variable{P:Program}{Γ:bK}{nt B:Nat}{w0:World}{h0:Fz}{g:Gh}{σ:St}{a:Act}{w:World}{r:Option Nat}{n i:Nat}{Q:Exit->Act->World->Prop}
theorem LJ{h:Fz}{x:PA}{v:Value}(hx:oJ h x v):A7 ⟨h,g.bk,g.sv,g.iv⟩ (Jq x) v:=by
 cases x with
 | one p=>exact hx
 | agg cs =>
  obtain⟨vs,rfl,hr⟩:=hx;exact⟨vs,rfl,RL.map_left.2 hr⟩
theorem SQ{h:Fz}{rs:List PA}{v:Value}(hr:qP h rs v):rO ⟨h,g.bk,g.sv,g.iv⟩ (resD rs) v:=by
 have tup:∀l:List PA,(∃vs:List Value,v=.tuple vs.toArray/\RL (oJ h) l vs)->rO ⟨h,g.bk,g.sv,g.iv⟩ (.tup (l.map Jq)) v:=by
  rintro l ⟨vs,hv,hr2⟩;exact⟨vs,hv,RL.map_left.2 (RL.mono hr2 λ_ _ h=>LJ h)⟩
 match rs,hr with|[],hr=>exact tup _ hr|[x],hr=>exact LJ hr|x::y::l,hr=>exact tup _ hr
theorem wX(x:PA):dD (Jq x)=[]:=by
 cases x with|one p=>rfl|agg cs=>exact oN cs
theorem Dy(rs:List PA):cO (resD rs)=[]:=by
 have tup:∀l:List PA,cO (.tup (l.map Jq))=[]:=by
  intro l
  induction l with|nil=>rfl|cons x l ih=>simp only[nX,cO,oC,wX,PT]at ih ⊢;exact ih
 match rs with|[]=>exact tup _|[x]=>exact wX x|x::y::l=>exact tup _
theorem eF{f:FuncId}{args:Array Value}(h:dA P f):(callFunc f args).run P w=.ok (.enter f args) w:=by
 obtain⟨fn,h1,h2,h3⟩:=h;have h2':fn.body.isNone=false:=by simpa using h2
 simp only[callFunc,Sem.run_bind,run_program,Result.andThen_ok,h1,h3,h2',qdw,qd8,Sem.run_pure]
theorem Dz(S:bW P nt B w0 h0 g σ a w):∀(l:List Operand),RL (rO g) (l.map (fV σ.env)) (l.map a.eval)|[]=>trivial|x::r=>⟨S.ev x,Dz S r⟩
theorem zac{h:Fz}{l:List PV}{vs:List Value}(hr:RL (Rep h) l vs):RL (oJ h) (l.map .one) vs:=RL.map_left.2 hr
theorem LK{h:Fz}{l:List PV}{vs:List Value}(h1:l.length=vs.length)(h2:∀(j:Nat)(x:PV)(v:Value),l[j]? = some x->vs[j]? = some v->Rep h x v):RL (Rep h) l vs:=RL.of_get h1 h2
theorem bW.swap(S:bW P nt B w0 h0 g σ a w){u:List (Nat×AO)}{kl K:List Nat}{g':Gh}{w':World}(hle:kF g.h g'.h)(IX:Hw g'.h w')(uh:∀M,g'.bk M=g.bk M)(hs:∀M,M∉kl→jl g g' M)
    (hkl:∀L∈kl,lk u L≠none) (hX:ZW g.h K w w') (hK:∀b∈K,∃L o o',lk u L=some o/\lk σ.ay L=some o'/\iy g L o' b)
    (hv:∀L o,lk u L=some o->OX P g' w' B L o) (cZ:∀L o b,lk u L=some o->iy g' L o b->(b∈K\/w.heap.size<=b)/\g'.h b=none)
    (Jl:∀L o b L' o',lk u L=some o->lk u L'=some o'->iy g' L o b->iy g' L' o' b->L=L')
    (AU:∀L o,lk u L=some o->∀M∈dW o,∃o',lk σ.ay M=some o') (hnK:∀b o,g'.h b=some o->g.h b=some o\/w.heap.size<=b\/b∈K) (log:List (Nat×Nat×Nat)) :
    bW P nt B w0 h0 g' ⟨kills (gY kl) σ.env,u++kills (fE kl) σ.ay,log⟩ a w':=by
  have kQ:∀M x,lk (u++kills (fE kl) σ.ay) M=some x->lk u M=some x\/(lk u M=none/\M∉kl/\∃o,lk σ.ay M=some o/\x=fE kl o):=by
    intro M x h;rw[iC]at h;cases hM:lk u M with
    | some y=>rw[hM]at h;exact .inl h
    | none =>
      rw[hM]at h;simp only[]at h;rw[pO]at h;obtain⟨o,ho,rfl⟩:=Zw.1 h;exact .inr ⟨rfl,λhk=>hkl M hk hM,o,ho,rfl⟩
  have yG:∀M o,lk σ.ay M=some o->∃x,lk (u++kills (fE kl) σ.ay) M=some x:=by
    intro M o h;rw[iC];cases lk u M with|some y=>exact⟨y,rfl⟩|none=>simp only[];rw[pO,h];exact⟨_,rfl⟩
  have Lt:∀M o,M∉kl->iy g' M (fE kl o)=iy g M o:=by
    intro M o jk;have:=hs M jk;funext k;cases o<;>simp[fE,iy,this.1,this.2.1,this.2.2]
  have hKB:∀b∈K,B<=b/\g.h b=none:=λb hb=>by
    obtain⟨L,_,o',_,h2,h3⟩:=hK b hb;exact S.own L o' b h2 h3
  have FI:∀M o k,lk u M=none->lk σ.ay M=some o->iy g M o k->k∉K:=λM o k h1 h2 h3 hk=>by
    obtain⟨L,x,o',h4,h5,h6⟩:=hK k hk;rw[S.sep M o k L o' h2 h5 h3 h6,h4]at h1;cases h1
  have hold:∀M o k,lk u M=none->lk σ.ay M=some o->iy g M o k->w'.heap[k]? = w.heap[k]?:=λM o k h1 h2 h3 =>
    hX.block k (iW (S.obj M o h2) h3) (FI M o k h1 h2 h3)
  refine⟨S.dfr.mono hle,S.size,?_,?_,?_,?_,IX,λb o h=>hle _ _ (S.le0 b o h),?_,S.below.trans ⟨hX.os,hX.tape,hX.output,hX.size,hX.drawn,λk hk=>hX.block k (qdx hk S.bs) (λhkK=>by have:=(hKB k hkK).1;omega)⟩,FN S.bs hX.size,?_,?_⟩;intro t d ht;rw[pO]at ht;obtain⟨d',gI,rfl⟩:=Zw.1 ht;exact zci hle uh hs (S.env t d' gI);intro M x hx;rcases kQ M x hx with hx|⟨hn,jk,o,ho,rfl⟩
  exact hv M x hx
  · have Zr:∀k,iy g M o k→w'.heap[k]? = w.heap[k]? := fun k hk=>hold M o k hn ho hk;have hr:=S.obj M o ho;have hsM:=hs M jk;cases o with
    | box ty cs =>
      obtain⟨C,hC,hr⟩:=hr;exact⟨C,by rw[uh M,Zr _ rfl];exact hC,Dx hle uh hs hr⟩
    | _=>exact kz (o:=fE kl _) hr hsM (λL hL=>by simp[dW,fE]at hL) hle Zr
  intro M x k hx hk;rcases kQ M x hx with hx|⟨hn,jk,o,ho,rfl⟩
  obtain⟨h1,h2⟩:=cZ M x k hx hk;exact⟨h1.elim (λh=>(hKB k h).1) (λh=>FN S.bs h),h2⟩
  · rw [Lt M o jk]at hk;obtain⟨h1,h2⟩:=S.own M o k ho hk;refine⟨h1,?_⟩;cases hh:g'.h k with
    | none=>rfl
    | some y =>
      rcases hnK k y hh with h3|h3|h3
      rw[h2]at h3;cases h3;exact absurd (iW (S.obj M o ho) hk) omY;exact(FI M o k hn ho hk h3).elim
  intro M x k M' x' hx yK hk jR;have RF:∀M o L y,lk u M=none->lk σ.ay M=some o->iy g M o k->lk u L=some y->iy g' L y k->False:=by
    intro M o L y hn ho hk hy jR;rcases(cZ L y k hy jR).1 with h|h
    exact FI M o k hn ho hk h;exact absurd (iW (S.obj M o ho) hk) omY
  rcases kQ M x hx with hx|⟨hn,jk,o,ho,rfl⟩<;>rcases kQ M' x' yK with yK|⟨hn',zg6,o2,o9,rfl⟩
  exact Jl M x k M' x' hx yK hk jR;rw [Lt M' o2 zg6]at jR;exact(RF M' o2 M x hn' o9 jR hx hk).elim;rw [Lt M o jk]at hk;exact(RF M o M' x' hn ho hk yK jR).elim;rw [Lt M o jk]at hk;rw [Lt M' o2 zg6]at jR;exact S.sep M o k M' o2 ho o9 hk jR;intro b o h;rcases hnK b o h with h|h|h
  exact S.hn b o h;exact .inr (FN S.bs h);exact .inr (hKB b h).1;intro t d ht M hM;rw[pO]at ht;obtain⟨d',gI,rfl⟩:=Zw.1 ht;obtain⟨o,ho⟩:=S.clE t d' gI M (Qk M hM);exact yG M o ho;intro M x hx N hN;rcases kQ M x hx with hx|⟨hn,jk,o,ho,rfl⟩
  obtain⟨o',lq⟩:=AU M x hx N hN;exact yG N o' lq;obtain⟨o2,o9⟩:=S.clO M o ho N (Ql N hN);exact yG N o2 o9
theorem bW.frozen0(S:bW P nt B w0 h0 g σ a w):fM g (lk σ.ay) [] g.h :=
 ⟨λ_ _ h=>h,λ_ _ _ _ _ _ _ h=>by simp at h,λL s n get h=>(S.obj L _ h).1,λ_ _ _ _ _ _ _ _ _ _ h=>by simp at h,
  λ_ _ _ _ _ _ _ _ h=>by simp at h,λL l h=>S.obj L _ h,λb hb o ho=>by rw[hb]at ho;cases ho⟩
def kO(g:Gh)(L:Nat):AO→List Nat|.box _ _=>[g.bk L]|.vec _ _ _ _ _=>(g.sv L).ownBlock.toList|.mo _ _ _ _ _=>[pM (g.sv L)]|_=>[]
theorem SS{L:Nat}{o:AO}{b:Nat}(h:b∈kO g L o):iy g L o b:=by
 cases o with|box ty cs=>simp only[kO,lN]at h;exact h.symm|vec e s b' n get=>simpa [kO,iy]using h|mo kt vt q n F=>simp only[kO,lN]at h;exact h.symm|_=>simp[kO]at h
theorem zh8(L:Nat)(o:AO):(kO g L o).Nodup:=by
 cases o with|vec e s b' n get=>simp only[kO];cases(g.sv L).ownBlock<;>simp|_=>simp[kO]
def Wx:AO→Prop|.box _ _=>True|.vec _ _ _ _ _=>True|.mo _ _ _ _ _=>True|_=>False
theorem Gi{L:Nat}{o:AO}{b:Nat}(ho:Wx o)(h:iy g L o b):b∈kO g L o:=by
 cases o with|box ty cs=>simp only[kO,lN];exact h.symm|vec e s b' n get=>simpa [kO,iy]using h|mo kt vt q n F=>simp only[kO,lN];exact h.symm|_=>exact ho.elim
def kB(g:Gh)(ob:Nat->Option AO)(L:Nat):List Nat:=match ob L with|some o=>kO g L o|none=>[]
theorem LM{α:Type}{f:α→List Nat}:∀{l:List α},l.Nodup→(∀x∈l,(f x).Nodup)→(∀x y b,x∈l→y∈l→b∈f x→b∈f y→x=y)→(l.flatMap f).Nodup
  | [],_,_,_=>by simp
  | x::l,hn,h1,h2=>by
    rw[oC,qjJ];obtain⟨hx,hl⟩:=qdu.1 hn;refine⟨h1 x kX,LM hl (λy hy=>h1 y (jW _ hy)) (λy z b hy hz=>h2 y z b (jW _ hy) (jW _ hz)),?_⟩;intro b hb c hc e;subst e;obtain⟨y,hy,hby⟩:=lU.1 hc;exact hx (by rw[h2 x y b kX (jW _ hy) hb hby];exact hy)
theorem Gj{α:Type}{f:α→List Nat}:∀{l:List α},(l.flatMap f).Nodup→∀x y b,x∈l→y∈l→b∈f x→b∈f y→x=y
  | [],_,_,_,_,hx,_,_,_=>by simp at hx
  | z::l,hn,x,y,b,hx,hy,h1,h2=>by
    rw[oC,qjJ]at hn;obtain⟨_,hl,hd⟩:=hn;rcases kS.1 hx with ex|yK<;>rcases kS.1 hy with ey|hy'
    rw[ex,ey];rw[ex]at h1;exact(hd b h1 b (lU.2 ⟨y,hy',h2⟩) rfl).elim;rw[ey]at h2;exact(hd b h2 b (lU.2 ⟨x,yK,h1⟩) rfl).elim;exact Gj hl x y b yK hy' h1 h2
theorem ni:∀{l:List Nat},mQ l=true→l.Nodup
  | [],_=>qjD
  | x::l,h=>by
    simp only[mQ,gq,H6]at h;exact qdu.2 ⟨by simpa using h.1,ni h.2⟩
def zad [dE](g:Gh)(sf:lI):Prop:=∀f np ls,sf=some (f,np,ls)->dE.f=f/\dE.np=np/\dE.bs=ls.map g.bk
theorem zcn:∀{caps:List uj}{ls:List Nat}{cv:List Value},KE caps ls=true→RL (Jc g) caps cv→cv=(ls.map g.bk).map yB
  | [],[],[],_,_=>rfl
  | [],[],_::_,_,h=>h.elim
  | [],_::_,_,h,_=>by cases h
  | .v _::_,[],_,h,_=>by cases h
  | .v _::_,_::_,_,h,_=>by cases h
  | .b _::_,[],_,h,_=>by cases h
  | .b _::_,_::_,[],_,h=>h.elim
  | .b L::caps,M::ls,v::cv,h,hr=>by
    simp only[KE,gq]at h;have e:=lH h.1;subst e;rw[nX,nX,<- zcn h.2 hr.2];have:=hr.1;simp only[Jc]at this;rw[this];rfl
theorem Wy:∀{caps:List uj}{ls:List Nat},KE caps ls=true→RL (Jc g) caps ((ls.map g.bk).map yB)
  | [],[],_=>trivial
  | [],_::_,h=>by cases h
  | .v _::_,[],h=>by cases h
  | .v _::_,_::_,h=>by cases h
  | .b _::_,[],h=>by cases h
  | .b L::caps,M::ls,h=>by
    simp only[KE,gq]at h;have e:=lH h.1;subst e;exact⟨rfl,Wy h.2⟩
theorem WA{sf:lI}{f:FuncId}{caps:List uj}{x:XC}(h:zya sf f caps=some x):∃np ls,sf=some (f,np,ls)/\KE caps ls=true/\x=.slf f np ls.length:=by
 unfold zya at h;split at h;rename_i f' np ls;split at h;rename_i hc;simp only[gq]at hc;have e:=lH hc.1;subst e;simp only[bV]at h;exact⟨np,ls,rfl,hc.2,h.symm⟩;cases h;cases h
theorem zco [dE]{sf:lI}(Vq:zad g sf)(S:bW P nt B w0 h0 g σ a w):∀{cells:List Cl}{cs:List XC}{ms:List Nat}{vs:List Value},jc sf (lk σ.ay) cells=some (cs,ms)->RL (jw g) cells vs ->
  RL (xcR P g.h w B) cs vs/\vF cs vs=ms.flatMap (kB g (lk σ.ay))/\∀M∈ms,∃o,lk σ.ay M=some o/\Wx o
 | [],cs,ms,[],h,_=>by
  simp only[jc,bV,gJ]at h;obtain⟨rfl,rfl⟩:=h;exact⟨trivial,rfl,λM hM=>by simp at hM⟩
 | [],_,_,_::_,_,hr=>hr.elim
 | _::_,_,_,[],_,hr=>hr.elim
 | c::cells,cs,ms,v::vs,h,hr=>by
  simp only[jc]at h;split at h;rename_i l ms' h1;obtain⟨i1,i2,i3⟩:=zco Vq S h1 hr.2;split at h;rename_i p;simp only[bV,gJ]at h;obtain⟨rfl,rfl⟩:=h;exact⟨⟨hr.1,i1⟩,by simp only[vF,xcK,PT];exact i2,i3⟩;rename_i M;split at h;rename_i e s b n get hM;simp only[bV,gJ]at h;obtain⟨rfl,rfl⟩:=h;obtain⟨hp,hi,hx⟩:=S.obj M _ hM;have hv:v=g.sv M:=hr.1.1;refine⟨⟨⟨hr.1.2,hp,hi,by rw[hv];exact hx⟩,i1⟩,?_,λK hK=>?_⟩;simp only [vF,xcK,oC,i2,hv];rw[show kB g (lk σ.ay) M=(g.sv M).ownBlock.toList by simp only[kB,hM,kO]];rcases kS.1 hK with e|hK
  rw[e];exact⟨_,hM,trivial⟩;exact i3 K hK;cases h;rename_i M;split at h;rename_i kt vt q n F hM;simp only[bV,gJ]at h;obtain⟨rfl,rfl⟩:=h;obtain⟨es,clock,hh,hx⟩:=S.obj M _ hM;have hv:v=.map (some (pM (g.sv M))):=hr.1;refine⟨⟨⟨_,es,clock,hv,hh,hx⟩,i1⟩,?_,λK hK=>?_⟩;simp only [vF,xcK,oC,i2,hv];rw[show kB g (lk σ.ay) M=[pM (g.sv M)]by simp only[kB,hM,kO]];rfl;rcases kS.1 hK with e|hK
  rw[e];exact⟨_,hM,trivial⟩;exact i3 K hK;cases h;split at h;rename_i x hx;simp only[bV,gJ]at h;obtain⟨rfl,rfl⟩:=h;obtain⟨np,ls,e1,e2,rfl⟩:=WA hx;obtain⟨q1,q2,q3⟩:=Vq _ _ _ e1;obtain⟨cv,hv,hcv⟩:=hr.1;refine⟨⟨⟨q1.symm,q2.symm,by rw[q3,qdn],by rw[hv,zcn e2 hcv,<- q1,<- q3];rfl⟩,i1⟩,by simp only[vF,xcK,PT];exact i2,i3⟩;cases h;cases h;cases h
def isB(ob:Nat->Option AO)(L:Nat):Prop:=∃o,ob L=some o/\Wx o
theorem zh9 [dE]{sf:lI}(S:bW P nt B w0 h0 g σ a w)(Vq:zad g sf){d:DV}{x:XA}{ls ms:List Nat}{v:Value}(h:AB sf (lk σ.ay) d=some (x,ls,ms))(hr:rO g d v) :
  zU P g.h w B x v/\VU w x v=ls.flatMap (kB g (lk σ.ay))/\∀L∈ls,isB (lk σ.ay) L:=by
 have data:sS (lk σ.ay) d=some (x,ls,ms)->zU P g.h w B x v/\VU w x v=ls.flatMap (kB g (lk σ.ay))/\∀L∈ls,isB (lk σ.ay) L:=by
  intro h;unfold sS at h;split at h;rename_i y hy;simp only[bV,gJ]at h;obtain⟨rfl,rfl,rfl⟩:=h;exact⟨S.frozen0.repD hy (λ_ h=>h) hr,rfl,λL hL=>by simp at hL⟩;cases h
 unfold AB at h;split at h;rename_i L;split at h;rename_i ty cells hL;split at h;rename_i cs ms' hc;simp only[bV,gJ]at h;obtain⟨rfl,rfl,rfl⟩:=h;obtain⟨C,hC,Vo⟩:=S.obj L _ hL;obtain⟨i1,i2,i3⟩:=zco Vq S hc Vo;have hv:v=.pointer (some ⟨g.bk L,0,none⟩):=hr;subst hv;refine⟨⟨_,C,rfl,hC,i1⟩,?_,λK hK=>?_⟩;simp only [VU,hC,oC,i2];rw[show kB g (lk σ.ay) L=[g.bk L]by simp only[kB,hL,kO]];rfl;rcases kS.1 hK with e|hK
 rw[e];exact⟨_,hL,trivial⟩;exact i3 K hK;cases h;exact data h;exact data h
theorem zcp [dE]{sf:lI}(S:bW P nt B w0 h0 g σ a w)(Vq:zad g sf):∀{ds:List DV}{xs:List XA}{ls ms:List Nat}{vs:List Value},kK sf (lk σ.ay) ds=some (xs,ls,ms)->RL (rO g) ds vs ->
  RL (zU P g.h w B) xs vs/\oh w xs vs=ls.flatMap (kB g (lk σ.ay))/\∀L∈ls,isB (lk σ.ay) L
 | [],xs,ls,ms,[],h,_=>by
  simp only[kK,bV,gJ]at h;obtain⟨rfl,rfl,rfl⟩:=h;exact⟨trivial,rfl,λL hL=>by simp at hL⟩
 | [],_,_,_,_::_,_,hr=>hr.elim
 | _::_,_,_,_,[],_,hr=>hr.elim
 | d::ds,xs,ls,ms,v::vs,h,hr=>by
  simp only[kK]at h;split at h;rename_i x bl m1 xs' bls m2 h1 h2;simp only[bV,gJ]at h;obtain⟨rfl,rfl,rfl⟩:=h;obtain⟨i1,i2,i3⟩:=zh9 S Vq h1 hr.1;obtain⟨j1,j2,j3⟩:=zcp S Vq h2 hr.2;refine⟨⟨i1,j1⟩,by simp only[oh,i2,j2,qdR],λL hL=>?_⟩;rcases dX.1 hL with h|h
  exact i3 L h;exact j3 L h;cases h
theorem Ie(S:bW P nt B w0 h0 g σ a w){ls:List Nat}(hn:ls.Nodup):(ls.flatMap (kB g (lk σ.ay))).Nodup:=by
 refine LM hn (λL _=>?_) λL L' b _ _ h1 h2=>?_;unfold kB;split;exact zh8 L _;exact qjD;unfold kB at h1 h2;split at h1;rename_i o ho;split at h2;rename_i o' lq;exact S.sep L o b L' o' ho lq (SS h1) (SS h2);simp at h2;simp at h1
def cN:List Cl→List Value→List (Nat×Value)|.vec M::cs,v::vs=>(M,v)::cN cs vs|.mo M::cs,v::vs=>(M,v)::cN cs vs|_::cs,_::vs=>cN cs vs|_,_=>[]
def aN(w:World)(ob:Nat->Option AO)(d:DV)(v:Value):List (Nat×Value) :=
 match d,v with
 | .one (.c (.ptr L 0)),.pointer (some a)=>match ob L,w.heap[a.block]? with|some (.box _ cells),some (.cells C _ _)=>cN cells C.toList|_,_=>[]
 | _,_=>[]
def asN(w:World)(ob:Nat→Option AO):List DV→List Value→List (Nat×Value)|d::ds,v::vs=>aN w ob d v++asN w ob ds vs|_,_=>[]
theorem pR{sf:lI}{ob:Nat->Option AO}{L:Nat}:AB sf ob (.one (.c (.ptr L 0)))=match ob L with
  | some (.box ty cells)=>match jc sf ob cells with|some (cs,ms)=>some (.box ty cs,L::ms,ms)|none=>none
  | _=>sS ob (.one (.c (.ptr L 0))):=rfl
section put
variable [dE]{sf:lI}{h':Fz}{w':World}{g':Gh}(hh:g'.h=h')(uh:∀M,g'.bk M=g.bk M)(Vq:zad g' sf)
include hh Vq
theorem DD:∀{cells l:List Cl}{ys cs:List XC}{u:List (Nat×AO)}{ls:List Nat}{vs:List Value},iG cells ys=some (l,u)->jc sf (lk σ.ay) cells=some (cs,ls)->RL (xcR P h' w' B) ys vs->(∀x∈cN cells vs,g'.sv x.1=x.2) ->
  RL (jw g') l vs/\(∀x∈u,Wx x.2/\dW x.2=[]/\OX P g' w' B x.1 x.2)/\vF ys vs=u.flatMap (λx=>kO g' x.1 x.2)/\u.map (·.1)=ls/\(cN cells vs).map (·.1)=ls/\∀M∈l.flatMap bC,M∈cells.flatMap bC
 | [],l,[],cs,u,ls,vs,h,h2,hr,_=>by
  simp only[iG,bV,gJ]at h;obtain⟨rfl,rfl⟩:=h;simp only[jc,bV,gJ]at h2;obtain⟨rfl,rfl⟩:=h2;cases vs with|nil=>exact⟨trivial,λx hx=>by simp at hx,rfl,rfl,rfl,λM hM=>hM⟩|cons=>exact hr.elim
 | c::cells,l,y::ys,cs,u,ls,[],h,h2,hr,_=>hr.elim
 | c::cells,l,y::ys,cs,u,ls,v::vs,h,h2,hr,mG=>by
  unfold iG at h;split at h;rename_i e;simp at e;rename_i p zbR q qG e1 e2;simp only[FV]at e1 e2;obtain⟨rfl,rfl⟩:=e1;obtain⟨rfl,rfl⟩:=e2;split at h;rename_i l1 u1 hp;simp only[bV,gJ]at h;obtain⟨rfl,rfl⟩:=h;simp only[jc]at h2;split at h2;rename_i c1 m1 hc;simp only[bV,gJ]at h2;obtain⟨rfl,rfl⟩:=h2;obtain⟨i1,i2,i3,i4,i5,i6⟩:=DD hp hc hr.2 (λx hx=>mG x hx);refine⟨⟨by have:=hr.1;show Rep g'.h q v;rw[hh];exact this,i1⟩,i2,by simp only[vF,xcK,PT];exact i3,i4,i5,λM hM=>?_⟩;simp only[oC,bC,PT]at hM ⊢;exact i6 M hM;cases h2;cases h;rename_i M zbR e s b n get qG e1 e2;simp only[FV]at e1 e2;obtain⟨rfl,rfl⟩:=e1;obtain⟨rfl,rfl⟩:=e2;split at h;rename_i l1 u1 hp;simp only[bV,gJ]at h;obtain⟨rfl,rfl⟩:=h;simp only[jc]at h2;split at h2;rename_i c1 m1 hc;split at h2;simp only [bV,gJ]at h2;obtain⟨rfl,rfl⟩:=h2;obtain⟨i1,i2,i3,i4,i5,i6⟩:=DD hp hc hr.2 (λx hx=>mG x (jW _ hx));have hv:g'.sv M=v:=mG (M,v) kX;obtain⟨h1,hp1,hi1,hx1⟩:=hr.1;refine⟨⟨⟨hv.symm,h1⟩,i1⟩,λx hx=>?_,?_,by simp[i4],by simp[cN,i5],λK hK=>?_⟩;rcases kS.1 hx with e|hx
  subst e;refine⟨trivial,rfl,hp1,hi1,?_⟩;show AC g'.h w' B e s (g'.sv M) n get;rw[hv,hh];exact hx1;exact i2 x hx;simp only[vF,xcK,oC,kO,hv,i3];simp only [oC,dX]at hK ⊢;exact hK.imp_right (i6 K);cases h2;cases h2;cases h;rename_i M zbR kt vt q n F qG e1 e2;simp only[FV]at e1 e2;obtain⟨rfl,rfl⟩:=e1;obtain⟨rfl,rfl⟩:=e2;split at h;rename_i l1 u1 hp;simp only[bV,gJ]at h;obtain⟨rfl,rfl⟩:=h;simp only[jc]at h2;split at h2;rename_i c1 m1 hc;split at h2;simp only [bV,gJ]at h2;obtain⟨rfl,rfl⟩:=h2;obtain⟨i1,i2,i3,i4,i5,i6⟩:=DD hp hc hr.2 (λx hx=>mG x (jW _ hx));have hv:g'.sv M=v:=mG (M,v) kX;obtain⟨b,es,clock,h1,hh1,hx1⟩:=hr.1;subst h1;have hb:pM (g'.sv M)=b:=by rw[hv];rfl
  refine⟨⟨by show Value.map (some b)=.map (some (pM (g'.sv M)));rw[hb],i1⟩,λx hx=>?_,?_,by simp[i4],by simp[cN,i5],λK hK=>?_⟩;rcases kS.1 hx with e|hx
  subst e;exact⟨trivial,rfl,es,clock,by rw[hb];exact hh1,hx1⟩;exact i2 x hx;simp only[vF,xcK,oC,kO,hb,i3];rfl;simp only [oC,dX]at hK ⊢;exact hK.imp_right (i6 K);cases h2;cases h2;cases h;rename_i f caps zbR f2 np2 n2 qG e1 e2;simp only[FV]at e1 e2;obtain⟨rfl,rfl⟩:=e1;obtain⟨rfl,rfl⟩:=e2;split at h;rename_i l1 u1 hp;simp only[bV,gJ]at h;obtain⟨rfl,rfl⟩:=h;simp only[jc]at h2;split at h2;rename_i c1 m1 hc;split at h2;rename_i x hx;simp only[bV,gJ]at h2;obtain⟨rfl,rfl⟩:=h2;obtain⟨i1,i2,i3,i4,i5,i6⟩:=DD hp hc hr.2 (λx hx=>mG x hx);obtain⟨np,ls,e1,e2,rfl⟩:=WA hx;obtain⟨q1,q2,q3⟩:=Vq _ _ _ e1;obtain⟨_,_,_,hv⟩:=hr.1;refine⟨⟨⟨(ls.map g'.bk).map yB,by rw[hv,<- q1,<- q3];rfl,Wy e2⟩,i1⟩,i2,by simp only[vF,xcK,PT];exact i3,i4,i5,λM hM=>?_⟩;simp only[oC,dX]at hM ⊢;exact hM.imp_right (i6 M);cases h2;cases h2;cases h;cases h
 | [],_,_::_,_,_,_,_,h,_,_,_=>by simp[iG]at h
 | _::_,_,[],_,_,_,_,h,_,_,_=>by simp[iG]at h
include uh
theorem zyv(S:bW P nt B w0 h0 g σ a w){d:DV}{x y:XA}{u:List (Nat×AO)}{ls ms:List Nat}{v:Value}(h:Ja (lk σ.ay) d y=some u)(h2:AB sf (lk σ.ay) d=some (x,ls,ms))(hd:rO g d v)(hr:zU P h' w' B y v)
    (mG:∀x∈aN w' (lk σ.ay) d v,g'.sv x.1=x.2) :
    (∀x∈u,Wx x.2/\(∀M∈dW x.2,∃o',lk σ.ay M=some o')/\OX P g' w' B x.1 x.2)/\VU w' y v=u.flatMap (λx=>kO g' x.1 x.2)/\u.map (·.1)=ls/\(aN w' (lk σ.ay) d v).map (·.1)=ms:=by
  have data:sS (lk σ.ay) d=some (x,ls,ms)->ls=[]/\ms=[]:=by
    intro h;unfold sS at h;split at h;simp only[bV,gJ]at h;exact⟨h.2.1.symm,h.2.2.symm⟩;cases h
  unfold Ja at h;split at h;rename_i L;split at h;rename_i ZC cells hL;rw[pR,hL]at h2;dsimp only at h2;split at h2;rename_i cs ms' hc;simp only[bV,gJ]at h2;obtain⟨rfl,rfl,rfl⟩:=h2;split at h;rename_i ty IZ;split at h;rename_i l u' hty hp;simp only[bV]at h;subst h;have hty:=lH hty;subst hty;obtain⟨k,C,rfl,hC,oz⟩:=hr;have hk:k=g.bk L:=by
    have hd:Value.pointer (some ⟨k,0,none⟩)=.pointer (some ⟨g.bk L,0,none⟩):=hd;simpa using hd
  subst hk;simp only[aN,hL,hC]at mG ⊢;obtain⟨i1,i2,i3,i4,i5,i6⟩:=DD (P:=P) (B:=B) hh Vq hp hc oz mG;refine⟨λx hx=>?_,?_,by simp[i4],i5⟩;rcases kS.1 hx with e|hx
  subst e;refine⟨trivial,λM hM=>S.clO L _ hL M (i6 M hM),C,?_,i1⟩;show w'.heap[g'.bk L]? = _;rw[uh];exact hC;obtain⟨j1,j2,j3⟩:=i2 x hx;exact⟨j1,λM hM=>by rw[j2]at hM;simp at hM,j3⟩;simp only[VU,hC,oC,kO,uh,i3];rfl;cases h;cases h;cases h2;rename_i wO;have hx:sS (lk σ.ay) (.one (.c (.ptr L 0)))=some (x,ls,ms):=by
    rw[pR]at h2;cases hL:lk σ.ay L with
    | none=>rw[hL]at h2;exact h2
    | some o =>
      rw[hL]at h2;cases o with|box ty cells=>exact absurd hL (wO _ _)|_=>exact h2
  obtain⟨rfl,rfl⟩:=data hx;split at h;simp only [bV]at h;subst h;refine⟨λx hx=>by simp at hx,rfl,rfl,?_⟩;have e:aN w' (lk σ.ay) (.one (.c (.ptr L 0))) v=[]:=by
    cases v with
    | pointer p=>cases p with
      | none=>rfl
      | some ad =>
        simp only[aN];cases hL:lk σ.ay L with
        | none=>rfl
        | some o =>
          cases o with|box ty cells=>exact(wO _ _ hL).elim|_=>rfl
    | _=>rfl
  rw[e];rfl;cases h;rename_i wO;have hx:sS (lk σ.ay) d=some (x,ls,ms):=by
    unfold AB at h2;split at h2;exact(wO _ rfl).elim;exact h2
  obtain⟨rfl,rfl⟩:=data hx;split at h;simp only [bV]at h;subst h;refine⟨λx hx=>by simp at hx,rfl,rfl,?_⟩;have e:aN w' (lk σ.ay) d v=[]:=by
    unfold aN;split;exact(wO _ rfl).elim;rfl
  rw[e];rfl;cases h
theorem zcq(S:bW P nt B w0 h0 g σ a w):∀{ds:List DV}{xs ys:List XA}{u:List (Nat×AO)}{ls ms:List Nat}{vs:List Value},kw (lk σ.ay) ds ys=some u->kK sf (lk σ.ay) ds=some (xs,ls,ms)->RL (rO g) ds vs->RL (zU P h' w' B) ys vs ->
  (∀x∈asN w' (lk σ.ay) ds vs,g'.sv x.1=x.2) ->
  (∀x∈u,Wx x.2/\(∀M∈dW x.2,∃o',lk σ.ay M=some o')/\OX P g' w' B x.1 x.2)/\oh w' ys vs=u.flatMap (λx=>kO g' x.1 x.2)/\u.map (·.1)=ls/\(asN w' (lk σ.ay) ds vs).map (·.1)=ms
 | [],xs,[],u,ls,ms,vs,h,h2,hd,hr,_=>by
  simp only[kw,bV]at h;subst h;simp only[kK,bV,gJ]at h2;obtain⟨rfl,rfl,rfl⟩:=h2;cases vs with|nil=>exact⟨λx hx=>by simp at hx,rfl,rfl,rfl⟩|cons=>exact hr.elim
 | d::ds,xs,y::ys,u,ls,ms,[],h,h2,hd,hr,_=>hr.elim
 | d::ds,xs,y::ys,u,ls,ms,v::vs,h,h2,hd,hr,mG=>by
  simp only[kw]at h;split at h;rename_i u1 u2 e1 e2;simp only[bV]at h;subst h;simp only[kK]at h2;split at h2;rename_i x bl m1 xs' bls m2 h3 h4;simp only[bV,gJ]at h2;obtain⟨rfl,rfl,rfl⟩:=h2;obtain⟨i1,i2,i3,i4⟩:=zcq S e2 h4 hd.2 hr.2 (λx hx=>mG x (dX.2 (.inr hx)));obtain⟨j1,j2,j3,j4⟩:=zyv hh uh Vq S e1 h3 hd.1 hr.1 (λx hx=>mG x (dX.2 (.inl hx)));exact⟨λx hx=>(dX.1 hx).elim (j1 x) (i1 x),by simp only[oh,i2,j2,qdR],by simp[i3,j3],by simp[asN,i4,j4]⟩;cases h2;cases h
 | [],_,_::_,_,_,_,_,h,_,_,_,_=>by simp[kw]at h
 | _::_,_,[],_,_,_,_,h,_,_,_,_=>by simp[kw]at h
end put
theorem Gl {α : Type} : ∀ {l : List (Nat × α)} {k : Nat} {x : α}, (l.map (·.1)).Nodup → (k, x) ∈ l → lk l k = some x
  | [],_,_,_,h=>by simp at h
  | (j,y)::l,k,x,hn,h=>by
    rw[nX,qdu]at hn;rw[aX];rcases kS.1 h with e|h'
    simp only[gJ]at e;rw[eY e.1.symm,e.2];rw [fH (fun e=>hn.1 (by rw [e];exact uV.2 ⟨_,h',rfl⟩))];exact Gl hn.2 h'
theorem zV{α:Type}{l:List (Nat×α)}{k:Nat}(h:k∈l.map (·.1)):∃x,lk l k=some x:=by
 cases hk:lk l k with
 | some x=>exact⟨x,rfl⟩
 | none =>
  obtain⟨⟨j,x⟩,hx,rfl⟩:=uV.1 h;exact(SG hk x hx).elim
theorem zia{sf:lI}{ob:Nat->Option AO}{d:DV}{x:XA}{ls ms:List Nat}(h:AB sf ob d=some (x,ls,ms)):∀M∈ms,M∈ls:=by
 have data:sS ob d=some (x,ls,ms)->∀M∈ms,M∈ls:=by
  intro h;unfold sS at h;split at h;simp only[bV,gJ]at h;rw[<- h.2.2];exact λM hM=>by simp at hM
  cases h
 unfold AB at h;split at h;split at h;split at h;simp only[bV,gJ]at h;rw[<- h.2.1,<- h.2.2];exact λM hM=>jW _ hM;cases h;exact data h;exact data h
theorem Qr{sf:lI}{ob:Nat→Option AO}:∀{ds:List DV}{xs:List XA}{ls ms:List Nat},kK sf ob ds=some (xs,ls,ms)→∀M∈ms,M∈ls
  | [],xs,ls,ms,h=>by
    simp only[kK,bV,gJ]at h;rw[<- h.2.2];exact λM hM=>by simp at hM
  | d::ds,xs,ls,ms,h=>by
    simp only[kK]at h;split at h;rename_i x bl m1 xs' bls m2 h1 h2;simp only[bV,gJ]at h;obtain⟨rfl,rfl,rfl⟩:=h;intro M hM;exact dX.2 ((dX.1 hM).imp (zia h1 M) (Qr h2 M));cases h
theorem BF(x:Cl):gz [] x=x:=by cases x<;>rfl
theorem Ig(x:D1):fZ [] x=x:=by
 cases x with|c y=>simp only[fZ,BF]|agg cs=>simp only[fZ,show gz []=id from funext BF,qjv]
theorem zae(x:DV):gY [] x=x:=by
 cases x with|one y=>simp only[gY,Ig]|tup ds=>simp only[gY,show fZ []=id from funext Ig,qjv]
theorem zaf(x:AO):fE [] x=x:=by
 cases x with|box ty cs=>simp only[fE,show gz []=id from funext BF,qjv]|_=>rfl
theorem LP{α:Type}{f:α→α}(hf:∀x,f x=x):∀l:List (Nat×α),kills f l=l|[]=>rfl|(k,x)::l=>by simp only[kills,hf x,LP hf l]
theorem SV{dst:Option Nat}{fp:List (Nat×Bool)}{d:DV}{u:List (Nat×AO)}{ms:List Nat} :
  σ.upd i dst fp d u ms=⟨ZX dst d (kills (gY ms) σ.env),u++kills (fE ms) σ.ay,σ.log⟩:=by
 cases ms with|nil=>rw[gu,LP zae,LP zaf]|cons L r=>cases dst<;>rfl
theorem zcr [dE] {sf : lI} {ob : Nat → Option AO} {h' : Fz} {w' : World} : ∀ {cells : List Cl} {l : List Cl} {ys cs : List XC} {u : List (Nat × AO)} {ms : List Nat} {vs : List Value}, iG cells ys = some (l, u) → jc sf ob cells = some (cs, ms) → RL (xcR P h' w' B) ys vs → (cN cells vs).map (·.1) = ms
  | [],l,ys,cs,u,ms,vs,h,h2,hr=>by
    simp only[jc,bV,gJ]at h2;rw[<- h2.2];cases vs<;>rfl
  | c::cells,l,[],cs,u,ms,vs,h,h2,hr=>by simp[iG]at h
  | c::cells,l,y::ys,cs,u,ms,[],h,h2,hr=>hr.elim
  | c::cells,l,y::ys,cs,u,ms,v::vs,h,h2,hr=>by
    have hx:∃l1 u1,iG cells ys=some (l1,u1):=by
      unfold iG at h;split at h;rename_i e;simp at e;rename_i e1 e2;simp only[FV]at e1 e2;obtain⟨rfl,rfl⟩:=e1;obtain⟨rfl,rfl⟩:=e2;split at h;rename_i hp;exact⟨_,_,hp⟩;cases h;rename_i e1 e2;simp only[FV]at e1 e2;obtain⟨rfl,rfl⟩:=e1;obtain⟨rfl,rfl⟩:=e2;split at h;rename_i hp;exact⟨_,_,hp⟩;cases h;rename_i e1 e2;simp only[FV]at e1 e2;obtain⟨rfl,rfl⟩:=e1;obtain⟨rfl,rfl⟩:=e2;split at h;rename_i hp;exact⟨_,_,hp⟩;cases h;rename_i e1 e2;simp only[FV]at e1 e2;obtain⟨rfl,rfl⟩:=e1;obtain⟨rfl,rfl⟩:=e2;split at h;rename_i hp;exact⟨_,_,hp⟩;cases h;cases h
    obtain⟨l1,u1,hp⟩:=hx;simp only[jc]at h2;split at h2;rename_i c1 m1 hc;have ih:=zcr hp hc hr.2;split at h2;simp only[bV,gJ]at h2;rw[<- h2.2];exact ih;split at h2;simp only[bV,gJ]at h2;rw[<- h2.2];simp only[cN,nX,ih];cases h2;split at h2;simp only[bV,gJ]at h2;rw[<- h2.2];simp only[cN,nX,ih];cases h2;split at h2;simp only[bV,gJ]at h2;rw[<- h2.2];exact ih;cases h2;cases h2;cases h2
theorem zoL [dE]{sf:lI}{ob:Nat->Option AO}{h':Fz}{w':World}{d:DV}{x y:XA}{u:List (Nat×AO)}{ls ms:List Nat}{v:Value}(h:Ja ob d y=some u)(h2:AB sf ob d=some (x,ls,ms))(hr:zU P h' w' B y v):(aN w' ob d v).map (·.1)=ms:=by
 have data:sS ob d=some (x,ls,ms)->ms=[]:=by
  intro h;unfold sS at h;split at h;simp only[bV,gJ]at h;exact h.2.2.symm;cases h
 unfold Ja at h;split at h;rename_i L;split at h;rename_i ZC cells hL;rw[pR,hL]at h2;dsimp only at h2;split at h2;rename_i cs ms' hc;simp only[bV,gJ]at h2;obtain⟨rfl,rfl,rfl⟩:=h2;split at h;split at h;rename_i l u' hty hp;obtain⟨k,C,rfl,hC,oz⟩:=hr;simp only[aN,hL,hC];exact zcr hp hc oz;cases h;cases h;cases h2;rename_i wO;have hx:sS ob (.one (.c (.ptr L 0)))=some (x,ls,ms):=by
  rw[pR]at h2;cases hL:ob L with
  | none=>rw[hL]at h2;exact h2
  | some o =>
   rw[hL]at h2;cases o with|box ty cells=>exact absurd hL (wO _ _)|_=>exact h2
 rw[data hx];have e:aN w' ob (.one (.c (.ptr L 0))) v=[]:=by
  cases v with
  | pointer p=>cases p with
   | none=>rfl
   | some ad =>
    simp only[aN];cases hL:ob L with
    | none=>rfl
    | some o =>
     cases o with|box ty cells=>exact absurd hL (wO _ _)|_=>rfl
  | _=>rfl
 rw[e];rfl;rename_i wO;have hx:sS ob d=some (x,ls,ms):=by
  unfold AB at h2;split at h2;exact(wO _ rfl).elim;exact h2
 rw[data hx];have e:aN w' ob d v=[]:=by
  unfold aN;split;exact(wO _ rfl).elim;rfl
 rw[e];rfl
theorem WB [dE] {sf : lI} {ob : Nat → Option AO} {h' : Fz} {w' : World} : ∀ {ds : List DV} {xs ys : List XA} {u : List (Nat × AO)} {ls ms : List Nat} {vs : List Value}, kw ob ds ys = some u → kK sf ob ds = some (xs, ls, ms) → RL (zU P h' w' B) ys vs → (asN w' ob ds vs).map (·.1) = ms
  | [],xs,ys,u,ls,ms,vs,h,h2,hr=>by
    simp only[kK,bV,gJ]at h2;rw[<- h2.2.2];cases vs<;>rfl
  | d::ds,xs,[],u,ls,ms,vs,h,h2,hr=>by simp[kw]at h
  | d::ds,xs,y::ys,u,ls,ms,[],h,h2,hr=>hr.elim
  | d::ds,xs,y::ys,u,ls,ms,v::vs,h,h2,hr=>by
    simp only[kw]at h;split at h;rename_i u1 u2 e1 e2;simp only[kK]at h2;split at h2;rename_i x bl m1 xs' bls m2 h3 h4;simp only[bV,gJ]at h2;rw[<- h2.2.2];simp only[asN,PU,zoL e1 h3 hr.1,WB e2 h4 hr.2];cases h2;cases h
theorem zcs:∀{caps:List uj}{ls:List Nat}{cv:List Value},VN caps=some ls→RL (Jc g) caps cv→∀(k L:Nat),ls[k]? = some L→cv[k]? = some (yB (g.bk L))
  | [],ls,cv,h,hr,k,L,hk=>by simp only[VN,bV]at h;subst h;simp at hk
  | .v _::_,ls,cv,h,hr,k,L,hk=>by cases h
  | .b M::caps,ls,[],h,hr,k,L,hk=>hr.elim
  | .b M::caps,ls,v::cv,h,hr,k,L,hk=>by
    simp only[VN]at h;split at h
    · rename_i l hl;simp only[bV]at h;subst h;cases k with
      | zero =>
        simp only[qdE,bV]at hk ⊢;subst hk;exact hr.1
      | succ k =>
        rw[ZH]at hk ⊢;exact zcs hl hr.2 k L hk
    cases h
theorem zib{gf np:Nat}{caps:List uj}{cv pre:List Value}(hr:RL (Jc g) caps cv)(hp:pre.length=np):∀f np' ls,zen gf np caps=some (f,np',ls)->∀(k L:Nat),ls[k]? = some L->(pre++cv)[np'+k]? = some (yB (g.bk L)):=by
 intro f np' ls h k L hk;unfold zen at h;split at h;rename_i l hl;simp only[bV,gJ]at h;obtain⟨rfl,rfl,rfl⟩:=h;rw[List.getElem?_append_right omY,show np+k-pre.length=k by omega];exact zcs hl hr k L hk;cases h
theorem Qs:∀{cells l:List Cl}{ys:List XC}{u:List (Nat×AO)},iG cells ys=some (l,u)→l.length=cells.length∧(∀x∈u,lJ x.2=false)∧∀f caps,l=[.clo f caps]→cells=[.clo f caps]
  | [],l,ys,u,h=>by
    cases ys with
    | nil =>
      simp only[iG,bV,gJ]at h;obtain⟨rfl,rfl⟩:=h;exact⟨rfl,λx hx=>by simp at hx,λf caps e=>by cases e⟩
    | cons y ys=>simp[iG]at h
  | c::cells,l,ys,u,h=>by
    cases ys with
    | nil=>cases c<;>simp[iG]at h
    | cons y ys =>
      have ih:=λl' u' h'=>@Qs cells l' ys u' h'
      have vc:∀(M:Nat)(o:AO)(l':List Cl)(u':List (Nat×AO))(c':Cl),lJ o=false->(∀f caps,c' ≠ .clo f caps)->iG cells ys=some (l',u') ->
          (c'::l').length=(c::cells).length/\(∀x∈(M,o)::u',lJ x.2=false)/\∀f caps,c'::l'=[.clo f caps]->c::cells=[.clo f caps]:=λM o l' u' c' ho hc h'=>by
        obtain⟨i1,i2,i3⟩:=ih l' u' h';refine⟨by simp[i1],λx hx=>?_,λf caps e=>(hc f caps (List.cons.inj e).1).elim⟩;rcases kS.1 hx with rfl|hx
        exact ho;exact i2 x hx
      cases c with
      | p v =>
        cases y with
        | p v' =>
          simp only[iG]at h;split at h;rename_i l' u' h';simp only[bV,gJ]at h;obtain⟨rfl,rfl⟩:=h;obtain⟨i1,i2,i3⟩:=ih l' u' h';exact⟨by simp[i1],i2,λf caps e=>by cases e⟩;cases h
        | _=>simp[iG]at h
      | vec M =>
        cases y with
        | vec e s b n get =>
          simp only[iG]at h;split at h;rename_i l' u' h';simp only[bV,gJ]at h;obtain⟨rfl,rfl⟩:=h;exact vc M _ l' u' _ rfl (λ_ _ e=>by cases e) h';cases h
        | _=>simp[iG]at h
      | mo M =>
        cases y with
        | mo kt vt q n F =>
          simp only[iG]at h;split at h;rename_i l' u' h';simp only[bV,gJ]at h;obtain⟨rfl,rfl⟩:=h;exact vc M _ l' u' _ rfl (λ_ _ e=>by cases e) h';cases h
        | _=>simp[iG]at h
      | clo f0 z1K =>
        cases y with
        | slf f2 np2 n2 =>
          simp only[iG]at h;split at h;rename_i l' u' h';simp only[bV,gJ]at h;obtain⟨rfl,rfl⟩:=h;obtain⟨i1,i2,i3⟩:=ih l' u' h';refine⟨by simp[i1],i2,λf caps e=>?_⟩;obtain⟨e3,e4⟩:=List.cons.inj e;subst e4;rw[e3,qdC i1.symm];cases h
        | _=>simp[iG]at h
      | _=>cases y<;>simp[iG]at h
theorem Qu{ob:Nat→Option AO}:∀{ds:List DV}{ys:List XA}{u:List (Nat×AO)},kw ob ds ys=some u→∀x∈u,lJ x.2=true→ob x.1=some x.2
  | [],[],u,h=>by simp only[kw,bV]at h;subst h;intro x hx;simp at hx
  | [],_::_,_,h=>by simp[kw]at h
  | _::_,[],_,h=>by simp[kw]at h
  | d::ds,y::ys,u,h=>by
    simp only[kw]at h;split at h;rename_i u1 u2 e1 e2;simp only[bV]at h;subst h;intro x hx hc;rcases dX.1 hx with hx|hx
    unfold Ja at e1;split at e1;split at e1;rename_i L ZC cells hL;split at e1;rename_i ty cs;split at e1;rename_i l u' hty PP;simp only[bV]at e1;subst e1;obtain⟨_,h1,h2⟩:=Qs PP;rcases kS.1 hx with rfl|hx
    have ht:=lH hty;subst ht;unfold lJ at hc;split at hc;rename_i ty2 f caps e3;simp only[AO.box.injEq]at e3;obtain⟨rfl,rfl⟩:=e3;rw[hL,h2 f caps rfl];cases hc;rw[h1 x hx]at hc;cases hc;cases e1;cases e1;split at e1;simp only[bV]at e1;subst e1;simp at hx;cases e1;split at e1;simp only[bV]at e1;subst e1;simp at hx;cases e1;exact Qu e2 x hx hc;cases h
theorem zeN{ms:List Nat}{o:AO}(h:lJ o=true):fE ms o=o:=by
 unfold lJ at h;split at h;rfl;cases h
theorem zid{α:Type}{f:α->α}{l:List (Nat×α)}{n:Nat}:lk (kills f l) n=(lk l n).map f:=by
 induction l with
 | nil=>rfl
 | cons x l ih =>
  obtain⟨k,a⟩:=x;rw[kills,aX,aX,ih];split<;>rfl
theorem Qv : ∀ {u rest : List (Nat × AO)}, (u.map (·.1)).Nodup → (∀ x ∈ u, lJ x.2 = true → lk rest x.1 = some x.2) → ∀ L : Nat, lk ((u.filter fun x => !lJ x.2) ++ rest) L = lk (u ++ rest) L
  | [],_,_,_,_=>rfl
  | (k,o)::u,rest,hn,h,L=>by
    rw[nX,qdu]at hn;have ih:=Qv hn.2 (λy hy=>h y (jW _ hy)) L;cases hc:lJ o with
    | false =>
      rw[List.filter_cons_of_pos (by simp[hc]),qdT,qdT,aX,aX,ih]
    | true =>
      rw[List.filter_cons_of_neg (by simp[hc]),qdT,aX,ih];split
      · rename_i e;subst e;have h0:=h (k,o) kX hc;rw[iC];cases hu:lk u k with|none=>exact h0|some o2=>exact(hn.1 (uV.2 ⟨_,fO hu,rfl⟩)).elim
      rfl
theorem bW.objs_congr(S:bW P nt B w0 h0 g σ a w){l:List (Nat×AO)}(h:∀L,lk l L=lk σ.ay L):bW P nt B w0 h0 g {σ with ay:=l} a w :=
 ⟨S.dfr,S.size,S.env,λL o ho=>S.obj L o (by rw[<- h];exact ho),λL o b ho=>S.own L o b (by rw[<- h];exact ho),
  λL o b L' o' ho lq=>S.sep L o b L' o' (by rw[<- h];exact ho) (by rw[<- h];exact lq),S.hw,S.le0,S.hn,S.below,S.bs,
  λt d ht L hL=>by rw[h];exact S.clE t d ht L hL,λL o ho M hM=>by rw[h];exact S.clO L o (by rw[<- h];exact ho) M hM⟩
theorem WC{sf:lI}{gf:FuncId}{C:MK}{ds:List DV}{vals:List Value}(HY:jF P Γ)(S:bW P nt B w0 h0 g σ a w)
    (hC:Γ.mt gf=some C) (PR:RL (rO g) ds vals)
    (kR:∀f np ls,sf=some (f,np,ls)->∀(k L:Nat),ls[k]? = some L->vals[np+k]? = some (yB (g.bk L)))
    {xs ys:List XA} {ls ms:List Nat} {rs:List PA} {u:List (Nat×AO)} (has:kK sf (lk σ.ay) ds=some (xs,ls,ms)) (hCx:(C xs).o=some (rs,ys)) (PP:kw (lk σ.ay) ds ys=some u)
    (dw:(mQ ls&&Nat.ble ms.length 1&&ms.all λM=>((u.filter λx=>!lJ x.2).map (·.1)).contains M)=true) (d:Option Nat) :
    dA P gf/\Calls P gf vals.toArray w λe w'=>∃g',SA g'.h rs e/\bW P nt B w0 h0 g' ⟨kills (gY ms) σ.env,u.filter (λx=>!lJ x.2)++kills (fE ms) σ.ay,σ.log⟩ a w':=by
  letI:dE:=match sf with|some (f,np,ls)=>⟨f,np,ls.map g.bk⟩|none=>⟨0,0,[]⟩
  have Vq:zad g sf:=λf np ls e=>by subst e;exact⟨rfl,rfl,rfl⟩
  have mG:∀k b,(dE.bs)[k]? = some b->vals[dE.np+k]? = some (yB b):=by
    cases sf with
    | none=>intro k b hk;have hk:([]:List Nat)[k]? = some b:=hk;simp at hk
    | some y =>
      obtain⟨f,np,ls⟩:=y;intro k b hk;have hk:(ls.map g.bk)[k]? = some b:=hk;rw[qdd]at hk;obtain⟨L,hL,rfl⟩:=Zw.1 hk;exact kR f np ls rfl k L hL
  have znl:=dw;simp only[gq,Vs]at znl;have dw:=znl.1;obtain⟨x1,x2,x3⟩:=zcp S Vq has PR;have hkb:∀b∈oh w xs vals,∃L∈ls,∃o',lk σ.ay L=some o'/\iy g L o' b:=λb hb=>by
    rw[x2]at hb;obtain⟨L,hL,hb⟩:=lU.1 hb;unfold kB at hb;split at hb;rename_i o' lq;exact⟨L,hL,o',lq,SS hb⟩;simp at hb
  obtain⟨fQ,wY⟩:=HY.mt gf C hC xs ys rs hCx w g.h B vals x1 mG (by rw[x2];exact Ie S (ni dw.1)) (λb hb=>by
    obtain⟨L,_,o',h1,h2⟩:=hkb b hb;exact S.own L o' b h1 h2) S.hw S.bs
  refine⟨fQ,wY.mono ?_⟩;rintro e w' ⟨h',qg,Zv,zNX,jv,hle,IX,hn',hX⟩;let nv:=asN w' (lk σ.ay) ds vals;let g':Gh:=⟨h',g.bk,λM=>match lk nv M with|some x=>x|none=>g.sv M,g.iv⟩;have zRM:ms.Nodup:=by
    match ms,dw.2 with|[],_=>exact qjD|[x],_=>simp|_::_::_,h=>simp at h
  have RG:nv.map (·.1)=ms:=WB PP has Zv;obtain⟨p1,p2,p3,p4⟩:=zcq (P:=P) (B:=B) (g:=g) (h':=h') (w':=w') (g':=g') rfl (λ_=>rfl) (λf np ls e=>Vq f np ls e) S PP has PR Zv (λx hx=>by
    have:=Gl (l:=nv) (by rw[RG];exact zRM) (show(x.1,x.2)∈nv from hx);show(match lk nv x.1 with|some x=>x|none=>g.sv x.1)=x.2;rw[this])
  have hul:∀L∈ls,∃o',lk u L=some o':=λL hL=>zV (by rw[p3];exact hL);have S1:=S.swap (u:=u) (kl:=ms) (K:=oh w xs vals) (g':=g') hle IX (λ_=>rfl) (λM hM=>⟨rfl,by
      show(match lk nv M with|some x=>x|none=>g.sv M)=g.sv M;cases hk:lk nv M with|none=>rfl|some x=>exact(hM (by rw[<- RG];exact uV.2 ⟨_,fO hk,rfl⟩)).elim,rfl⟩)
    (λL hL=>by obtain⟨x,hx⟩:=hul L (Qr has L hL);rw[hx];simp) hX
    (λb hb=>by obtain⟨L,hL,o',h1,h2⟩:=hkb b hb;obtain⟨x,hx⟩:=hul L hL;exact⟨L,x,o',hx,h1,h2⟩)
    (λL x hx=>(p1 _ (fO hx)).2.2)
    (λL x b hx hb=>jv b (by rw[p2];exact lU.2 ⟨_,fO hx,Gi (p1 _ (fO hx)).1 hb⟩))
    (λL x b L' x' hx yK hb mJ=>by
      rw[p2]at zNX;have:=Gj zNX (L,x) (L',x') b (fO hx) (fO yK) (Gi (p1 _ (fO hx)).1 hb) (Gi (p1 _ (fO yK)).1 mJ);exact jX Prod.fst this)
    (λL x hx=>(p1 _ (fO hx)).2.1) (λb o h=>hn' b o h) σ.log
  refine⟨g',qg,S1.objs_congr λL=>Qv (by rw[p3];exact ni dw.1) (λx hx hc=>?_) L⟩;rw[zid,Qu PP x hx hc];exact jX some (zeN hc)
theorem zct{sf:lI}{o:Oper}{A:aH}{gf:FuncId}{C:MK}{ds:List DV}{vals:List Value}(HY:jF P Γ)(S:bW P nt B w0 h0 g σ a w)(hd:dI nt o.dst=true)(zN:∀c,o.op ≠ .defer c)
    (hC:Γ.mt gf=some C) (dh:dA P gf->(execOp a.eval o).run P w=.ok (.enter gf vals.toArray) w) (PR:RL (rO g) ds vals)
    (kR:∀f np ls,sf=some (f,np,ls)->∀(k L:Nat),ls[k]? = some L->vals[np+k]? = some (yB (g.bk L)))
    (hA:um C sf ds (lk σ.ay)=A) (hs:A.safe):jD P nt B w0 h0 r n i o A σ a w Q:=by
  unfold um at hA;split at hA;rename_i xs ls ms has;split at hA;rename_i rs ys hCx;split at hA;rename_i hpm;unfold qJ at hA;split at hA;rename_i u PP;split at hA;rename_i dw;subst hA;obtain⟨fQ,wY⟩:=WC HY S hC PR kR has hCx PP dw none;refine rQ zN (w':=w) (f:=gf) (args:=vals.toArray) (dh fQ) (wY.mono ?_);rintro e w' ⟨g',qg,S1⟩;unfold SA at qg;rw[hpm]at qg;obtain⟨v,rfl,o8⟩:=qg;refine⟨v,rfl,g',_,rfl,?_⟩;rw[SV];exact S1.put (v:=v) (d:=resD rs) hd (SQ (g:=g') o8) (λL hL=>by rw[Dy]at hL;simp at hL) σ.log;subst hA;exact hs.elim;subst hA;exact hs.elim;subst hA;exact hs.elim;subst hA;exact hs.elim;subst hA;exact hs.elim
end
end Go.Pm
namespace Go.Pm
variable [aC]
open Go.RowKit (Below)
section
variable{P:Program}{Γ:bK}{nt B:Nat}{w0:World}{h0:Fz}{g:Gh}{σ:St}{a:Act}{w:World}{r:Option Nat}{n i:Nat}{Q:Exit->Act->World->Prop}
def zoM(d:DV):List Cl:=match d with | .one (.c c)=>[c]|_=>[.junk]
theorem DF (S : bW P nt B w0 h0 g σ a w) : ∀ (l : List Operand), RL (jw g) (l.flatMap fun x => zoM (fV σ.env x)) (l.map a.eval)
  | []=>trivial
  | x::r=>by
    have h:=S.ev x;simp only[oC,nX];unfold zoM;cases he:fV σ.env x with
    | one d =>
      cases d with|c c=>rw[he]at h;exact⟨h,DF S r⟩|agg cs=>exact⟨trivial,DF S r⟩
    | tup ds=>exact⟨trivial,DF S r⟩
theorem LQ{h:Fz}{l:List PV}{vs:List Value}(hr:RL (Rep h) l vs):l.length=vs.length/\∀(j:Nat)(x:PV)(v:Value),l[j]? = some x->vs[j]? = some v->Rep h x v :=
 ⟨hr.length,λj x v hx hv=>by obtain⟨u,hu,Zn⟩:=hr.get j x hx;rw[hu]at hv;simp only[bV]at hv;rw[<- hv];exact Zn⟩
theorem zcu(S:bW P nt B w0 h0 g σ a w):∀(l:List Operand){cs:List uj},Dl (fV σ.env) l=some cs→RL (Jc g) cs (l.map a.eval)∧∀L∈lV cs,∃o,lk σ.ay L=some o
  | [],cs,h=>by simp only[Dl,bV]at h;subst h;exact⟨trivial,λL hL=>by simp[lV]at hL⟩
  | x::l,cs,h=>by
    simp only[Dl]at h;split at h;rename_i c IZ hc hl;simp only[bV]at h;subst h;obtain⟨i1,i2⟩:=zcu S l hl;have hx:=S.ev x;have hxl:=S.evLab x;unfold zGK at hc;split at hc;rename_i v he;simp only[bV]at hc;subst hc;rw[he]at hx;exact⟨⟨hx,i1⟩,i2⟩;rename_i L he;simp only[bV]at hc;subst hc;rw[he]at hx hxl;refine⟨⟨hx,i1⟩,λM hM=>?_⟩;simp only[lV,kS]at hM;rcases hM with rfl|hM
    exact hxl M (by simp[cO,dD,bC]);exact i2 M hM;cases hc;cases h
theorem SX:∀{cs:List uj}{vs:List Value},RL (Jc g) cs vs→RL (rO g) (cs.map capD) vs|[],[],_=>trivial|[],_::_,h=>h.elim|_::_,[],h=>h.elim|.v _::_,_::_,h=>⟨h.1,SX h.2⟩|.b _::_,_::_,h=>⟨h.1,SX h.2⟩
theorem zeO{ev:Operand->DV}{fs ls:List Operand}{l:List PV}(h:PY ev fs ls=some l):∃x cs,fs=[x]/\ls=[]/\ev x=.one (.agg cs)/\kJ cs=some l:=by
 unfold PY at h;split at h;rename_i x;split at h;rename_i cs hx;exact⟨x,cs,rfl,rfl,hx,h⟩;cases h;cases h
theorem SY{o:Oper}{f:FuncId}{first caps:Array Operand}{A:aH}(S:bW P nt B w0 h0 g σ a w)(hd:dI nt o.dst=true)(aZ:o.op = .makeFunc (.func f) first caps)
    (hA:act P Γ o (fV σ.env) (lk σ.ay)=A) (hs:A.safe):jD P nt B w0 h0 r n i o A σ a w Q:=by
  simp only[act,aMf,aZ]at hA;have e:∀l:Array Operand,l.map a.eval=(l.toList.map a.eval).toArray:=λl=>by cases l;simp
  split at hA;split at hA;rename_i cs hf hc;subst hA;obtain⟨i1,i2⟩:=zcu S caps.toList hc;refine qp (by simp[aZ]) (v:=.func (.func f) #[] (caps.toList.map a.eval).toArray) (w':=w) ?_ ⟨g,_,rfl,?_⟩;simp only[execOp,aZ,Instr.makeFunc,Sem.run_bind,Sem.run_pure,Result.andThen_ok,e,hf,qdY];rw [gu];exact S.put (d:=.cl (.clo f cs)) hd ⟨_,rfl,i1⟩ (λL hL=>i2 L (by simpa [cO,dD,bC]using hL)) _;subst hA;exact hs.elim;split at hA;rename_i l hb;subst hA;obtain⟨x,cs,e1,e2,hx,hl⟩:=zeO hb;have h1:=S.ev x;rw[hx]at h1;obtain⟨vs,hv,hr⟩:=h1;rw[oO hl]at hr;have hr:RL (λ(x:PV) y=>jw g (.p x) y) l vs:=RL.map_left.1 hr;have hr:RL (Rep g.h) l vs:=hr.mono λ_ _ h=>h;have r1:=LQ hr;refine qp (by simp[aZ]) (v:=.func (.func f) #[.agg vs.toArray] #[]) (w':=w) ?_ ⟨g,_,rfl,?_⟩;simp only[execOp,aZ,Instr.makeFunc,Sem.run_bind,Sem.run_pure,Result.andThen_ok,e,e1,e2,nX,qdY,hv];rw [gu];exact S.put (d:=.p (.fna f l)) hd (Rep.fna f l vs r1.1 r1.2) (kU _) _;split at hA;rename_i l u l' u' h1 h2;subst hA;have h1:uk (lk σ.ay) (first.toList.flatMap λx=>zoM (fV σ.env x))=some (l,u):=h1;have h2:uk (lk σ.ay) (caps.toList.flatMap λx=>zoM (fV σ.env x))=some (l',u'):=h2;obtain⟨h',S1,F⟩:=S.freeze ((Ju h1).append (Ju h2));have r1:=LQ (F.repL h1 (λy hy=>dX.2 (.inl hy)) (DF S first.toList));have r2:=LQ (F.repL h2 (λy hy=>dX.2 (.inr hy)) (DF S caps.toList));have hv:Rep h' (.fn f l l') (.func (.func f) (first.toList.map a.eval).toArray (caps.toList.map a.eval).toArray):=.fn f l l' _ _ r1.1 r2.1 r1.2 r2.2;refine qp (by simp[aZ]) (v:=.func (.func f) (first.toList.map a.eval).toArray (caps.toList.map a.eval).toArray) (w':=w) ?_ ⟨⟨h',g.bk,g.sv,g.iv⟩,_,rfl,?_⟩;simp only[execOp,aZ,Instr.makeFunc,Sem.run_bind,Sem.run_pure,Result.andThen_ok,e];rw [gu];exact S1.put (d:=.p (.fn f l l')) hd hv (λL hL=>by simp[cO,dD,bC]at hL) _;subst hA;exact hs.elim
theorem JB{h h':Fz}{p:PV}{v:Value}(hs:jV p=true)(hr:Rep h' p v):Rep h p v:=by
 cases hr with|bool b=>exact .bool b|int k n=>exact .int k n|_=>cases hs
theorem DI{h h':Fz}:∀{l:List PV}{vs:List Value},l.all jV=true→RL (Rep h') l vs→RL (Rep h) l vs
  | [],[],_,_=>trivial
  | [],_::_,_,hr=>hr.elim
  | _::_,[],_,hr=>hr.elim
  | p::l,v::vs,hs,hr=>by
    simp only[qdZ,gq]at hs;exact⟨JB hs.1 hr.1,DI hs.2 hr.2⟩
theorem zcv{h h':Fz}{x:PA}{v:Value}(hs:zhy x=true)(hr:oJ h' x v):oJ h x v:=by
 cases x with
 | one p=>exact JB hs hr
 | agg cs =>
  obtain⟨vs,rfl,hr⟩:=hr;exact⟨vs,rfl,DI hs hr⟩
theorem LU{h h':Fz}:∀{l:List PA}{vs:List Value},l.all zhy=true→RL (oJ h') l vs→RL (oJ h) l vs
  | [],[],_,_=>trivial
  | [],_::_,_,hr=>hr.elim
  | _::_,[],_,hr=>hr.elim
  | p::l,v::vs,hs,hr=>by
    simp only[qdZ,gq]at hs;exact⟨zcv hs.1 hr.1,LU hs.2 hr.2⟩
theorem zie{h h':Fz}{rs:List PA}{v:Value}(hs:VJ rs=true)(hr:qP h' rs v):qP h rs v:=by
 match rs,hs,hr with
 | [],_,⟨vs,e,r⟩=>exact⟨vs,e,LU rfl r⟩
 | [x],hs,hr =>
  simp only[VJ,qdZ,List.all_nil,qju]at hs;exact zcv hs hr
 | x::y::l,hs,⟨vs,e,r⟩=>exact⟨vs,e,LU hs r⟩
def zf(h h' h2:Fz):Fz:=λb=>match h b,h' b with|none,some _=>none|_,_=>h2 b
theorem WE{h h' h2:Fz}(h1:kF h h')(h3:kF h' h2):kF h (zf h h' h2):=λb o hb=>by
 show(match h b,h' b with|none,some _=>none|_,_=>h2 b)=some o;rw[hb];exact h3 b o (h1 b o hb)
theorem Gn{h h' h2:Fz}:kF (zf h h' h2) h2:=λb o hb=>by
 have hb:(match h b,h' b with|none,some _=>none|_,_=>h2 b)=some o:=hb;split at hb;cases hb;exact hb
theorem Qw{h h' h2:Fz}{n:Nat}(h1:kF h h')(hn:∀b o,h2 b=some o->h' b=some o\/n<=b)(b:Nat)(o:VS)(hb:zf h h' h2 b=some o):h b=some o\/n<=b:=by
 have VC:=Gn b o hb;have hb:(match h b,h' b with|none,some _=>none|_,_=>h2 b)=some o:=hb;rcases hn b o VC with h4|h4
 ·cases e:h b with
  | none=>rw[e,h4]at hb;cases hb
  | some x =>
   have:=h1 b x e;rw[h4]at this;exact .inl this.symm
 exact .inr h4
theorem zah{h h' h2:Fz}{k:Nat}(hk:h2 k=none):zf h h' h2 k=none:=by
 show(match h k,h' k with|none,some _=>none|_,_=>h2 k)=none;split;rfl;exact hk
theorem zcw:∀{l:List PV}{o:Nat}{x y:PV},zhz l=true→l[o]? = some x→l[o+1]? = some y→jV x=true→jV y=true→False
  | [],o,x,y,_,hx,_,_,_=>by simp at hx
  | [a],0,x,y,_,_,hy,_,_=>by simp at hy
  | [a],o+1,x,y,_,hx,_,_,_=>by simp at hx
  | a::b::r,0,x,y,h,hx,hy,h1,h2=>by
    simp at hx hy;subst hx hy;simp[zhz,h1,h2]at h
  | a::b::r,o+1,x,y,h,hx,hy,h1,h2=>by
    simp only[zhz,gq]at h;exact zcw (l:=b::r) h.2 (by simpa using hx) (by simpa using hy) h1 h2
theorem LV{h h':Fz}{p q:PV}{v:Value}(hs:jV p=true)(hp:Rep h p v)(hq:Rep h' q v):jV q=true:=by
 cases hp with
 | bool b=>cases hq with|bool=>rfl
 | int k n=>cases hq with|int=>rfl
 | _=>cases hs
theorem WF{u:mP}(h:zb0 u=true):∀x∈u,∃l,x.2=.fbox l/\∀v∈l,jV v=false:=by
 intro y hy;unfold zb0 at h;split at h;rcases kS.1 hy with rfl|hy
 refine⟨_,rfl,fun v hv => ?_⟩;have:=zQ.1 h v hv;simpa using this;rcases kS.1 hy with rfl|hy
 exact⟨_,rfl,λv hv=>by simp only[lN]at hv;subst hv;rfl⟩;simp at hy;cases h
theorem Qx{g:Gh}{ob:Nat→Option AO}{u:mP}{h' h2:Fz}(F:fM g ob u h')(hu:fF ob u)(wO:∀x∈u,∃l,x.2 = .fbox l∧∀v∈l,jV v=false)(hle:kF h' h2){p:PV}(ha:Anch p) :
  ∀{v:Value},Rep h2 p v->Rep (zf g.h h' h2) p v:=by
 induction ha with
 | scal v h=>intro x hr;exact JB h hr
 | nils=>intro x hr;cases hr;exact .nils
 | sl n s get h H5 ih =>
  intro x hr;cases hr with
  | sl0 _ _ IY=>exact .sl0 _ _ IY
  | sle _ _ a cap IY=>exact .sle _ _ a cap IY
  | sl _ _ _ IY b o cap C ty fr vs hb kR hlen hc hr =>
   cases n with
   | zero=>exact .sle _ _ _ _ IY
   | succ m =>
   refine .sl _ _ _ IY b o cap C ty fr vs ?_ kR hlen hc λi j x hi hx=>ih i x (Ko hx) (hr i j x hi hx);show(match g.h b,h' b with|none,some _=>none|_,_=>h2 b)=_;cases e1:g.h b with
   | some y=>exact hb
   | none =>
    cases e2:h' b with
    | none=>exact hb
    | some y =>
     exfalso;have hy:y=.fz (.cells C ty fr):=by
      have:=hle b y e2;rw[hb]at this;exact(PS this).symm
     subst hy;obtain⟨L,x,o',hm,hL,hk⟩:=F.new b e1 _ e2;obtain⟨l0,hl0,hns⟩:=wO _ hm;simp only at hl0;subst hl0;rcases hu _ hm with⟨e,s,b',n,get',_,e3⟩|⟨ZC,cells,l,us,e4,e3,e5,e6⟩|⟨te,bb,e,s,b',n,ln,get',_,e3⟩
     cases e3;simp only at e3 e4;cases e3;rw[hL]at e4;simp only[bV]at e4;subst e4;obtain⟨C',Zo,oz⟩:=F.box L ZC cells l0 us hL e5 e6 hm;have hk:g.bk L=b:=hk;subst hk;rw[e2]at Zo;simp only[bV,VS.fz.injEq,Obj.cells.injEq]at Zo;obtain⟨rfl,rfl,rfl⟩:=Zo;obtain⟨j,x0,hx0,hs0⟩:=h 0;have c0:=hc 0 j x0 omY hx0;have hl:=oz.length;have iM:o+0*s+j<l0.length:=by
      have:=(VD.1 c0).1;simp only[qja]at hl;omega
     obtain⟨v0,hv0,r0⟩:=oz.get _ _ (Au iM);have hv0:C[o+0*s+j]? = some v0:=by simpa using hv0
     rw[hv0]at c0;simp only[bV]at c0;subst c0;have:=LV hs0 (hr 0 j x0 omY hx0) r0;rw[hns _ (RN iM)]at this;cases this;cases e3
theorem DJ{x y:PV}(h:Sm x y):jV x=jV y:=by cases h<;>rfl
theorem zif:∀{d:Nat}{x y:PV},Sm x y->AY d x=true->AY d y=true:=by
 intro d
 induction d with
 | zero=>intro x y _ h;cases h
 | succ d ih =>
  intro x y hs h;have hs2:=DJ hs;cases hs with
  | sl n m s g g' hl hg =>
   have hr:=(Sm.rows (.sl n m s g g' hl hg)).2 0 0;simp only[AY,gq,qjQ,zQ]at h ⊢;obtain⟨⟨x,hx,hxs⟩,h2⟩:=h;obtain⟨j,hj⟩:=ZI hx;obtain⟨y,hy,r⟩:=RL.get hr j x hj;refine⟨⟨y,Ko hy,by rw[<- DJ r];exact hxs⟩,λz hz=>?_⟩;obtain⟨k,hk⟩:=ZI hz;obtain⟨u,hu,r⟩:=RL.get' hr k z hk;exact ih r (h2 u (Ko hu))
  | int k a b=>rfl
  | bool a b=>rfl
  | fp l l' o hl hg=>exact h
  | atom p hp=>exact h
theorem WG{d:Nat}{g:Nat->List PV}(hu:uo g)(h:(g 0).all (AY d)=true){i:Nat}{x:PV}(hx:x∈g i):AY d x=true:=by
 obtain⟨j,hj⟩:=ZI hx;obtain⟨y,hy,r⟩:=RL.get' (hu 0 i) j x hj;exact zif r (zQ.1 h y (Ko hy))
theorem WH:∀{d:Nat}{x:PV},AY d x=true->Sm x x->Anch x:=by
 intro d
 induction d with
 | zero=>intro x h;cases h
 | succ d ih =>
  intro x h hs;unfold AY at h;split at h;exact .nils;rename_i n s g;rw[gq]at h;have hu:uo g:=hs.rows.2;refine .sl _ _ _ (λi=>?_) λi y hy=>?_;obtain⟨x,hx,hxs⟩:=qjQ.1 h.1;obtain⟨j,hj⟩:=ZI hx;obtain⟨y,hy,r⟩:=RL.get (hu 0 i) j x hj;exact⟨j,y,hy,by rw[<- DJ r];exact hxs⟩;refine ih (WG hu h.2 hy) ?_;obtain⟨j,hj⟩:=ZI hy;obtain⟨z,hz,r⟩:=RL.get (hu i i) j y hj;rw[hj]at hz;cases hz;exact r;exact .scal _ h
theorem zyx{l m:List PV}(h:RS l m)(hs:sc2 l=true):sc2 m=true:=by
 simp only[sc2,gq,zQ,Vs]at hs ⊢;refine⟨λx hx=>?_,by rw[<- h.length];exact hs.2⟩;obtain⟨j,hj⟩:=ZI hx;obtain⟨y,hy,r⟩:=RL.get' h j x hj;rw[<- DJ r];exact hs.1 y (Ko hy)
theorem zih{l m:List PV}(h:RS l m)(hs:l.all jV=true):m.all jV=true:=by
 rw[zQ]at hs ⊢;intro x hx;obtain⟨j,hj⟩:=ZI hx;obtain⟨y,hy,r⟩:=RL.get' h j x hj;rw[<- DJ r];exact hs y (Ko hy)
theorem bW.borrow(S:bW P nt B w0 h0 g σ a w){u:mP}{h' h2 hx:Fz}{w':World}(F:fM g (lk σ.ay) u h')(hb:yh h' w.heap.size w w')(Zr:Hw h2 w')
    (h1:kF g.h hx) (h3:kF hx h2) (h4:∀b o,hx b=some o->g.h b=some o\/w.heap.size<=b):bW P nt B w0 h0 ⟨hx,g.bk,g.sv,g.iv⟩ σ a w' :=
  S.world h1 (λb x mJ=>Zr b x (h3 b x mJ)) h4 ⟨hb.os,hb.tape,hb.output,hb.size,hb.drawn,λk hk=>hb.block k hk⟩
theorem ownsRow_base{w:World}{base B e s n:Nat}{v:Value}{xs:List Value}(h:w.ownsRow base e s v n xs)(hB:∀k,base<=k->v.ownBlock=some k->B<=k):w.ownsRow B e s v n xs:=by
 refine⟨h.1,?_⟩;rcases h.2 with hn|⟨k,cap,cur,rfl,hk,rest⟩
 exact .inl hn;exact .inr ⟨k,cap,cur,rfl,hB k hk rfl,rest⟩
theorem zcx{args:Array Operand}{ev:Operand->DV}{p:DV}(h:args.toList.map ev=[p]):∃x,args = #[x]/\ev x=p:=by
 match hl:args.toList,h with
 | [x],h =>
  simp at h;exact⟨x,by rw[<- qdj (xs:=args),hl],h⟩
 | [],h=>simp at h
 | _::_::_,h=>simp at h
theorem zoN{e m s:Nat}{get:Nat->List PV}{args:Array Operand}(S:bW P nt B w0 h0 g σ a w)(h:zx9 P e (args.toList.map (fV σ.env))=some (m,s,get)):∃x,args = #[x]/\Rep g.h (.sl m s get) (a.eval x):=by
 generalize hl:args.toList.map (fV σ.env)=l at h;unfold zx9 at h;split at h;cases h;obtain⟨x,rfl,hx⟩:=zcx hl;exact⟨x,rfl,jM S hx⟩;split at h;rename_i z hz;split at h;rename_i k hk;cases h;obtain⟨x,rfl,hx⟩:=zcx hl;have:=jM S hx;refine⟨x,rfl,?_⟩;generalize a.eval x=v at this;cases this;exact .sl0 _ _ λ_ _=>Jt hz hk;cases h;cases h;cases h
theorem WI{α:Type}:∀{l m:List α}{x:α},KD l=some (m,x)→l=m++[x]
  | [],m,x,h=>by cases h
  | d::r,m,x,h=>by
    simp only[KD]at h;split at h;rename_i l' y e;cases h;rw[WI e];rfl
    · rename_i e;cases h;cases r with
      | nil=>rfl
      | cons y r =>
        simp only[KD]at e;split at e<;>cases e
theorem Qy{f:Operand->DV}{args:Array Operand}{ds:List DV}{d:DV}(h:KD (args.toList.map f)=some (ds,d)):∃(xs:List Operand)(x:Operand),args.toList=xs++[x]/\ds=xs.map f/\f x=d:=by
 obtain⟨xs,ys,e1,e2,e3⟩:=List.map_eq_append_iff.1 (WI h)
 match ys,e3 with
 | [x],e3 =>
  simp only[nX,qdY,FV,jqm]at e3;exact⟨xs,x,e1,e2.symm,e3⟩
theorem WJ{f:Operand->Value}{args:Array Operand}{xs:List Operand}{x:Operand}(h:args.toList=xs++[x]):(#[]++Array.map f args ++ #[])=(xs.map f++[f x]).toArray:=by
 have e:args=(xs++[x]).toArray:=by rw[<- h]
 subst e;simp
theorem zii{o:Oper}{f:Operand}{args:Array Operand}{ts:Array TypeId}{A:aH}{gf:FuncId}{e s b:Nat}{F:List PA→Nat→(Nat→List PV)→ae (Nat×(Nat→List PV))}(gy:gB P gf (.grow e s b F))(S:bW P nt B w0 h0 g σ a w)(hd:dI nt o.dst=true)
    (aZ:o.op=.call {callee:=.value f,args,argTypes:=ts}) (OV:a.eval f=.func (.func gf) #[] #[])
    (hA:kT P Γ o (.grow e s b F) (args.toList.map (fV σ.env)) (lk σ.ay)=A) (hs:A.safe):jD P nt B w0 h0 r n i o A σ a w Q:=by
  unfold kT at hA;simp only at hA;split at hA;rename_i ds L OW;obtain⟨xs,x,gQ,rfl,hx⟩:=Qy OW;split at hA;rename_i az e' s' b' n get has hL;split at hA;rename_i m get' hF;split at hA;rename_i dw;obtain⟨rfl,rfl,rfl⟩:=dw;subst hA;obtain⟨⟨yz,mf⟩,_⟩:=iY S hx;obtain⟨iU,nP,ys,Zv,hr⟩:=S.obj L _ hL;have hav:=S.frozen0.repDs has (λy hy=>hy) (Dz S xs);obtain⟨fQ,dh⟩:=gy w g.h B az (xs.map a.eval) (g.sv L) n get m get' hF hav (by rw[<- yz];exact mf) iU nP ⟨ys,Zv,hr⟩ (λk hk=>S.own L _ k hL hk) S.hw S.bs;refine rQ (by simp[aZ]) (w':=w) (f:=gf) (args:=(xs.map a.eval++[g.sv L]).toArray) ?_ (dh.mono ?_);simp only [execOp,aZ,resolve,OV,Deferred.ofValue,Sem.run_bind,Sem.run_pure,Result.andThen_ok,invoke];rw[show(#[]++Array.map a.eval args ++ #[])=(xs.map a.eval++[g.sv L]).toArray by rw[<- yz];exact WJ gQ];exact eF fQ;rintro r0 w' ⟨h2,v',rfl,WL,Z7,⟨zs,AQ,hrz⟩,hblk,hle,Zr,hn2,hX⟩;let g':Gh:=⟨h2,g.bk,λM=>if M=L then v' else g.sv M,g.iv⟩;have mG:g'.sv L=v':=eY rfl;have zij:∀M x,lk [(L,AO.vec e' s' b' m get')] M=some x->M=L/\x=.vec e' s' b' m get':=λM x h=>by
    rw[aX]at h;split at h;rename_i e;exact⟨e.symm,(PS h).symm⟩;cases h
  have S1 := S.swap (u := [(L, .vec e' s' b' m get')]) (kl := [L]) (K := (g.sv L).ownBlock.toList) (g' := g') hle Zr (fun _ => rfl)
    (λM hM=>⟨rfl,fH λe=>hM (by rw[e];exact lN.2 rfl),rfl⟩)
    (λM hM=>by rw[lN.1 hM,aX,eY rfl];simp) hX
    (λk hk=>⟨L,_,_,by rw[aX,eY rfl],hL,(show(g.sv L).ownBlock=some k by simpa using hk)⟩)
    (λM x hx=>by obtain⟨rfl,rfl⟩:=zij M x hx;exact⟨⟨Z7,iU.2⟩,nP,zs,by rw[mG];exact AQ,hrz⟩)
    (λM x k hx hk=>by obtain⟨rfl,rfl⟩:=zij M x hx;exact hblk k (by rw[<- mG];exact hk))
    (λM x k M' x' hx yK _ _=>by rw[(zij M x hx).1,(zij M' x' yK).1])
    (λM x hx N hN=>by obtain⟨rfl,rfl⟩:=zij M x hx;simp[dW]at hN) (λk y hk=>hn2 k y hk) σ.log
  refine⟨v',rfl,g',_,rfl,?_⟩;rw[SV];refine S1.put (v:=v') hd (d:=.cl (.vec L)) ⟨mG.symm,WL⟩ (λM hM=>?_) σ.log;simp[cO,dD,bC]at hM;subst hM;exact⟨_,by rw[jqT,aX,eY rfl]⟩;subst hA;exact hs.elim;subst hA;exact hs.elim;subst hA;exact hs.elim;rename_i ds OW;obtain⟨xs,x,gQ,rfl,hx⟩:=Qy OW;split at hA;rename_i az dst has Hy;split at hA;rename_i ie z iF hi hz;split at hA;rename_i l hl;split at hA;rename_i m get' hF;split at hA;rename_i dw;obtain⟨jU,rfl,iU⟩:=dw;subst hA;obtain⟨zv,Hz,AQ⟩:=jo hz hi;have yz:a.eval x=.slice none 0 0:=by
    have:=jM S hx;generalize a.eval x=v at this;cases this;rfl
  have hnb:(a.eval x).ownBlock=none:=by rw[yz];rfl
  have hav:=S.frozen0.repDs has (λy hy=>hy) (Dz S xs);have nP:∃i z,P.info? e=some i/\i.size=s/\i.bytes=ie.bytes/\i.zero=some z/\z.cells.size=s:=⟨ie,zv,hi,jU,rfl,Hz,by rw[AQ,jU]⟩;obtain⟨fQ,dh⟩:=gy w g.h B az (xs.map a.eval) (a.eval x) 0 (λ_=>l) m get' hF hav (by rw[yz];rfl) ⟨KH (Jt hz hl),iU⟩ nP ⟨[],by rw[yz];exact World.ownsRow_nil w B e s,λi hi=>absurd hi omY⟩ (λk hk=>by rw[hnb]at hk;cases hk) S.hw S.bs;refine rQ (by simp[aZ]) (w':=w) (f:=gf) (args:=(xs.map a.eval++[a.eval x]).toArray) ?_ (dh.mono ?_);simp only [execOp,aZ,resolve,OV,Deferred.ofValue,Sem.run_bind,Sem.run_pure,Result.andThen_ok,invoke];rw[WJ gQ];exact eF fQ;rintro r0 w' ⟨h2,v',rfl,WL,Z7,⟨zs,zyt,hrz⟩,hblk,hle,Zr,hn2,hX⟩;have uh:∀k,v'.ownBlock=some k->w.heap.size<=k/\h2 k=none:=λk hk=>by
    obtain⟨h3,h4⟩:=hblk k hk;exact⟨h3.elim (λh=>by rw[hnb]at h;simp at h) id,h4⟩
  have S2:=S.world hle Zr (λk y hk=>by
    rcases hn2 k y hk with h|h|h
    exact .inl h;exact .inr h;rw[hnb]at h;simp at h) ⟨hX.os,hX.tape,hX.output,hX.size,hX.drawn,λk hk=>hX.block k hk (by rw[hnb];simp)⟩
  have S3:=S2.adopt (t:=dst) (v:=v') (e:=e) (s:=s) (b:=ie.bytes) (n:=m) (get:=get') iF (λk hk=>⟨FN S.bs (uh k hk).1,(uh k hk).2,λL o ho cZ=>by
      have iK:iy g L o k:=cZ;have:=iW (S.obj L o ho) iK;have:=(uh k hk).1;omega⟩) (by
    refine⟨⟨Z7,iU⟩,nP,zs,?_,hrz⟩;rw[show((⟨h2,g.bk,g.sv,g.iv⟩:Gh).setSv dst v').sv dst=v' by simp[Gh.setSv]];exact zyt)
  refine⟨v',rfl,(⟨h2,g.bk,g.sv,g.iv⟩:Gh).setSv dst v',_,rfl,?_⟩;rw[gu];refine S3.put (v:=v') hd (d:=.cl (.vec dst)) ⟨by simp[Gh.setSv],WL⟩ ?_ _;intro L hL;simp[cO,dD,bC]at hL;subst hL;exact⟨_,by rw[aX,eY rfl]⟩;subst hA;exact hs.elim;subst hA;exact hs.elim;subst hA;exact hs.elim;subst hA;exact hs.elim;subst hA;exact hs.elim;subst hA;exact hs.elim
theorem zoO{o:Oper}{f:Operand}{args:Array Operand}{ts:Array TypeId}{A:aH}{gf:FuncId}(HY:jF P Γ)(S:bW P nt B w0 h0 g σ a w)(hd:dI nt o.dst=true)
    (aZ:o.op=.call {callee:=.value f,args,argTypes:=ts}) (OV:a.eval f=.func (.func gf) #[] #[])
    (hA:kT P Γ o (Γ.own gf) (args.toList.map (fV σ.env)) (lk σ.ay)=A) (hs:A.safe):jD P nt B w0 h0 r n i o A σ a w Q:=by
  have enter:∀x,args = #[x]->dA P gf->(execOp a.eval o).run P w=.ok (.enter gf #[a.eval x]) w:=by
    rintro x rfl fQ;simp only[execOp,aZ,resolve,OV,Deferred.ofValue,Sem.run_bind,Sem.run_pure,Result.andThen_ok,invoke];rw[show(#[]++Array.map a.eval #[x] ++ #[]) = #[a.eval x]by simp];exact eF fQ
  have gy:=HY.own gf;unfold kT at hA;split at hA;subst hA;exact hs.elim;rename_i e s b hk;rw[hk]at gy;split at hA;rename_i L hf caps gQ;obtain⟨x,y,rfl,hx,hy⟩:=Le gQ;obtain⟨⟨yz,mf⟩,_⟩:=iY S hx;split at hA;rename_i e' s' b' m get ag hL uT;split at hA
  · rename_i dw;obtain⟨rfl,rfl,rfl⟩:=dw;subst hA;have qi:zx7 m (λi j=>(KA (Γ.cfn hf) caps ag get i j).isSome) (oG (Γ.cfn hf) caps ag get):=hs;obtain⟨iU,nP,xs,hxs,hr⟩:=S.obj L _ hL;have jv:∀k,(g.sv L).ownBlock=some k->g.h k=none:=λk hk=>(S.own L _ k hL hk).2;have ug:=jM S hy;generalize RD:a.eval y=yv at ug;cases ug with
    | fn _ _ _ fv cv l1 l2 hf1 FH =>
      have e1:fv=[]:=qdC l1.symm;subst e1;obtain⟨ii,zz,hi1,hi2,_⟩:=nP;obtain⟨fQ,dh⟩:=gy w g.h B (g.sv L) m get hf caps cv ag (Γ.cfn hf) (HY.cmp hf) (LK l2 FH) uT ⟨ii,hi1,hi2⟩ iU.2 ⟨xs,hxs,hr⟩ (by rw[<- yz];exact mf) S.hw jv S.bs qi;refine rQ (by simp[aZ]) (w':=w) (f:=gf) (args:=#[a.eval x,a.eval y]) ?_ ?_;simp only [execOp,aZ,resolve,OV,Deferred.ofValue,Sem.run_bind,Sem.run_pure,Result.andThen_ok,invoke];rw[show(#[]++Array.map a.eval #[x,y] ++ #[]) = #[a.eval x,a.eval y]by simp];exact eF fQ;rw [yz,RD];refine dh.mono ?_;rintro r0 w' ⟨rfl,⟨xs',zRN,ve⟩,hg⟩;refine⟨.tuple #[],rfl,g,_,rfl,?_⟩;rw[gu];have hold:∀k,k<w.heap.size->¬(g.sv L).ownBlock=some k->w'.heap[k]? = w.heap[k]?:=λk hk jk=>hg.block k hk (λe=>jk e.symm)
      have S' := S.write2 (o' := .vec e' s' b' m (KC m (oG (Γ.cfn hf) caps ag get) get)) hL (fun b hb => hb) ⟨⟨hg.os, hg.tape, hg.output, hg.size, fun k hk => hold k (qdx hk S.bs) (fun e => by have := (S.own L _ k hL e).1; omega)⟩, hg.drawn⟩
        hold ⟨⟨wQ iU.1 _,iU.2⟩,⟨ii,zz,hi1,hi2,by assumption⟩,xs',zRN,ve⟩ (λM hM=>by simp[dW]at hM)
      exact S'.put (d:=.tup []) hd ⟨[],rfl,trivial⟩ (λL hL=>by simp[cO]at hL) _
  subst hA;exact hs.elim;subst hA;exact hs.elim;subst hA;exact hs.elim;rename_i e s b hk;rw[hk]at gy;split at hA;rename_i m s' get dst gQ Hy;obtain⟨x,rfl,hx⟩:=zoN S gQ;split at hA;rename_i ie z iF hi hz;split at hA;rename_i dw;obtain⟨rfl,jU,rfl,iU⟩:=dw;subst hA;have qi:m*ie.bytes<=140737488355328/\m<=9223372036854775807:=hs;obtain⟨zv,Hz,AQ⟩:=jo hz hi;obtain⟨fQ,dh⟩:=gy w g.h (a.eval x) m get hx S.hw qi.1 qi.2;refine rQ (by simp[aZ]) (w':=w) (f:=gf) (args:=#[a.eval x]) (enter x rfl fQ) (dh.mono ?_);rintro r0 w' ⟨h',v',rfl,mf,⟨xs,hxs,hr⟩,hnh,hb,hle,IX,hn'⟩;refine⟨v',rfl,?_⟩;have S2:=S.world hle IX hn' hb;have uh:∀k,v'.ownBlock=some k->w.heap.size<=k:=λk hk=>(hxs.lt k hk).1;have S3:=S2.adopt (t:=dst) (v:=v') (e:=e) (s:=s') (b:=ie.bytes) (n:=m) (get:=get) iF (λk hk=>⟨FN S.bs (uh k hk),hnh k hk,λL o ho cZ=>by
      have iK:iy g L o k:=cZ;have:=iW (S.obj L o ho) iK;have:=uh k hk;omega⟩) (by
    refine⟨⟨hx.un.rows.2,iU⟩,⟨ie,zv,hi,jU,rfl,Hz,by rw[AQ,jU]⟩,xs,?_,hr⟩;rw[show((⟨h',g.bk,g.sv,g.iv⟩:Gh).setSv dst v').sv dst=v' by simp[Gh.setSv]];exact ownsRow_base hxs λk hk _=>FN S.bs hk)
  refine⟨(⟨h',g.bk,g.sv,g.iv⟩:Gh).setSv dst v',_,rfl,?_⟩;rw[gu];refine S3.put (v:=v') hd (d:=.cl (.vec dst)) ⟨by simp[Gh.setSv],mf⟩ ?_ _;intro L hL;simp[cO,dD,bC]at hL;subst hL;exact⟨_,by rw[aX,eY rfl]⟩;subst hA;exact hs.elim;subst hA;exact hs.elim;subst hA;exact hs.elim;rename_i e s b F hk;rw[hk]at gy;split at hA;rename_i az u dst has Hy;split at hA;rename_i n get rs ie z hF iF hi hz;split at hA
  · rename_i dw;obtain⟨jU,rfl,iU,zG5,zG6⟩:=dw;subst hA;obtain⟨zv,Hz,AQ⟩:=jo hz hi;obtain⟨h',S1,F'⟩:=S.freeze (yU has);have gQ:=F'.repDs has (λy hy=>hy) (Dz S args.toList);obtain⟨fQ,dh⟩:=gy w h' az (args.toList.map a.eval) n get rs hF gQ S1.hw;refine rQ (by simp[aZ]) (w':=w) (f:=gf) (args:=(args.toList.map a.eval).toArray) ?_ (dh.mono ?_);simp only [execOp,aZ,resolve,OV,Deferred.ofValue,Sem.run_bind,Sem.run_pure,Result.andThen_ok,invoke];rw[show(#[]++Array.map a.eval args ++ #[])=(args.toList.map a.eval).toArray by cases args;simp];exact eF fQ;rintro r0 w' ⟨h2,v',xs,rfl,hxr,mf,Z7,⟨ys,Zv,hr⟩,hnh,hb,hle,Zr,hn2⟩;have hlr:∀i,i<n->RL (Rep (zf g.h h' h2)) (get i) ((ys.drop (i*s)).take s):=λi hi=>by
      cases u with
      | nil =>
        refine(hr i hi).mono λ_ _ h=>Rep.mono (λb o hbo=>?_) h;show(match g.h b,h' b with|none,some _=>none|_,_=>h2 b)=some o;cases e1:g.h b with
        | some y=>exact hbo
        | none =>
          cases e2:h' b with
          | none=>exact hbo
          | some y =>
            obtain⟨L,x,o',hm,_⟩:=F'.new b e1 _ e2;simp at hm
      | cons x l =>
        have h3:=zG5;unfold zhG at h3;split at h3;rename_i e;cases e;split at h3;rename_i e;exact(hr i hi).mono_mem λp v hp h=>Qx F' (yU has) (WF e) hle (WH (WG Z7 h3 hp) (by
          obtain⟨j,hj⟩:=ZI hp;obtain⟨z,hz,r⟩:=RL.get (Z7 i i) j p hj;rw[hj]at hz;cases hz;exact r)) h
        exact DI (zih (Z7 0 i) h3) (hr i hi)
    have S2:=S.borrow F' hb Zr (WE F'.le hle) Gn (Qw F'.le hn2);have uh:∀k,v'.ownBlock=some k->w.heap.size<=k:=λk hk=>(Zv.lt k hk).1;have S3:=S2.adopt (t:=dst) (v:=v') (e:=e) (s:=s) (b:=ie.bytes) (n:=n) (get:=get) iF (λk hk=>⟨FN S.bs (uh k hk),zah (hnh k hk),λL o ho cZ=>by
        have iK:iy g L o k:=cZ;have:=iW (S.obj L o ho) iK;have:=uh k hk;omega⟩) (by
      refine⟨⟨Z7,iU⟩,⟨ie,zv,hi,jU,rfl,Hz,by rw[AQ,jU]⟩,ys,?_,hlr⟩;rw[show((⟨zf g.h h' h2,g.bk,g.sv,g.iv⟩:Gh).setSv dst v').sv dst=v' by simp[Gh.setSv]];exact ownsRow_base Zv λk hk _=>FN S.bs hk)
    refine⟨VT v' xs rs,rfl,(⟨zf g.h h' h2,g.bk,g.sv,g.iv⟩:Gh).setSv dst v',_,rfl,?_⟩;rw[gu];have hvx:RL (Rep (zf g.h h' h2)) rs xs:=DI zG6 hxr;cases rs with
    | nil =>
      refine S3.put (v:=v') hd (d:=.cl (.vec dst)) ⟨by simp[Gh.setSv],mf⟩ ?_ _;intro L hL;simp[cO,dD,bC]at hL;subst hL;exact⟨_,by rw[aX,eY rfl]⟩
    | cons x l =>
      refine S3.put (v:=.tuple (v'::xs).toArray) hd (d:=.tup (.c (.vec dst)::(x::l).map λv=>.c (.p v))) ⟨v'::xs,rfl,⟨by simp[Gh.setSv],mf⟩,?_⟩ ?_ _;refine RL.map_left.2 (hvx.mono λ_ _ h=>h);intro L hL;have RI:L=dst:=by
        simp only[cO,oC,dX,lU,uV]at hL;rcases hL with hL|⟨d,⟨v,_,rfl⟩,hL⟩
        simpa [dD,bC]using hL;simp[dD,bC]at hL
      subst RI;exact⟨_,by rw[aX,eY rfl]⟩
  subst hA;exact hs.elim;subst hA;exact hs.elim;subst hA;exact hs.elim;rename_i e s b F hk;rw[hk]at gy;exact zii (Γ:=Γ) gy S hd aZ OV hA hs
theorem zoP{g:Gh}{ob:Nat→Option AO}{u:mP}{h' h2:Fz}{n s:Nat}{get:Nat→List PV}{v:Value}(F:fM g ob u h')(hu:fF ob u)(wO:u.all zu7=true)(hle:kF h' h2)(hg:∀i,sc2 (get i)=true)
    (hr:Rep h2 (.sl n s get) v):Rep (zf g.h h' h2) (.sl n s get) v:=by
  cases hr with
  | sl0 _ _ IY=>exact .sl0 _ _ IY
  | sle _ _ a cap IY=>exact .sle _ _ a cap IY
  | sl _ _ _ IY b o cap C ty fr vs hb kR hlen hc hr =>
    cases n with
    | zero=>exact .sle _ _ _ _ IY
    | succ m =>
    have hsc:∀i j x,(get i)[j]? = some x->jV x=true:=λi j x hx=>by
      have:=hg i;simp only[sc2,gq,zQ]at this;exact this.1 x (Ko hx)
    refine .sl _ _ _ IY b o cap C ty fr vs ?_ kR hlen hc λi j x hi hx=>JB (hsc i j x hx) (hr i j x hi hx);show(match g.h b,h' b with|none,some _=>none|_,_=>h2 b)=_;cases e1:g.h b with
    | some y=>exact hb
    | none =>
      cases e2:h' b with
      | none=>exact hb
      | some y =>
        exfalso;have hy:y=.fz (.cells C ty fr):=by
          have:=hle b y e2;rw[hb]at this;exact(PS this).symm
        subst hy;obtain⟨L,x,o',hm,hL,hk⟩:=F.new b e1 _ e2;have hna:=zQ.1 wO _ hm;have z3G:2<=(get 0).length:=by
          have:=hg 0;simp only[sc2,gq,Vs]at this;exact this.2
        rcases hu _ hm with⟨e,s,b',n,get',_,e3⟩|⟨ZC,cells,l,us,e4,e3,e5,e6⟩|⟨te,bb,e,s,b',n,ln,get',_,e3⟩
        simp only at e3;subst e3;cases hna;simp only at e3 e4;subst e3;rw[hL]at e4;simp only[bV]at e4;subst e4;obtain⟨C',Zo,oz⟩:=F.box L ZC cells l us hL e5 e6 hm;have hk:g.bk L=b:=hk;subst hk;rw[e2]at Zo;simp only[bV,VS.fz.injEq,Obj.cells.injEq]at Zo;obtain⟨rfl,rfl,rfl⟩:=Zo;obtain⟨x0,hx0⟩:∃x,(get 0)[0]? = some x:=⟨_,Au omY⟩;obtain⟨x1,hx1⟩:∃x,(get 0)[1]? = some x:=⟨_,Au omY⟩;have c0:=hc 0 0 x0 omY hx0;have c1:=hc 0 1 x1 omY hx1;simp only[jqQ,qd3]at c0 c1;have hl:=oz.length;have l0:o<l.length:=by
          have:=(VD.1 c0).1;simp at hl;omega
        have l1:o+1<l.length:=by
          have:=(VD.1 c1).1;simp at hl;omega
        obtain⟨v0,hv0,r0⟩:=oz.get o _ (Au l0);obtain⟨v1,hv1,r1⟩:=oz.get (o+1) _ (Au l1);have hv0:C[o]? = some v0:=by simpa using hv0
        have hv1:C[o+1]? = some v1:=by simpa using hv1
        rw[hv0]at c0;rw[hv1]at c1;simp only[bV]at c0 c1;subst c0 c1;exact zcw hna (Au l0) (Au l1) (LV (hsc 0 0 x0 hx0) (hr 0 0 x0 omY hx0) r0) (LV (hsc 0 1 x1 hx1) (hr 0 1 x1 omY hx1) r1);simp only at e3;subst e3;cases hna
theorem zik{g:Gh}{ob:Nat->Option AO}{u:mP}{h' h2:Fz}{r:List PA}{v:Value}(F:fM g ob u h')(hu:fF ob u)(hl:VK u r=true)(hle:kF h' h2)(hr:qP h2 r v):qP (zf g.h h' h2) r v:=by
 unfold VK at hl;split at hl
 ·rename_i n s get x us;have IY:Sm (.sl n s get) (.sl n s get):=Rep.un (h:=h2) (v:=v) hr;have Z7:uo get:=IY.rows.2;cases hg:sc2 (get 0)with
  | true =>
   simp only[hg]at hl;exact zoP (n:=n) (s:=s) (get:=get) (v:=v) F hu hl hle (λi=>zyx (Z7 0 i) hg) hr
  | false =>
   simp only[hg,gq]at hl;exact Qx F hu (λy hy=>WF hl.1 y hy) hle (WH hl.2 IY) hr
 cases hl
theorem WM{o:Oper}{gf:FuncId}{args:Array Operand}{az pre post:List PA}{pv qv:List Value}{u:mP}{A:aH}(gy:jF P Γ)(S:bW P nt B w0 h0 g σ a w)(hd:dI nt o.dst=true)
    (zN:∀c,o.op ≠ .defer c) (z0I:RL (oJ g.h) pre pv) (zOf:RL (oJ g.h) post qv) (has:iO (lk σ.ay) (args.toList.map (fV σ.env))=some (az,u))
    (zG7:dA P gf->(execOp a.eval o).run P w=.ok (.enter gf (pv++args.toList.map a.eval++qv).toArray) w) {jA:List Nat} {rs:List PA}
    (hC:(Γ.fn gf (pre++az++post)).o=some rs) (hA:lS jA u rs=A):jD P nt B w0 h0 r n i o A σ a w Q:=by
    obtain⟨h',S1,F⟩:=S.freeze (yU has);have gQ:=F.repDs has (λy hy=>hy) (Dz S args.toList);have up:∀{l:List PA}{vs:List Value},RL (oJ g.h) l vs->RL (oJ h') l vs:=λhr=>hr.mono λx v hx=>by
      cases x with
      | one p=>exact Rep.mono F.le hx
      | agg cs=>obtain⟨ws,e,hr⟩:=hx;exact⟨ws,e,hr.mono λ_ _ h=>h.mono F.le⟩
    have HY:RL (oJ h') (pre++az++post) (pv++args.toList.map a.eval++qv):=((up z0I).append gQ).append (up zOf);obtain⟨fQ,dh⟩:=gy.fn gf (pre++az++post) rs hC w h' _ HY S1.hw;refine rQ zN (w':=w) (f:=gf) (args:=(pv++args.toList.map a.eval++qv).toArray) (zG7 fQ) (dh.mono ?_);rintro e w' ⟨h2,v,rfl,o8,hb,hle,Zr,hn2⟩;refine⟨v,rfl,?_⟩;have fin:∀{g':Gh},bW P nt B w0 h0 g' σ a w'->qP g'.h rs v->∃g'' σ',σ'=σ.upd i o.dst (rd jA) (resD rs) [] []/\bW P nt B w0 h0 g'' σ' (a.put o.dst v) w':=λS2 hr =>
      ⟨_,_,rfl,by rw[gu];exact S2.put (v:=v) (d:=resD rs) hd (SQ hr) (λL hL=>by rw[Dy]at hL;simp at hL) σ.log⟩
    subst hA;unfold lS;cases hsc:VJ rs with
    | true=>exact fin (S.borrow F hb Zr (λ_ _ h=>h) (λb x hx=>hle b x (F.le b x hx)) (λ_ _ h=>.inl h)) (zie hsc o8)
    | false =>
      cases hl:VK u rs with
      | true=>exact fin (S.borrow F hb Zr (WE F.le hle) Gn (Qw F.le hn2)) (zik F (yU has) hl hle o8)
      | false =>
        exact⟨⟨h2,g.bk,g.sv,g.iv⟩,_,rfl,by
          rw[gu];exact(S1.world hle Zr hn2 hb).put (v:=v) (d:=resD rs) hd (SQ (g:=g) o8) (λL hL=>by rw[Dy]at hL;simp at hL) σ.log⟩
theorem zil{o:Oper}{f:Operand}{args:Array Operand}{ts:Array TypeId}{A:aH}(gy:jF P Γ)(S:bW P nt B w0 h0 g σ a w)(hd:dI nt o.dst=true)
    (aZ:o.op=.call {callee:=.value f,args,argTypes:=ts})
    (hA:act P Γ o (fV σ.env) (lk σ.ay)=A) (hs:A.safe):jD P nt B w0 h0 r n i o A σ a w Q:=by
  simp only[act,aCl,aZ]at hA;split at hA;rename_i gf caps hf;split at hA;rename_i C hC;obtain⟨cv,OV,kR⟩:=(iY S hf).1;refine zct (vals:=args.toList.map a.eval++cv) gy S hd (by simp[aZ]) hC (λfQ=>?_) ((Dz S args.toList).append (SX kR)) (zib kR (by simp)) hA hs;simp only[execOp,aZ,resolve,OV,Deferred.ofValue,Sem.run_bind,Sem.run_pure,Result.andThen_ok,invoke];rw[show(#[]++Array.map a.eval args++cv.toArray)=(args.toList.map a.eval++cv).toArray by cases args;simp];exact eF fQ;subst hA;exact hs.elim;rename_i gf first caps hf
  split at hA
  · rename_i C hC;have ug:=jM S hf;generalize OV:a.eval f=fvv at ug;cases ug with
    | fn _ _ _ fv cv l1 l2 hf1 FH =>
      have hp:∀{l:List PV}{vs:List Value},RL (Rep g.h) l vs->RL (rO g) (l.map λv=>DV.p v) vs:=λhr=>RL.map_left.2 hr;refine zct (vals:=fv++args.toList.map a.eval++cv) gy S hd (by simp[aZ]) hC (λfQ=>?_) (((hp (LK l1 hf1)).append (Dz S args.toList)).append (hp (LK l2 FH))) (λ_ _ _ e=>by cases e) hA hs;simp only[execOp,aZ,resolve,OV,Deferred.ofValue,Sem.run_bind,Sem.run_pure,Result.andThen_ok,invoke];rw[show(fv.toArray++Array.map a.eval args++cv.toArray)=(fv++args.toList.map a.eval++cv).toArray by cases args;simp];exact eF fQ
  split at hA;split at hA
  · have ug:=jM S hf;generalize OV:a.eval f=fvv at ug;cases ug with
    | fn _ _ _ fv cv l1 l2 hf1 FH =>
      have e1:fv=[]:=qdC l1.symm;have e2:cv=[]:=qdC l2.symm;subst e1 e2;exact zoO gy S hd aZ OV hA hs
  subst hA;exact hs.elim;split at hA
  · rename_i az u has;have ug:=jM S hf;generalize OV:a.eval f=fvv at ug;cases ug with
    | fn _ _ _ fv cv l1 l2 hf1 FH =>
      split at hA;rename_i rs hrs;refine WM gy S hd (by simp[aZ]) (zac (LK l1 hf1)) (zac (LK l2 FH)) has (λfQ=>?_) hrs hA;simp only[execOp,aZ,resolve,OV,Deferred.ofValue,Sem.run_bind,Sem.run_pure,Result.andThen_ok,invoke];rw[show(fv.toArray++Array.map a.eval args++cv.toArray)=(fv++args.toList.map a.eval++cv).toArray by cases args;simp];exact eF fQ;subst hA;exact hs.elim
  subst hA;exact hs.elim;rename_i gf cells hf;split at hA
  · rename_i az u has;have ug:=jM S hf;generalize OV:a.eval f=fvv at ug;cases ug with
    | fna _ _ vs l1 hf1 =>
      split at hA;rename_i rs hrs;refine WM (pre:=[.agg cells]) (post:=[]) (pv:=[.agg vs.toArray]) (qv:=[]) gy S hd (by simp[aZ]) ⟨⟨vs,rfl,LK l1 hf1⟩,trivial⟩ trivial has (λfQ=>?_) (by simpa using hrs) hA;simp only[execOp,aZ,resolve,OV,Deferred.ofValue,Sem.run_bind,Sem.run_pure,Result.andThen_ok,invoke];rw[show(#[Value.agg vs.toArray]++Array.map a.eval args ++ #[])=([Value.agg vs.toArray]++args.toList.map a.eval++[]).toArray by cases args;simp];exact eF fQ;subst hA;exact hs.elim
  subst hA;exact hs.elim;subst hA;exact hs.elim
theorem Gp{o:Oper}{A:aH}(gy:jF P Γ)(S:bW P nt B w0 h0 g σ a w)(hd:dI nt o.dst=true)(hA:act P Γ o (fV σ.env) (lk σ.ay)=A)(hs:A.safe) :
  jD P nt B w0 h0 r n i o A σ a w Q:=by
 have tq:=hA;cases aZ:o.op with
 | move x=>simp only[act,aCl,aZ]at hA;subst hA;exact V9 S hd (.inl aZ)
 | assign x=>simp only[act,aCl,aZ]at hA;subst hA;exact V9 S hd (.inr aZ)
 | pick c x y =>
  simp only[act,aPk,aZ]at hA;split at hA;rename_i t hc;subst hA;exact zhO S hd aZ hc;subst hA;exact hs.elim
 | alloc e =>
  simp only[act,aAl,aZ]at hA;split at hA;rename_i z hz;exact zeC S hd aZ hz hA hs;subst hA;exact hs.elim
 | box e x =>
  simp only[act,aBx,aZ]at hA;split at hA;rename_i d m hx hm;split at hA;rename_i dw;simp only[gq]at dw;exact zoz S hd aZ hx dw.2 hA hs;subst hA;exact hs.elim;subst hA;exact hs.elim
 | build t parts =>
  simp only[act,aBd,aZ]at hA;split at hA;rename_i z hf hz;split at hA;rename_i l hl;subst hA;refine zeD S hd aZ hf hz hl (λL hL=>?_);rcases Ld _ _ _ hl L hL with h|⟨x,_,h⟩
  rw[Qg hz]at h;simp at h;exact S.evLab x.2 L h;subst hA;exact hs.elim;subst hA;exact hs.elim
 | buildSlice t m parts=>exact Lr S hd aZ tq hs
 | load t x=>exact zhP S hd aZ tq hs
 | store t x y=>exact zeI S hd aZ tq hs
 | nilCheck x=>exact SL S hd aZ tq hs
 | binOp op t x y t'=>exact zeG S hd aZ tq hs
 | unOp op t x=>exact zhQ S hd aZ tq hs
 | convert t1 t2 x=>exact Wi S hd aZ tq hs
 | fieldAddr t x f=>exact O8 S hd aZ tq hs
 | indexAddr t x y=>exact O9 S hd aZ tq hs
 | extract x k=>exact Wj S hd aZ tq hs
 | index t x y=>exact zeE S hd aZ tq hs
 | field t x f=>exact zeF S hd aZ tq hs
 | slice t x lo hi mx =>
  cases mx with|none=>simp only[act,aZ]at hA;exact zeM S hd aZ hA hs|some m=>simp only[act,aZ]at hA;subst hA;exact hs.elim
 | lookup t x y k =>
  simp only[act,aZ]at hA;exact zaa S hd aZ hA hs
 | mapUpdate t x y z =>
  simp only[act,aZ]at hA;exact zeL S hd aZ hA hs
 | makeMap t x =>
  cases x with
  | none =>
   simp only[act,aMm,aZ]at hA;split at hA;split at hA;split at hA;rename_i hE;exact zab S hd aZ hE hA hs;subst hA;exact hs.elim;subst hA;exact hs.elim;subst hA;exact hs.elim
  | some x=>simp only[act,aMm,aZ]at hA;subst hA;exact hs.elim
 | makeSlice t x y=>simp only[act,aZ]at hA;exact Pg S hd aZ hA hs
 | makeFunc fn first caps =>
  cases fn with|func f=>exact SY S hd aZ tq hs|_=>simp only[act,aMf,aZ]at hA;subst hA;exact hs.elim
 | call c =>
  obtain⟨callee,args,ts⟩:=c;cases callee with
  | value f=>exact zil gy S hd aZ tq hs
  | invoke x m=>simp only[act,aZ]at hA;subst hA;exact hs.elim
  | builtin b =>
   cases b with|len=>exact zoA S hd aZ tq hs|max=>exact zoB S hd aZ tq hs|min=>exact zoC S hd aZ tq hs|append=>exact Z5 S hd aZ tq hs|_=>simp only[act,aZ]at hA;subst hA;exact hs.elim
 | _=>simp only[act,aZ]at hA;subst hA;exact hs.elim
end
end Go.Pm
namespace Go.Pm
variable [aC]
open Go.RowKit (Below)
theorem lL{α:Type}{f:α→α}{l:List (Nat×α)}:∀{ks:List Nat}{t:Nat}{x:α},lk (yf f l ks) t=some x→∃y,lk l t=some y∧x=f y∧t∈ks
  | [],t,x,h=>by simp[yf,lk]at h
  | k::ks,t,x,h=>by
    simp only[yf]at h;split at h;rename_i d hd;rw[aX]at h;split at h;rename_i e;simp only[bV]at h;subst e;exact⟨d,hd,h.symm,kX⟩;obtain⟨y,h1,h2,h3⟩:=lL h;exact⟨y,h1,h2,jW _ h3⟩;obtain⟨y,h1,h2,h3⟩:=lL h;exact⟨y,h1,h2,jW _ h3⟩
theorem qR{α:Type}{f:α→α}{l:List (Nat×α)}:∀{ks:List Nat}{t:Nat}{y:α},lk l t=some y→t∈ks→lk (yf f l ks) t=some (f y)
  | [],t,y,_,ht=>by simp at ht
  | k::ks,t,y,h,ht=>by
    simp only[yf];by_cases hk:k=t;subst hk;rw[h];rw[aX,eY rfl];have ht':t∈ks:=(kS.1 ht).elim (fun h=>absurd h.symm hk) fun h=>h;split;rw[aX,fH hk];exact qR h ht';exact qR h ht'
section
variable{P:Program}{Γ:bK}{nt B:Nat}{w0:World}{h0:Fz}{g:Gh}{σ:St}{a:Act}{w:World}{r:Option Nat}{n i:Nat}{Q:Exit->Act->World->Prop}
theorem Qz{c:Cl}{x:Value}(h:jw g c x):jw g (tH c) x:=by
 cases c<;>exact h
theorem BG:∀{cs:List Cl}{vs:List Value},RL (jw g) cs vs→RL (jw g) (cs.map tH) vs|[],[],_=>trivial|[],_::_,h=>h.elim|_::_,[],h=>h.elim|_::_,_::_,h=>⟨Qz h.1,BG h.2⟩
theorem LW{d:D1}{x:Value}(h:A7 g d x):A7 g (yO d) x:=by
 cases d with
 | c y=>exact Qz h
 | agg cs=>obtain⟨vs,rfl,hr⟩:=h;exact⟨vs,rfl,BG hr⟩
theorem Ih:∀{cs:List D1}{vs:List Value},RL (A7 g) cs vs→RL (A7 g) (cs.map yO) vs|[],[],_=>trivial|[],_::_,h=>h.elim|_::_,[],h=>h.elim|_::_,_::_,h=>⟨LW h.1,Ih h.2⟩
theorem zim{d:DV}{x:Value}(h:rO g d x):rO g (Su d) x:=by
 cases d with
 | one y=>exact LW h
 | tup ds=>obtain⟨vs,rfl,hr⟩:=h;exact⟨vs,rfl,Ih hr⟩
theorem Ii{c:Cl}:∀M∈bC (tH c),M∈bC c:=by
 cases c<;>first|exact λ_ h=>h|(intro M h;simp[tH,bC]at h)
theorem Ij{cs:List Cl}:∀M∈(cs.map tH).flatMap bC,M∈cs.flatMap bC:=by
 intro M hM;simp only[lU,uV]at hM ⊢;obtain⟨_,⟨c,hc,rfl⟩,hM⟩:=hM;exact⟨c,hc,Ii M hM⟩
theorem DK{d:D1}:∀M∈dD (yO d),M∈dD d:=by
 cases d with|c y=>exact Ii|agg cs=>exact Ij
theorem zai{d:DV}:∀M∈cO (Su d),M∈cO d:=by
 cases d with
 | one y=>exact DK
 | tup ds =>
  intro M hM;simp only[Su,cO,lU,uV]at hM ⊢;obtain⟨_,⟨d,hd,rfl⟩,hM⟩:=hM;exact⟨d,hd,DK M hM⟩
theorem WN{o:AO}:∀M∈dW (Jr o),M∈dW o:=by
 cases o with|box ty cs=>exact Ij|_=>exact λ_ h=>h
theorem zeP{B L:Nat}{o:AO}(h:OX P g w B L o):OX P g w B L (Jr o):=by
 cases o with
 | box ty cs=>obtain⟨C,hC,hr⟩:=h;exact⟨C,hC,BG hr⟩
 | _=>exact h
theorem Ik{L:Nat}{o:AO}:iy g L (Jr o)=iy g L o:=by cases o<;>rfl
theorem bW.env'(S:bW P nt B w0 h0 g σ a w){t:Nat}{d:DV}(hv:rO g d (a.tmps.getD t undef))(hl:∀L∈cO d,∃o,lk σ.ay L=some o) :
  bW P nt B w0 h0 g {σ with env:=(t,d)::σ.env} a w:=by
 refine⟨S.dfr,S.size,?_,S.obj,S.own,S.sep,S.hw,S.le0,S.hn,S.below,S.bs,?_,S.clO⟩;intro u e hu;simp only[aX]at hu;split at hu;rename_i h;simp only[bV]at hu;subst hu;rw[<- h];exact hv;exact S.env u e hu;intro u e hu;simp only[aX]at hu;split at hu;simp only[bV]at hu;subst hu;exact hl;exact S.clE u e hu
theorem JC{P:Program}{e:TypeId}:RS (Dj P e) (Dj P e):=by
 unfold Dj;split
 ·rename_i z hz;split
  ·rename_i l hl;obtain⟨vs,hv⟩:∃vs,jJ vs=some z:=by
    unfold iw at hz
    repeat' split at hz
    all_goals first|(cases hz;done)|(cases hz;exact⟨_,by assumption⟩)
   have h:=kY (g:=⟨λ_=>none,λ_=>0,λ_=>undef,λ_ _=>undef⟩) _ _ hv;rw[oO hl]at h;have h:=RL.map_left.1 h;exact yQ (vz h)
  trivial
 trivial
theorem bW.coerce(S:bW P nt B w0 h0 g σ a w){L e:Nat}{ie:TypeInfo}{z:List Cl}{get:Nat→List PV}(hu:uo get)(hL:lk σ.ay L=none)(hi:P.info? e=some ie)(hz:iw P e=some z)(hp:0<ie.size) :
  bW P nt B w0 h0 (g.setSv L (.slice none 0 0)) {σ with ay:=(L,.vec e ie.size ie.bytes 0 get)::σ.ay} a w:=by
 obtain⟨zv,Hz,AQ⟩:=jo hz hi;refine S.newVec hL (.refl B w) (λ_ _=>rfl) (λb hb=>by simp[Value.ownBlock]at hb) ⟨⟨hu,hp⟩,⟨ie,zv,hi,rfl,rfl,Hz,AQ⟩,[],?_,λk hk=>absurd hk omY⟩;rw[show(g.setSv L (.slice none 0 0)).sv L=.slice none 0 0 by simp[Gh.setSv]];exact World.ownsRow_nil w B e ie.size
theorem LX{h:Fz}{v:Value}(hr:Rep h .nils v):v=.slice none 0 0:=by cases hr;rfl
theorem uw:∀(l:List (Nat×Nat×Nat))(σ σ':St)(g:Gh),mW P l σ=some σ'→bW P nt B w0 h0 g σ a w→∃g',bW P nt B w0 h0 g' σ' a w
  | [],σ,σ',g,h,S=>by simp[mW]at h;subst h;exact⟨g,S⟩
  | (t,L,e)::l,σ,σ',g,h,S=>by
    simp only[mW]at h;split at h;rename_i ht;split at h;rename_i ie z hL hi hz;split at h;rename_i hp;have S1:=S.coerce (get:=λ_=>Dj P e) (KH JC) hL hi hz (qjK (qdU hp));have hv:a.tmps.getD t undef=.slice none 0 0:=LX (S.env t _ ht);have S2:=S1.env' (t:=t) (d:=.cl (.vec L)) (by rw[hv];simp[rO,A7,jw,Gh.setSv,Value.oneCell']) (λM hM=>by simp[cO,dD,bC]at hM;subst hM;exact⟨_,by rw[aX,eY rfl]⟩);exact uw l _ σ' _ h S2;cases h;cases h;exact uw l σ σ' g h S;cases h
theorem uy:∀(l:List (Nat×Nat×Nat×Nat))(σ σ':St)(g:Gh),mX P l σ=some σ'→bW P nt B w0 h0 g σ a w→∃g',bW P nt B w0 h0 g' σ' a w
  | [],σ,σ',g,h,S=>by simp[mX]at h;subst h;exact⟨g,S⟩
  | (bx,k,L,e)::l,σ,σ',g,h,S=>by
    simp only[mX]at h;split at h;rename_i ty cs FU;split at h;rename_i hk;split at h;rename_i ie z hL hi hz;split at h;rename_i hp;have S1:=S.coerce (get:=λ_=>Dj P e) (KH JC) hL hi hz (qjK (qdU hp));have jk:L≠bx:=λe=>by subst e;rw[hL]at FU;cases FU
    have LY:lk ({σ with ay:=(L,AO.vec e ie.size ie.bytes 0 (λ_=>Dj P e))::σ.ay}:St).ay bx=some (.box ty cs):=by
      show lk ((L,AO.vec e ie.size ie.bytes 0 (λ_=>Dj P e))::σ.ay) bx=_;rw[aX,fH jk];exact FU
    obtain⟨C,hC,hr⟩:=S1.obj bx _ LY;obtain⟨v,hv,hkv⟩:=hr.get k _ hk;have hv0:v=.slice none 0 0:=LX hkv;subst hv0;have WO:C.toList.set k (.slice none 0 0)=C.toList:=by
      apply qdk;intro j;by_cases hj:j=k;subst hj;have iM:=(Bl.1 hv).1;rw[qjR iM,hv];rw[qjs (λe=>hj e.symm)]
    have S2 := S1.write (o' := .box ty (cs.set k (.vec L))) (w' := w) LY (fun b hb => hb) (.refl B w) (fun _ _ => rfl)
      ⟨C,hC,by rw[<- WO];exact hr.set k (by simp[jw,Gh.setSv,Value.oneCell'])⟩
      (λM hM=>by
        simp only[dW,lU]at hM;obtain⟨c,hc,hM⟩:=hM;rcases qdh hc with h|h
        exact S1.clO bx _ LY M (lU.2 ⟨c,h,hM⟩);subst h;simp[bC]at hM;subst hM;exact⟨_,by rw[aX,eY rfl]⟩)
    exact uy l _ σ' _ h S2;cases h;cases h;exact uy l σ σ' g h S;cases h;cases h
theorem bW.adopt0(S:bW P nt B w0 h0 g σ a w){t:Nat}{o':AO}{g':Gh}(ht:lk σ.ay t=none)(hh:g'.h=g.h)(hs:∀M,M≠t→jl g g' M)
    (hv:∀k,¬iy g' t o' k) (hr:OX P g' w B t o') (AU:dW o'=[]):bW P nt B w0 h0 g' {σ with ay:=(t,o')::σ.ay} a w:=by
  have jk:∀L o,lk σ.ay L=some o->L≠t:=λL o h e=>by subst e;rw[ht]at h;cases h
  have fG:∀L o,lk σ.ay L=some o->jl g g' L:=λL o h=>hs L (jk L o h);have hle:kF g.h g'.h:=by rw[hh];exact λ_ _ h=>h
  have kQ:∀L o,lk ((t,o')::σ.ay) L=some o->(L=t/\o=o')\/(L≠t/\lk σ.ay L=some o):=by
    intro L o h;rw[aX]at h;split at h;rename_i e;simp only[bV]at h;exact .inl ⟨e.symm,h.symm⟩;rename_i e;exact .inr ⟨λe'=>e e'.symm,h⟩
  refine S.change (g':=g') fG hle (by rw[hh];exact S.hw) (λb o h=>.inl (by rw[hh]at h;exact h)) (.refl _ B w) ?_ ?_ ?_ ?_ ?_;intro L o ho;rcases kQ L o ho with⟨rfl,rfl⟩|⟨_,ho⟩
  exact hr;exact kz (S.obj L o ho) (fG L o ho) (λM hM=>by obtain⟨o',lq⟩:=S.clO L o ho M hM;exact fG M o' lq) hle λ_ _=>rfl;intro L o k ho hk;rcases kQ L o ho with⟨rfl,rfl⟩|⟨_,ho⟩
  exact(hv k hk).elim;rw[gZ (fG L o ho)]at hk;rw[hh];exact S.own L o k ho hk;intro L o k L' o2 ho lq hk jR;rcases kQ L o ho with⟨rfl,rfl⟩|⟨_,o9⟩<;>rcases kQ L' o2 lq with⟨rfl,rfl⟩|⟨_,nT⟩
  rfl;exact(hv k hk).elim;exact(hv k jR).elim;rw [gZ (fG L o o9)]at hk;rw [gZ (fG L' o2 nT)]at jR;exact S.sep L o k L' o2 o9 nT hk jR;intro L o ho;refine⟨o,?_⟩;rw[aX,fH (λe=>jk L o ho e.symm)];exact ho;intro L o ho M hM;rcases kQ L o ho with⟨rfl,rfl⟩|⟨_,ho⟩
  rw[AU]at hM;simp at hM;obtain⟨o2,o9⟩:=S.clO L o ho M hM;exact⟨o2,by rw[aX,fH (λe=>jk M o2 o9 e.symm)];exact o9⟩
theorem uz:∀(l:List (Nat×Nat×Nat×Nat×Nat))(σ σ':St)(g:Gh),mY P l σ=some σ'→bW P nt B w0 h0 g σ a w→∃g',bW P nt B w0 h0 g' σ' a w
  | [],σ,σ',g,h,S=>by simp[mY]at h;subst h;exact⟨g,S⟩
  | (bx,k,L,te,e)::l,σ,σ',g,h,S=>by
    simp only[mY]at h;split at h;rename_i ty cs FU;split at h;rename_i hk;split at h;rename_i it zt hL hit hzt;split at h;rename_i ie z hi hz;split at h;rename_i hp;simp only[gq]at hp;have hs1:=lH hp.1;have iU:0<ie.size:=qjK (qdU hp.2);obtain⟨zv,Hz,AQ⟩:=jo hz hi;obtain⟨tv,htv,hts⟩:=jo hzt hit;let g':=g.setVv L (.slice none 0 0) (λ_=>.slice none 0 0);have mG:g'.sv L=.slice none 0 0:=by simp[g',Gh.setVv]
    have S1 := S.adopt0 (t := L) (o' := .vv te it.bytes e ie.size ie.bytes 0 (fun _ => 0) (fun _ _ => Dj P e)) (g' := g') hL rfl ZZ
      (λk hk=>by
        rcases hk with hk|⟨i,hi,_⟩
        rw[mG]at hk;cases hk;omega)
      ⟨⟨λ_ _ _ _=>JC,iU⟩,⟨it,tv,hit,hs1,rfl,htv,by rw[hts,hs1]⟩,⟨ie,zv,hi,rfl,rfl,Hz,AQ⟩,by rw[mG];exact World.ownsRow_nil w B te 1,λi hi=>absurd hi omY,λi k hi=>absurd hi omY⟩ rfl
    have jk:L≠bx:=λe=>by subst e;rw[hL]at FU;cases FU
    have LY:lk ({σ with ay:=(L,AO.vv te it.bytes e ie.size ie.bytes 0 (λ_=>0) (λ_ _=>Dj P e))::σ.ay}:St).ay bx=some (.box ty cs):=by
      show lk ((L,AO.vv te it.bytes e ie.size ie.bytes 0 (λ_=>0) (λ_ _=>Dj P e))::σ.ay) bx=_;rw[aX,fH jk];exact FU
    obtain⟨C,hC,hr⟩:=S1.obj bx _ LY;obtain⟨v,hv,hkv⟩:=hr.get k _ hk;have hv0:v=.slice none 0 0:=LX hkv;subst hv0;have WO:C.toList.set k (.slice none 0 0)=C.toList:=by
      apply qdk;intro j;by_cases hj:j=k;subst hj;have iM:=(Bl.1 hv).1;rw[qjR iM,hv];rw[qjs (λe=>hj e.symm)]
    have S2 := S1.write (o' := .box ty (cs.set k (.vec L))) (w' := w) LY (fun b hb => hb) (.refl B w) (fun _ _ => rfl)
      ⟨C,hC,by rw[<- WO];exact hr.set k ⟨mG.symm,rfl⟩⟩
      (λM hM=>by
        simp only[dW,lU]at hM;obtain⟨c,hc,hM⟩:=hM;rcases qdh hc with h|h
        exact S1.clO bx _ LY M (lU.2 ⟨c,h,hM⟩);subst h;simp[bC]at hM;subst hM;exact⟨_,by rw[aX,eY rfl]⟩)
    exact uz l _ σ' _ h S2;cases h;cases h;cases h;exact uz l σ σ' g h S;cases h;cases h
theorem DL{ob:Nat→Option AO}:∀{ks:List Nat}{x:Nat×AO},x∈F6 ob ks→∃ty cells l,ob x.1=some (.box ty cells)∧x.2 = .fbox l∧jL ob cells=some (l,[])
  | [],x,h=>by simp[F6]at h
  | k::ks,x,h=>by
    simp only[F6]at h;split at h;rename_i ty cells hk;split at h;rename_i l hl;rcases kS.1 h with rfl|h
    exact⟨ty,cells,l,hk,rfl,hl⟩;exact DL h;exact DL h;exact DL h
theorem WP{ob:Nat->Option AO}{ks:List Nat}:fF ob (F6 ob ks):=λx hx=>by
 obtain⟨ty,cells,l,h1,h2,h3⟩:=DL hx;exact .inr (.inl ⟨ty,cells,l,[],h1,h2,SC h3,λy hy=>by simp at hy⟩)
theorem LZ{ob:Nat→Option AO}:∀{ks:List Nat},fF ob (O6 ob ks)
  | []=>fF.nil ob
  | L::r=>λx hx=>by
    simp only[O6]at hx;split at hx;rename_i e s b n get hL;rcases kS.1 hx with rfl|hx
    exact .inl ⟨_,_,_,_,_,hL,rfl⟩;exact(LZ x hx).mono λy hy=>by simp only[O6,hL];exact jW _ hy
    rename_i hn;refine(LZ x hx).mono λy hy=>?_;show y∈O6 ob (L::r);unfold O6;split;exact jW _ hy;exact hy
theorem uA:∀(l:List Nat)(σ σ':St)(g:Gh),mZ l σ=some σ'→bW P nt B w0 h0 g σ a w→∃g',bW P nt B w0 h0 g' σ' a w
  | [],σ,σ',g,h,S=>by simp[mZ]at h;subst h;exact⟨g,S⟩
  | t::r,σ,σ',g,h,S=>by
    unfold mZ at h;split at h;rename_i x hx;have hv:=S.env t _ hx;split at h;exact uA r _ σ' g h S;split at h;rename_i v u hf;obtain⟨h',S1,F⟩:=S.freeze (Z4 hf);have hr:=F.rep hf (λy hy=>hy) hv;exact uA r _ σ' _ h (S1.env' (t:=t) (d:=.p v) hr (λL hL=>by simp[cO,dD,bC]at hL));cases h;cases h
theorem zcy{P:Program}{e:Nat}{g:Gh}{x:Cl}{v:Value}(r:jw g x v):jw g (F7 P e x) v:=by
 unfold F7;split;split;exact Rep.up (.nil _ _ (KH JC)) r;exact r;exact r
theorem WQ{P:Program}{e:Nat}{x:Cl}:bC (F7 P e x)=bC x:=by
 unfold F7;split;split<;>rfl;rfl
theorem zin{P:Program}{e b:Nat}{g:Gh}{cs:List Cl}{vs:List Value}(r:RL (jw g) cs vs):RL (jw g) (VP b (F7 P e) cs) vs:=by
 unfold VP;split;rename_i x hx;obtain⟨v,hv,yz⟩:=r.get b _ hx;have:=r.set b (a:=F7 P e x) (b:=v) (zcy yz);have e:vs.set b v=vs:=by
  obtain⟨iM,hv⟩:=Bl.1 hv;rw[<- hv,jqP]
 rwa[e]at this;exact r
theorem WR{P:Program}{e b:Nat}{cs:List Cl}{M:Nat}(h:M∈(VP b (F7 P e) cs).flatMap bC):M∈cs.flatMap bC:=by
 unfold VP at h;split at h;rename_i x hx;obtain⟨c,hc,hM⟩:=lU.1 h;rcases qdh hc with hc|rfl
 exact lU.2 ⟨c,hc,hM⟩;rw [WQ]at hM;exact lU.2 ⟨x,Ko hx,hM⟩;exact h
theorem DN{α:Type}{k:Nat}{x:α}:∀{l:List (Nat×α)},(∃y,lk l k=some y)→∀n,lk (ZQ k x l) n=lk ((k,x)::l) n
  | [],⟨_,h⟩,_=>by cases h
  | (j,y)::r,h,n=>by
    unfold ZQ;cases hb:Nat.beq j k with
    | true =>
      have:=lH hb;subst this;simp only[aX];split<;>rfl
    | false =>
      have jk:=qdz hb;obtain⟨z,hz⟩:=h;rw[aX,fH jk]at hz;have ih:=DN (x:=x) ⟨z,hz⟩ n;simp only[aX]at ih ⊢;by_cases h1:j=n;rw[eY h1,fH (λe=>jk (h1.trans e.symm)),eY h1];rw[fH h1,ih,fH h1]
theorem bW.lk_congr(S:bW P nt B w0 h0 g σ a w){τ:St}(h1:∀L,lk τ.env L=lk σ.env L)(h2:∀L,lk τ.ay L=lk σ.ay L):bW P nt B w0 h0 g τ a w :=
 ⟨S.dfr,S.size,λt d ht=>S.env t d (by rw[<- h1];exact ht),λL o ho=>S.obj L o (by rw[<- h2];exact ho),λL o b ho=>S.own L o b (by rw[<- h2];exact ho),
  λL o b L' o' ho lq=>S.sep L o b L' o' (by rw[<- h2];exact ho) (by rw[<- h2];exact lq),S.hw,S.le0,S.hn,S.below,S.bs,
  λt d ht L hL=>by rw[h2];exact S.clE t d (by rw[<- h1];exact ht) L hL,λL o ho M hM=>by rw[h2];exact S.clO L o (by rw[<- h2];exact ho) M hM⟩
theorem zeQ{k b e L:Nat}(S:bW P nt B w0 h0 g σ a w):bW P nt B w0 h0 g (nf1 P k L b e σ) a w:=by
 unfold nf1;split;split;rename_i x hx;exact(S.env' (d:=.one (.c (F7 P e x))) (zcy (S.env L _ hx)) λM hM=>S.clE L _ hx M (by simpa [cO,dD,WQ]using hM)).lk_congr (DN ⟨_,hx⟩) λ_=>rfl;rename_i cs hx;obtain⟨vs,hv,hr⟩:=S.env L _ hx;exact(S.env' (d:=.one (.agg (VP b (F7 P e) cs))) ⟨vs,hv,zin hr⟩ λM hM=>S.clE L _ hx M (WR hM)).lk_congr (DN ⟨_,hx⟩) λ_=>rfl;exact S;split;rename_i ty cs hL;obtain⟨D,hD,hr⟩:=S.obj L _ hL;exact(S.write2 (w':=w) (o':=.box ty (VP b (F7 P e) cs)) hL (λ_ h=>h) (.refl B w) (λ_ _ _=>rfl) ⟨D,hD,zin hr⟩ λM hM=>S.clO L _ hL M (WR hM)).lk_congr (λ_=>rfl) (DN ⟨_,hL⟩);exact S
theorem Ba:∀{l:List (Nat×Nat×Nat×Nat)}{σ:St},bW P nt B w0 h0 g σ a w→bW P nt B w0 h0 g (Js P l σ) a w|[],_,S=>S|(_,_,_,_)::l,_,S=>Ba (l:=l) (zeQ S)
theorem Tc{k:Keep}{s:St}{g:Gh}{σ:St}(h:yP P k σ=some s)(S:bW P nt B w0 h0 g σ a w):∃g',bW P nt B w0 h0 g' s a w:=by
 unfold yP at h;split at h;cases h;rename_i σ1 h1;obtain⟨g1,S1⟩:=uw k.coT σ σ1 g h1 S;split at h;cases h;rename_i σ2 h2;obtain⟨g2',S2'⟩:=uy k.coB σ1 σ2 g1 h2 S1;split at h;cases h;rename_i σ3 h3;obtain⟨g2,S2⟩:=uz k.coV σ2 σ3 g2' h3 S2';simp only[]at h;split at h;rename_i AX;simp only[bV]at h;subst h;simp only[gq,zQ]at AX;obtain⟨FH,hc2⟩:=AX;have ZF:∀{jA l:List Nat},ZP jA l=true->∀L∈l,L∈jA:=by
  intro jA l h L hL;have:=zQ.1 h L hL;simpa using this
 refine⟨g2,S2.dfr,S2.size,?_,?_,?_,?_,S2.hw,S2.le0,S2.hn,S2.below,S2.bs,?_,?_⟩;intro t d ht;obtain⟨y,h1,rfl,_⟩:=lL ht;exact zim (S2.env t y h1);intro L o ho;obtain⟨y,h1,rfl,_⟩:=lL ho;exact zeP (S2.obj L y h1);intro L o b ho hb;obtain⟨y,h1,rfl,_⟩:=lL ho;rw[Ik]at hb;exact S2.own L y b h1 hb;intro L o b L' o' ho lq hb mJ;obtain⟨y,h1,rfl,_⟩:=lL ho;obtain⟨y',h1',rfl,_⟩:=lL lq;rw[Ik]at hb mJ;exact S2.sep L y b L' y' h1 h1' hb mJ;intro t d ht L hL;have hm:=ZF (FH (t,d) (fO ht)) L hL;obtain⟨y,h1,rfl,_⟩:=lL ht;obtain⟨o,ho⟩:=S2.clE t y h1 L (zai L hL);exact⟨_,qR ho hm⟩;intro L o ho M hM;have hm:=ZF (hc2 (L,o) (fO ho)) M hM;obtain⟨y,h1,rfl,_⟩:=lL ho;obtain⟨o',lq⟩:=S2.clO L y h1 M (WN M hM);exact⟨_,qR lq hm⟩;cases h
theorem zaj{n:Nat}(S:bW P nt B w0 h0 g σ a w):∃g',bW P nt B w0 h0 g' (zeq σ n) a w:=by
  unfold zeq;generalize (n-1000000)/64=bx;generalize (n-1000000)%64=kx;split;exact⟨g,S⟩;split;rename_i ty cs FU;split;rename_i L hk;split;rename_i e s b len get hL;obtain⟨h',S1,F⟩:=S.freeze (u:=[(L,.fvec s len get)]) (λx hx=>by
    simp only[lN]at hx;subst hx;exact .inl ⟨_,_,_,_,_,hL,rfl⟩)
  have jk:L≠bx:=λe=>by subst e;rw[hL]at FU;cases FU
  have LY:lk ([(L,AO.fvec s len get)]++σ.ay) (bx)=some (.box ty cs):=by
    show lk ((L,AO.fvec s len get)::σ.ay) _=_;rw[aX,fH jk];exact FU
  obtain⟨C,hC,hr⟩:=S1.obj _ _ LY;obtain⟨v,hv,hkv⟩:=hr.get _ _ hk;have zg4:Rep h' (.sl len s get) v:=by
    have hkv:v=g.sv L/\_:=hkv;rw[hkv.1];exact F.vec L e s b len get hL (by simp)
  have WO:C.toList.set kx v=C.toList:=by
    apply qdk;intro j;by_cases hj:j=kx;subst hj;have iM:=(Bl.1 hv).1;rw[qjR iM,hv];rw[qjs (λe=>hj e.symm)]
  have S2 := S1.write (o' := .box ty (cs.set kx (.p (.sl len s get)))) (w' := w) LY (fun b hb => hb) (.refl B w) (fun _ _ => rfl)
    ⟨C,hC,by rw[<- WO];exact hr.set _ zg4⟩
    (λM hM=>by
      simp only[dW,lU]at hM;obtain⟨c,hc,hM⟩:=hM;rcases qdh hc with h|h
      exact S1.clO _ _ LY M (lU.2 ⟨c,h,hM⟩);subst h;simp[bC]at hM)
  exact⟨_,S2⟩;exact⟨g,S⟩;exact⟨g,S⟩;exact⟨g,S⟩
theorem QA:∀(l:List Nat)(σ:St)(g:Gh),bW P nt B w0 h0 g σ a w→∃g',bW P nt B w0 h0 g' (coP l σ) a w
  | [],σ,g,S=>⟨g,S⟩
  | n::r,σ,g,S=>by
    obtain⟨g1,S1⟩:=zaj (n:=n) S;exact QA r _ g1 S1
theorem eU{k:Keep}{s:St}(h:canon P k σ=some s)(S:bW P nt B w0 h0 g σ a w):∃g',bW P nt B w0 h0 g' s a w:=by
 obtain⟨h',S1,_⟩:=S.freeze ((WP (ob:=lk σ.ay) (ks:=k.coF)).append (LZ (ob:=lk σ.ay) (ks:=k.coF)));unfold canon at h;split at h;rename_i s1 h1;obtain⟨g0,S0⟩:=QA k.coF (zep k.coF σ) _ S1;obtain⟨g1,S2⟩:=uA k.coZ (coP k.coF (zep k.coF σ)) s1 _ h1 S0;split at h;rename_i s2 h2;obtain⟨g2,S3⟩:=Tc h2 S2;cases h;exact⟨g2,Ba S3⟩;cases h;cases h
end
end Go.Pm
namespace Go.Pm
variable [aC]
open Go.RowKit (Below)
section
variable{P:Program}{Γ:bK}{nt B:Nat}{w0:World}{h0:Fz}{g:Gh}{σ:St}{a:Act}{w:World}{r:Option Nat}{n i:Nat}{Q:Exit->Act->World->Prop}
theorem JD{o:Oper}{R R':Act->World->Prop}(h:o.wpIn (FR r) n P a w R Q)(hR:∀a w,R a w->R' a w):o.wpIn (FR r) n P a w R' Q:=by
 refine⟨h.1,?_⟩;have h2:=h.2;generalize (o.semAt (FR r).round a.eval).run P w=res at h2 ⊢
 match res,h2 with
 | .ok (.value v) w',h2=>exact hR _ _ h2
 | .ok .skip w',h2=>exact hR _ _ h2
 | .ok (.defer d) w',h2=>exact hR _ _ h2
 | .ok (.enter f args) w',h2 =>
  refine⟨h2.1,h2.2.mono ?_⟩;intro e Ar he;cases e with|returned v=>exact hR _ _ he|panicked ch=>exact he|outgrown=>exact he
 | .ok (.row row args) w',h2=>exact⟨h2.1,h2.2.mono λv Ar hv=>hR _ _ hv⟩
 | .ok (.round l f tmps x y) w',h2 =>
  refine⟨h2.1,h2.2.mono ?_⟩;intro e Ar he;cases e with|returned v=>exact hR _ _ he|panicked ch=>exact he|outgrown=>exact he
 | .halt (.panic v) w',h2=>exact h2
theorem zoQ{o:Oper}{R:Act->World->Prop}{Q':Exit->Act->World->Prop}(h:o.wpIn (FR r) n P a w R Q')(hp:∀ch a w,Q' (.panic ch) a w->Q (.panic ch) a w)(ho:LetsOut Q'->LetsOut Q):o.wpIn (FR r) n P a w R Q:=by
 refine⟨h.1,?_⟩;have h2:=h.2;generalize (o.semAt (FR r).round a.eval).run P w=res at h2 ⊢
 match res,h2 with
 | .ok (.value v) w',h2=>exact h2
 | .ok .skip w',h2=>exact h2
 | .ok (.defer d) w',h2=>exact h2
 | .ok (.enter f args) w',h2 =>
  refine⟨h2.1,h2.2.mono ?_⟩;intro e Ar he;cases e with|returned v=>exact he|panicked ch=>exact hp _ _ _ he|outgrown=>exact ho he
 | .ok (.row row args) w',h2=>exact h2
 | .ok (.round l f tmps x y) w',h2 =>
  refine⟨h2.1,h2.2.mono ?_⟩;intro e Ar he;cases e with|returned v=>exact he|panicked ch=>exact hp _ _ _ he|outgrown=>exact ho he
 | .halt (.panic v) w',h2=>exact hp _ _ _ h2
theorem rU {ops : Array Oper} {l2 : List Nat} : ∀ (l1 : List Nat) (a : Act) (w : World), wpOpsIn (FR r) n P ops (fun e a w => match e with | .normal => wpOpsIn (FR r) n P ops Q l2 a w | e => Q e a w) l1 a w → wpOpsIn (FR r) n P ops Q (l1 ++ l2) a w
  | [],a,w,h=>h
  | i::l1,a,w,h=>by
    simp only[qdT,wpOpsIn]at h ⊢;split at h;exact rU l1 a w h;split at h;rename_i hw;rw[eY hw];exact zoQ (JD h λa w h=>rU l1 a w h) (λch a w h=>h) (λ⟨a,w,h⟩=>⟨a,w,h⟩);rename_i hw;rw[fH hw];exact⟨h.1,rU l1 _ w h.2⟩
theorem zak{o:Oper}{R:Act->World->Prop}(h:o.wpIn (FR r) n P a w R Q):o.wpIn (FR r) n P a w (λa' w'=>R a' w'/\∃v ds,a'=({a with defers:=ds}:Act).put o.dst v) Q:=by
 refine⟨h.1,?_⟩;have h2:=h.2;generalize (o.semAt (FR r).round a.eval).run P w=res at h2 ⊢
 match res,h2 with
 | .ok (.value v) w',h2=>exact⟨h2,v,a.defers,rfl⟩
 | .ok .skip w',h2=>exact⟨h2,undef,a.defers,rfl⟩
 | .ok (.defer d) w',h2=>exact⟨h2,undef,d::a.defers,rfl⟩
 | .ok (.enter f args) w',h2 =>
  refine⟨h2.1,h2.2.mono ?_⟩;intro e Ar he;cases e with|returned v=>exact⟨he,v,a.defers,rfl⟩|panicked ch=>exact he|outgrown=>exact he
 | .ok (.row row args) w',h2=>exact⟨h2.1,h2.2.mono λv Ar hv=>⟨hv,v,a.defers,rfl⟩⟩
 | .ok (.round l f tmps x y) w',h2 =>
  refine⟨h2.1,h2.2.mono ?_⟩;intro e Ar he;cases e with|returned v=>exact⟨he,v,a.defers,rfl⟩|panicked ch=>exact he|outgrown=>exact he
 | .halt (.panic v) w',h2=>exact h2
def Kp(D:List Nat)(a a':Act):Prop:=(∀t,t∉D->a'.tmps.getD t undef=a.tmps.getD t undef)/\a'.tmps.size=a.tmps.size/\(H7∉D->a'.defers=a.defers)/\∀d∈a'.defers,d∈a.defers\/∃b,d.target=.collected b
theorem Kp.refl(D:List Nat)(a:Act):Kp D a a:=⟨λ_ _=>rfl,rfl,λ_=>rfl,λ_ h=>.inl h⟩
theorem Kp.put{D:List Nat}{a0 a:Act}(h:Kp D a0 a){dst:Option Nat}(hd:∀t,dst=some t->t∈D)(v:Value)(ds:List Deferred)(PR:ds=a.defers):Kp D a0 (({a with defers:=ds}:Act).put dst v):=by
 subst PR;cases dst with
 | none=>exact h
 | some t =>
  refine⟨λu hu=>?_,by simp[Act.put,h.2.1],λhr=>h.2.2.1 hr,λd hd=>h.2.2.2 d hd⟩;have jk:t≠u:=λe=>hu (e▸hd t rfl);rw[<- h.1 u hu];simp[Act.put,yA,qdH jk]
theorem wZ{ops:Array Oper}{tmps:Array Value}{j g:Nat}{b:Bool}(hg:(ops[j]?).bind (·.dst)=some g)(hv:tmps.getD g undef=.bool b):yielded ops tmps j=some b:=by
 unfold yielded;rw[hg];simp only[jqi];rw[yA]at hv;cases h:tmps[g]? with|none=>rw[h]at hv;simp[undef]at hv|some v=>rw[h]at hv;simp only[qdM]at hv;subst hv;rfl
theorem uC{ops:Array Oper}{tmps:Array Value}{j g:Nat}(hg:(ops[j]?).bind (·.dst)=some g)(hv:tmps.getD g undef=undef):yielded ops tmps j=none:=by
 unfold yielded;rw[hg];simp only[jqi];rw[yA]at hv;cases h:tmps[g]? with|none=>rfl|some v=>rw[h]at hv;simp only[qdM]at hv;subst hv;rfl
theorem bW.skip(S:bW P nt B w0 h0 g σ a w){dst:Option Nat}(hd:dI nt dst=true):bW P nt B w0 h0 g (σ.skip dst) (a.put dst undef) w:=by
 have:=S.put (d:=.cl .undef) (v:=undef) hd rfl (λL hL=>by simp[cO,dD,bC]at hL) σ.log;cases dst<;>exact this
theorem zg(gy:jF P Γ){ops:Array Oper}{K:St→Prop}{D:List Nat}{a0:Act}{ad:List Deferred}(hD:∀(j:Nat)(o:Oper),ops[j]? = some o→∀t,o.dst=some t→t∈D)
    (hQ:∀σ',K σ'->∀g' a' w',bW P nt B w0 h0 g' σ' a' w'->Kp D a0 a'->a'.defers=ad->Q .normal a' w') :
    ∀(l:List Oper)(i:Nat)(σ:St)(g:Gh)(a:Act)(w:World),(∀j,j<l.length->l[j]? = ops[i+j]?)->kL P Γ nt ops i l K σ->bW P nt B w0 h0 g σ a w->Kp D a0 a->a.defers=ad ->
      wpOpsIn (FR r) n P ops Q (List.range' i l.length) a w:=by
  intro l
  induction l with
  | nil=>intro i σ g a w _ h S hk had;exact hQ σ h g a w S hk had
  | cons o l ih =>
    intro i σ g a w hl h S lG had;have ho:ops[i]? = some o:=by have:=hl 0 (by simp);simpa using this.symm
    have Aq:∀j,j<l.length->l[j]? = ops[i+1+j]?:=λj hj=>by have:=hl (j+1) (by rw[Bo];omega);rw[ZH]at this;rw[this];congr 1;omega
    simp only[Bo,ZJ,wpOpsIn,ho];simp only[kL]at h;split at h;exact h.elim;rename_i hd;have run:∀(σ:St),bW P nt B w0 h0 g σ a w->nZ (act P Γ o (fV σ.env) (lk σ.ay)) (pK σ i o) i o.dst (kL P Γ nt ops (i+1) l K) σ->o.wpIn (FR r) n P a w (wpOpsIn (FR r) n P ops Q (List.range' (i+1) l.length)) Q:=by
      intro σ S h;obtain⟨hs,hk⟩:=F9.1 h;refine JD (zak (Gp (i:=i) (Q:=Q) (r:=r) (n:=n) gy S hd rfl hs)) ?_;rintro a' w' ⟨⟨FK,g',σ',FT,S'⟩,v,ds,rfl⟩;exact ih (i+1) _ g' _ w' Aq (hk σ' FT) (S'.log _) (lG.put (hD i o ho) v ds ((put_defers _ _ _).symm.trans FK)) (FK.trans had)
    have skp:∀(σ:St),bW P nt B w0 h0 g σ a w->kL P Γ nt ops (i+1) l K (σ.skip o.dst)->wpOpsIn (FR r) n P ops Q (List.range' (i+1) l.length) (a.put o.dst undef) w:=by
      intro σ S h;exact ih (i+1) _ g _ w Aq h (S.skip hd) (lG.put (hD i o ho) undef a.defers rfl) ((put_defers _ _ _).trans had)
    split at h;rename_i hg;rw[eY (by simp[Region.wanted,hg])];exact run σ S h;rename_i j want hg;split at h;exact h.elim;rename_i gt Vm;split at h
    · rename_i b hb;have hv:a.tmps.getD gt undef=.bool b:=by
        have:=S.env gt _ hb;generalize a.tmps.getD gt undef=v at this;cases this;rfl
      have hy:=wZ Vm hv;have S1:∀c,b=c->bW P nt B w0 h0 g (σ.setT gt (.bool c)) a w:=by
        intro c hc;refine S.env' (t:=gt) (d:=.bool c) ?_ (kU _);rw[hv,hc];exact .bool c
      have h2:=ru.1 h;cases b with
      | true =>
        have h3:=h2.1 rfl;cases want with|true=>rw[eY (by simp[Region.wanted,hg,hy])];exact run _ (S1 true rfl) h3|false=>rw[fH (by simp[Region.wanted,hg,hy])];exact⟨λ_ _=>trivial,skp _ (S1 true rfl) h3⟩
      | false =>
        have h3:=h2.2 rfl;cases want with|true=>rw[fH (by simp[Region.wanted,hg,hy])];exact⟨λ_ _=>trivial,skp _ (S1 false rfl) h3⟩|false=>rw[eY (by simp[Region.wanted,hg,hy])];exact run _ (S1 false rfl) h3
    rename_i hb;have hv:a.tmps.getD gt undef=undef:=S.env gt _ hb;have hy:=uC Vm hv;rw[fH (by simp[Region.wanted,hg,hy])];exact⟨λ_ _=>trivial,skp _ S h⟩;exact h.elim
theorem Il(gy:jF P Γ){ops:Array Oper}{K:St→Prop}{D:List Nat}{a0:Act}(hD:∀(j:Nat)(o:Oper),ops[j]? = some o→∀t,o.dst=some t→t∈D)
    (h:kL P Γ nt ops 0 ops.toList K σ) (S:bW P nt B w0 h0 g σ a w) (lG:Kp D a0 a)
    (hQ:∀σ',K σ'->∀g' a' w',bW P nt B w0 h0 g' σ' a' w'->Kp D a0 a'->a'.defers=a.defers->Q .normal a' w'):wpOpsIn (FR r) n P ops Q (List.range ops.size) a w:=by
  have:=zg (r:=r) (n:=n) gy hD hQ ops.toList 0 σ g a w (λj _=>by simp) h S lG rfl;rw[dqZ];simpa using this
end
end Go.Pm
namespace Go.Pm
variable [aC]
def aH.fp:aH→List (Nat×Bool)|.no=>[]|.val fp _ _ _=>fp|.chk fp _ _ _ _=>fp
def aH.u:aH→List (Nat×AO)|.no=>[]|.val _ _ u _=>u|.chk _ _ _ u _=>u
def aH.kl:aH→List Nat|.no=>[]|.val _ _ _ k=>k|.chk _ _ _ _ k=>k
def aH.gives:aH→DV→Prop|.no,_=>False|.val _ d _ _,d'=>d'=d|.chk _ _ d _ _,d'=>d'=d
def Men(o:Oper)(ev:Operand->DV)(ob:Nat->Option AO)(fp:List (Nat×Bool))(L:Nat):Prop :=
 (∃x∈o.op.operands.toList,L∈mg (ev x))\/∃y∈fp,∃o',ob y.1=some o'/\L∈qh o'
structure bZ (P : Program) (Γ : bK) (o : Oper) (ev : Operand → DV) (ob : Nat → Option AO) (A : aH) : Prop where
  wr:∀x∈A.u,(x.1,true)∈A.fp
  kl:A.kl=[]\/∃L,A.kl=[L]/\(L,true)∈A.fp
  labu:∀x∈A.u,∀L∈qh x.2,Men o ev ob A.fp L
  labd:∀d,A.gives d->∀L∈mg d,Men o ev ob A.fp L\/(L,true)∈A.fp
  congr:∀ev' ob',(∀x∈o.op.operands.toList,ev' x=ev x)->(∀y∈A.fp,ob' y.1=ob y.1)->act P Γ o ev' ob'=A
section
variable{P:Program}{Γ:bK}{o:Oper}{ev:Operand->DV}{ob:Nat->Option AO}{A:aH}
theorem bZ.pure{fp:List (Nat×Bool)}{d:DV}(hd:∀L∈mg d,Men o ev ob fp L∨(L,true)∈fp)
    (hc:∀ev' ob',(∀x∈o.op.operands.toList,ev' x=ev x)->(∀y∈fp,ob' y.1=ob y.1)->act P Γ o ev' ob'=.val fp d [] []):bZ P Γ o ev ob (.val fp d [] []) :=
  ⟨λx hx=>by simp[aH.u]at hx,.inl rfl,λx hx=>by simp[aH.u]at hx,λd' h=>by simp only[aH.gives]at h;subst h;exact hd,hc⟩
theorem bZ.pchk{fp:List (Nat×Bool)}{s:CP}{d:DV}(hd:∀L∈mg d,Men o ev ob fp L∨(L,true)∈fp)
    (hc:∀ev' ob',(∀x∈o.op.operands.toList,ev' x=ev x)->(∀y∈fp,ob' y.1=ob y.1)->act P Γ o ev' ob'=.chk fp s d [] []):bZ P Γ o ev ob (.chk fp s d [] []) :=
  ⟨λx hx=>by simp[aH.u]at hx,.inl rfl,λx hx=>by simp[aH.u]at hx,λd' h=>by simp only[aH.gives]at h;subst h;exact hd,hc⟩
theorem jf{fp:List (Nat×Bool)}(v:PV):∀L∈mg (.p v),Men o ev ob fp L\/(L,true)∈fp:=λL hL=>by simp[mg,ul,nS]at hL
theorem rV{fp:List (Nat×Bool)}{x:Operand}{d:DV}(hx:x∈o.op.operands.toList)(h:∀L∈mg d,L∈mg (ev x)):∀L∈mg d,Men o ev ob fp L\/(L,true)∈fp :=
 λL hL=>.inl (.inl ⟨x,hx,h L hL⟩)
theorem Td{c:Cl}:∀L∈nS c,L∈bC c:=by cases c<;>simp[nS,bC]
theorem Tf{ag:Bool}{m off:Nat}{cells:List Cl}{d:D1}(hr:oD ag m cells off=some d):∀L∈ul d,L∈cells.flatMap nS:=by
 cases ag with
 | true =>
  simp only[oD]at hr;split at hr;simp only [bV]at hr;subst hr;intro L hL;simp only[ul,lU]at hL ⊢;obtain⟨c,hc,hL⟩:=hL;exact⟨c,jq0 (jq1 hc),hL⟩;cases hr
 | false =>
  simp only[oD]at hr;split at hr;rename_i x hx;simp only[bV]at hr;subst hr;intro L hL;simp only[ul]at hL;exact lU.2 ⟨x,Ko hx,hL⟩;cases hr
theorem WS(cells:List PV):(cells.map Cl.p).flatMap nS=[]:=by
 induction cells with|nil=>rfl|cons c r ih=>simp[nS,ih]
theorem JE{ag:Bool}{m off:Nat}{cells:List PV}{d:D1}(hr:oD ag m (cells.map .p) off=some d):ul d=[]:=by
 have:=Tf hr;rw[WS]at this;cases hd:ul d with|nil=>rfl|cons x l=>have:=this x (by rw[hd];exact kX);simp at this
theorem BH{ob':Nat->Option AO}{c:Cl}(h:∀L∈bC c,ob' L=ob L):Aw ob' c=Aw ob c:=by
 cases c<;>first|rfl|(simp only[Aw];rw[h _ (by simp[bC])])
theorem zh{ob':Nat→Option AO}:∀{cs:List Cl},(∀L∈cs.flatMap bC,ob' L=ob L)→jL ob' cs=jL ob cs
  | [],_=>rfl
  | c::cs,h=>by
    simp only[jL];rw[BH (λL hL=>h L (by simp[hL])),zh (λL hL=>h L (by simp only[oC,dX];exact .inr hL))]
theorem zal{ob':Nat->Option AO}{c:Cl}(h:∀L∈bC c,ob' L=ob L/\∀o',ob L=some o'->∀M∈dW o',ob' M=ob M):O4 ob' c=O4 ob c:=by
 cases c with
 | ptr L off =>
  obtain⟨h1,h2⟩:=h L (by simp[bC]);simp only[O4];rw[h1];cases hL:ob L with
  | none=>rfl
  | some o' =>
   cases o' with|box ty cells=>simp only[];rw[zh (λM hM=>h2 _ hL M hM)]|_=>rfl
 | _=>exact BH λL hL=>(h L hL).1
theorem Io{ob':Nat→Option AO}:∀{cs:List Cl},(∀L∈cs.flatMap bC,ob' L=ob L∧∀o',ob L=some o'→∀M∈dW o',ob' M=ob M)→nY ob' cs=nY ob cs
  | [],_=>rfl
  | c::cs,h=>by
    simp only[nY];rw[zal (λL hL=>h L (by simp[hL])),Io (λL hL=>h L (by simp only[oC,dX];exact .inr hL))]
def DC(ob ob':Nat->Option AO)(L:Nat):Prop:=ob' L=ob L/\∀o',ob L=some o'->∀M∈dW o',ob' M=ob M/\∀o2,ob M=some o2->∀N∈dW o2,ob' N=ob N
theorem L6{ob':Nat->Option AO}{c:Cl}(h:∀L∈bC c,DC ob ob' L):Kr ob' c=Kr ob c:=by
 cases c with
 | ptr L off =>
  obtain⟨h1,h2⟩:=h L (by simp[bC]);simp only[Kr];rw[h1];cases hL:ob L with
  | none=>rfl
  | some o' =>
   cases o' with|box ty cells=>simp only[];rw[Io (λM hM=>h2 _ hL M hM)]|_=>rfl
 | _=>exact BH λL hL=>(h L hL).1
theorem Ip{ob':Nat→Option AO}:∀{cs:List Cl},(∀L∈cs.flatMap bC,DC ob ob' L)→tu ob' cs=tu ob cs
  | [],_=>rfl
  | c::cs,h=>by
    simp only[tu];rw[L6 (λL hL=>h L (by simp[hL])),Ip (λL hL=>h L (by simp only[oC,dX];exact .inr hL))]
theorem DR:∀caps:List uj,(caps.map zem).flatMap bC=lV caps|[]=>rfl|.v _::r=>by simp only[nX,oC,zem,bC,PT,lV];exact DR r|.b L::r=>by simp only[nX,oC,zem,bC,lV,qdT,PT];rw[DR r]
theorem QB{ob':Nat->Option AO}{c:Cl}(h:∀L∈bC c,DC ob ob' L):frz ob' c=frz ob c:=by
 cases c with
 | clo f caps =>
  simp only[frz];rw[Ip (ob:=ob) (ob':=ob') (cs:=caps.map zem) (λL hL=>h L (by rw[DR]at hL;exact hL))]
 | _=>exact L6 h
theorem BI{ob':Nat→Option AO}:∀{cs:List Cl},(∀L∈cs.flatMap bC,DC ob ob' L)→uk ob' cs=uk ob cs
  | [],_=>rfl
  | c::cs,h=>by
    simp only[uk];rw[QB (λL hL=>h L (by simp[hL])),BI (λL hL=>h L (by simp only[oC,dX];exact .inr hL))]
theorem ny{ob:Nat->Option AO}{d:DV}{k:Nat}:k∈bJ ob d↔∃L∈cO d,k=L\/∃o,ob L=some o/\∃M∈dW o,k=M\/∃o2,ob M=some o2/\k∈dW o2:=by
 unfold bJ;rw[lU];refine exists_congr λL=>and_congr_right λ_=>?_;rw[kS];refine or_congr_right ?_;cases ob L with
 | none=>simp
 | some o =>
  simp only[bV,exists_eq_left',lU,kS];refine exists_congr λM=>and_congr_right λ_=>or_congr_right ?_;cases ob M with|none=>simp|some o2=>simp
theorem L8{ob':Nat->Option AO}{d:DV}(h:∀L∈bJ ob d,ob' L=ob L):Az ob' d=Az ob d:=by
 have key:∀L∈cO d,DC ob ob' L:=λL hL =>
  ⟨h L (ny.2 ⟨L,hL,.inl rfl⟩),λo' lq M hM=>⟨h M (ny.2 ⟨L,hL,.inr ⟨o',lq,M,hM,.inl rfl⟩⟩),λo2 o9 N hN=>h N (ny.2 ⟨L,hL,.inr ⟨o',lq,M,hM,.inr ⟨o2,o9,hN⟩⟩⟩)⟩⟩
 cases d with
 | one d =>
  cases d with|c c=>simp only[Az];rw[QB key]|agg cs=>simp only[Az];rw[BI key]
 | tup ds=>rfl
theorem mr{ob':Nat→Option AO}:∀{ds:List DV},(∀L∈ds.flatMap (bJ ob),ob' L=ob L)→iO ob' ds=iO ob ds
  | [],_=>rfl
  | d::ds,h=>by
    simp only[iO];rw[L8 (λL hL=>h L (by simp[hL])),mr (λL hL=>h L (by simp only[oC,dX];exact .inr hL))]
theorem jE{ob':Nat->Option AO}{d:DV}(h:∀L∈bJ ob d,ob' L=ob L):bJ ob' d=bJ ob d:=by
 have fm:∀(l:List Nat)(f f':Nat->List Nat),(∀L∈l,f' L=f L)->l.flatMap f'=l.flatMap f:=by
  intro l f f'
  induction l with
  | nil=>intro _;rfl
  | cons L l ih =>
   intro h;simp only[oC];rw[h L (by simp),ih (λM hM=>h M (jW _ hM))]
 unfold bJ;refine fm _ _ _ λL hL=>?_;rw[h L (ny.2 ⟨L,hL,.inl rfl⟩)];cases hL2:ob L with
 | none=>rfl
 | some o =>
  refine jX (L :: ·) (fm _ _ _ λM hM=>?_);rw[h M (ny.2 ⟨L,hL,.inr ⟨o,hL2,M,hM,.inl rfl⟩⟩)]
theorem rD{c:Cl}{v:PV}{u:mP}(h:Aw ob c=some (v,u)):∀x∈u,x.1∈bC c/\qh x.2=[]:=by
 unfold Aw at h;split at h;simp only[bV,gJ]at h;rw[<- h.2];intro x hx;simp at hx;split at h;simp only[bV,gJ]at h;rw[<- h.2];intro x hx;simp at hx;subst hx;exact⟨by simp[bC],rfl⟩;simp only[bV,gJ]at h;rw[<- h.2];intro x hx;simp at hx;simp only[bV,gJ]at h;rw[<- h.2];intro x hx;simp only[lN]at hx;subst hx;exact⟨by simp[bC],rfl⟩;cases h;cases h
theorem rW:∀{cs:List Cl}{l:List PV}{u:mP},jL ob cs=some (l,u)→∀x∈u,x.1∈cs.flatMap bC∧qh x.2=[]
  | [],l,u,h=>by simp[jL]at h;rw[h.2];intro x hx;simp at hx
  | c::cs,l,u,h=>by
    simp only[jL]at h;split at h;rename_i v u1 l2 u2 h1 h2;simp only[bV,gJ]at h;rw[<- h.2];intro x hx;simp only[oC,dX];rcases dX.1 hx with hx|hx
    exact⟨.inl (rD h1 x hx).1,(rD h1 x hx).2⟩;exact⟨.inr (rW h2 x hx).1,(rW h2 x hx).2⟩;cases h
theorem zeR{c:Cl}{v:PV}{u:mP}(h:O4 ob c=some (v,u)):∀x∈u,(x.1∈bC c\/∃L∈bC c,∃o',ob L=some o'/\x.1∈dW o')/\qh x.2=[]:=by
 unfold O4 at h;split at h;split at h;rename_i L off _x ty cells hL;split at h;rename_i l us hl;simp only[bV,gJ]at h;rw[<- h.2];intro x hx;rcases dX.1 hx with hx|hx
 exact⟨.inr ⟨L,by simp[bC],_,hL,(rW hl x hx).1⟩,(rW hl x hx).2⟩;simp at hx;subst hx;exact⟨.inl (by simp[bC]),rfl⟩;cases h;simp only[bV,gJ]at h;rw[<- h.2];intro x hx;simp at hx;cases h;intro x hx;exact⟨.inl (rD h x hx).1,(rD h x hx).2⟩
theorem L9:∀{cs:List Cl}{l:List PV}{u:mP},nY ob cs=some (l,u)→∀x∈u,(x.1∈cs.flatMap bC∨∃L∈cs.flatMap bC,∃o',ob L=some o'∧x.1∈dW o')∧qh x.2=[]
  | [],l,u,h=>by simp[nY]at h;rw[h.2];intro x hx;simp at hx
  | c::cs,l,u,h=>by
    simp only[nY]at h;split at h;rename_i v u1 l2 u2 h1 h2;simp only[bV,gJ]at h;rw[<- h.2];intro x hx;simp only[oC,dX];rcases dX.1 hx with hx|hx
    obtain⟨h3,h4⟩:=zeR h1 x hx;refine⟨?_,h4⟩;rcases h3 with h3|⟨L,hL,o',h5,h6⟩
    exact .inl (.inl h3);exact .inr ⟨L,.inl hL,o',h5,h6⟩;obtain⟨h3,h4⟩:=L9 h2 x hx;refine⟨?_,h4⟩;rcases h3 with h3|⟨L,hL,o',h5,h6⟩
    exact .inl (.inr h3);exact .inr ⟨L,.inr hL,o',h5,h6⟩;cases h
def RC(ob:Nat->Option AO)(k:Nat)(l:List Nat):Prop:=∃L∈l,k=L\/∃o,ob L=some o/\∃M∈dW o,k=M\/∃o2,ob M=some o2/\k∈dW o2
theorem RC.mono{ob:Nat->Option AO}{k:Nat}{l m:List Nat}(h:RC ob k l)(hl:∀x∈l,x∈m):RC ob k m:=by
 obtain⟨L,h1,h2⟩:=h;exact⟨L,hl L h1,h2⟩
theorem Gq{c:Cl}{v:PV}{u:mP}(h:Kr ob c=some (v,u)):∀x∈u,RC ob x.1 (bC c)/\qh x.2=[]:=by
 unfold Kr at h;split at h;split at h;rename_i L off _x ty cells hL;split at h;rename_i l us hl;simp only[bV,gJ]at h;rw[<- h.2];intro x hx;rcases dX.1 hx with hx|hx
 obtain⟨h3,h4⟩:=L9 hl x hx;refine⟨⟨L,by simp[bC],.inr ⟨_,hL,?_⟩⟩,h4⟩;rcases h3 with h3|⟨M,hM,o2,h5,h6⟩
 exact⟨x.1,h3,.inl rfl⟩;exact⟨M,hM,.inr ⟨o2,h5,h6⟩⟩;simp at hx;subst hx;exact⟨⟨L,by simp[bC],.inl rfl⟩,rfl⟩;cases h;simp only[bV,gJ]at h;rw[<- h.2];intro x hx;simp at hx;cases h;intro x hx;exact⟨⟨x.1,(rD h x hx).1,.inl rfl⟩,(rD h x hx).2⟩
theorem BJ:∀{cs:List Cl}{l:List PV}{u:mP},tu ob cs=some (l,u)→∀x∈u,RC ob x.1 (cs.flatMap bC)∧qh x.2=[]
  | [],l,u,h=>by simp[tu]at h;rw[h.2];intro x hx;simp at hx
  | c::cs,l,u,h=>by
    simp only[tu]at h;split at h;rename_i v u1 l2 u2 h1 h2;simp only[bV,gJ]at h;rw[<- h.2];intro x hx;simp only[oC];rcases dX.1 hx with hx|hx
    exact⟨(Gq h1 x hx).1.mono λy hy=>dX.2 (.inl hy),(Gq h1 x hx).2⟩;exact⟨(BJ h2 x hx).1.mono λy hy=>dX.2 (.inr hy),(BJ h2 x hx).2⟩;cases h
theorem Mc{c:Cl}{v:PV}{u:mP}(h:frz ob c=some (v,u)):∀x∈u,RC ob x.1 (bC c)/\qh x.2=[]:=by
 unfold frz at h;split at h;rename_i f caps;split at h;rename_i l us hl;simp only[bV,gJ]at h;obtain⟨rfl,rfl⟩:=h;have:=BJ hl;rw[DR]at this;exact this;cases h;exact Gq h
theorem zW:∀{cs:List Cl}{l:List PV}{u:mP},uk ob cs=some (l,u)→∀x∈u,RC ob x.1 (cs.flatMap bC)∧qh x.2=[]
  | [],l,u,h=>by simp[uk]at h;rw[h.2];intro x hx;simp at hx
  | c::cs,l,u,h=>by
    simp only[uk]at h;split at h;rename_i v u1 l2 u2 h1 h2;simp only[bV,gJ]at h;rw[<- h.2];intro x hx;simp only[oC];rcases dX.1 hx with hx|hx
    exact⟨(Mc h1 x hx).1.mono λy hy=>dX.2 (.inl hy),(Mc h1 x hx).2⟩;exact⟨(zW h2 x hx).1.mono λy hy=>dX.2 (.inr hy),(zW h2 x hx).2⟩;cases h
theorem QC{d:DV}{v:PA}{u:mP}(h:Az ob d=some (v,u)):∀x∈u,x.1∈bJ ob d/\qh x.2=[]:=by
 have deep:∀k,RC ob k (cO d)->k∈bJ ob d:=λk hk=>ny.2 hk;unfold Az at h;split at h;split at h;rename_i v' u' h1;simp only[bV,gJ]at h;rw[<- h.2];intro x hx;obtain⟨h3,h4⟩:=Mc h1 x hx;exact⟨deep _ h3,h4⟩;cases h;split at h;rename_i v' u' h1;simp only[bV,gJ]at h;rw[<- h.2];intro x hx;obtain⟨h3,h4⟩:=zW h1 x hx;exact⟨deep _ h3,h4⟩;cases h;cases h
theorem BK:∀{ds:List DV}{l:List PA}{u:mP},iO ob ds=some (l,u)→∀x∈u,x.1∈ds.flatMap (bJ ob)∧qh x.2=[]
  | [],l,u,h=>by simp[iO]at h;rw[h.2];intro x hx;simp at hx
  | d::ds,l,u,h=>by
    simp only[iO]at h;split at h;rename_i v u1 l2 u2 h1 h2;simp only[bV,gJ]at h;rw[<- h.2];intro x hx;simp only[oC,dX];rcases dX.1 hx with hx|hx
    exact⟨.inl (QC h1 x hx).1,(QC h1 x hx).2⟩;exact⟨.inr (BK h2 x hx).1,(BK h2 x hx).2⟩;cases h
end
end Go.Pm
namespace Go.Pm
variable [aC]
section
variable{P:Program}{Γ:bK}{o:Oper}{ev:Operand->DV}{ob:Nat->Option AO}{A:aH}
theorem fmc{α β:Type}{f h:α→List β}:∀{l:List α},(∀x∈l,f x=h x)→l.flatMap f=l.flatMap h|[],_=>rfl|x::l,hf=>by simp only[oC];rw[hf x kX,fmc λy hy=>hf y (jW _ hy)]
theorem zcA{x:Operand}(aZ:o.op=.move x\/o.op=.assign x):bZ P Γ o ev ob (.val [] (ev x) [] []):=by
 have hx:x∈o.op.operands.toList:=by rcases aZ with h|h<;>simp[h,Op.operands]
 refine bZ.pure (rV hx λL hL=>hL) λev' ob' he _=>?_;rcases aZ with h|h<;>simp only[act,h,he x hx]
theorem zoR{b:Bool}{x y:DV}:∀L∈mg (AZ b x y),L∈mg x\/L∈mg y:=by
 unfold AZ;split;intro L hL;simp[mg,ul,nS]at hL
 ·cases b with|true=>exact λL hL=>.inl hL|false=>exact λL hL=>.inr hL
theorem zoS{c x y:Operand}{t:Bool}(aZ:o.op=.pick c x y)(hc:ev c=.one (.c (.p (.bool t)))):bZ P Γ o ev ob (.val [] (AZ t (ev x) (ev y)) [] []):=by
 have hcm:c∈o.op.operands.toList:=by simp[aZ,Op.operands]
 have hx:x∈o.op.operands.toList:=by simp[aZ,Op.operands]
 have hy:y∈o.op.operands.toList:=by simp[aZ,Op.operands]
 refine bZ.pure (λL hL=>?_) λev' ob' he _=>?_;rcases zoR L hL with h|h
 exact .inl (.inl ⟨x,hx,h⟩);exact .inl (.inl ⟨y,hy,h⟩);simp only[act,aPk,aZ,he c hcm,he x hx,he y hy,hc]
theorem Ti{ao:AO}{d:Nat→DV}(hlo:∀L∈qh ao,Men o ev ob [] L)(hld:∀t,∀L∈mg (d t),L=t)
    (hc:∀ev' ob',(∀x∈o.op.operands.toList,ev' x=ev x)->act P Γ o ev' ob'=FY ob' o.dst ao d) (hA:FY ob o.dst ao d=A) (hs:A.safe):bZ P Γ o ev ob A:=by
  have tq:=hA;unfold FY at hA;split at hA;rename_i t ht;split at hA;rename_i hn;subst hA;have men:∀L,Men o ev ob [] L->Men o ev ob [(t,true)] L:=λL h=>h.imp_right λ⟨y,hy,_⟩=>by simp at hy
  refine⟨λx hx=>?_,.inl rfl,λx hx L hL=>?_,λd' gI L hL=>?_,λev' ob' he cZ=>?_⟩;simp only[aH.u,lN]at hx;subst hx;simp[aH.fp];simp only[aH.u,lN]at hx;subst hx;exact men L (hlo L hL);simp only[aH.gives]at gI;subst gI;rw[hld t L hL];exact .inr (by simp[aH.fp]);rw [hc ev' ob' he];have:=cZ (t,true) (by simp[aH.fp]);simp only at this;simp only[FY,ht,this,hn];subst hA;exact hs.elim;subst hA;exact hs.elim
theorem zcB{t:TypeId}{z:List Cl}(h:iw P t=some z):z.flatMap nS=[]:=by
 have h1:=Qg h;cases hz:z.flatMap nS with
 | nil=>rfl
 | cons L l =>
  have:L∈z.flatMap nS:=by rw[hz];exact kX
  obtain⟨c,hc,hL⟩:=lU.1 this;have:L∈z.flatMap bC:=lU.2 ⟨c,hc,Td L hL⟩;rw[h1]at this;simp at this
theorem Tj(d:D1):d.cells.flatMap nS=ul d:=by cases d<;>simp[D1.cells,ul]
theorem WT{t:TypeId}:∀(parts:List (Nat×Operand))(z l:List Cl),iV P t ev z parts=some l→∀L∈l.flatMap nS,L∈z.flatMap nS∨∃x∈parts,L∈mg (ev x.2)
  | [],z,l,h=>by simp[iV]at h;subst h;exact λL hL=>.inl hL
  | (i,x)::r,z,l,h=>by
    simp only[iV]at h;split at h;rename_i d hd;have zRP:∀(l' l:List Cl)(off:Nat),∀L∈(spl l off l').flatMap nS,L∈l.flatMap nS\/L∈l'.flatMap nS:=by
      intro l'
      induction l' with
      | nil=>intro l off L hL;exact .inl hL
      | cons c l' ih =>
        intro l off L hL;simp only[spl]at hL;rcases ih _ _ L hL with h|h
        obtain⟨c',hc',RI⟩:=lU.1 h;rcases qdh hc' with h2|h2
        exact .inl (lU.2 ⟨c',h2,RI⟩);subst h2;exact .inr (lU.2 ⟨c',kX,RI⟩);exact .inr (by simp only[oC,dX];exact .inr h)
    have step:∀off,iV P t ev (spl z off d.cells) r=some l->∀L∈l.flatMap nS,L∈z.flatMap nS\/∃y∈(i,x)::r,L∈mg (ev y.2):=by
      intro off hb L hL;rcases WT r _ l hb L hL with h|⟨y,hy,hL⟩
      rcases zRP _ _ _ L h with h|h
      exact .inl h;refine .inr ⟨(i,x),kX,?_⟩;simp only[hd,mg];rw[<- Tj];exact h;exact .inr ⟨y,jW _ hy,hL⟩
    split at h;split at h;split at h;split at h;exact step _ h;cases h;cases h;cases h;split at h;split at h;exact step _ h;cases h;cases h;cases h;cases h
theorem DT{ev':Operand→DV}{t:TypeId}:∀(parts:List (Nat×Operand))(z:List Cl),(∀x∈parts,ev' x.2=ev x.2)→iV P t ev' z parts=iV P t ev z parts
  | [],z,_=>rfl
  | (i,x)::r,z,h=>by
    have hx:ev' x=ev x:=h (i,x) kX;have ih:∀z,iV P t ev' z r=iV P t ev z r:=λz=>DT r z λy hy=>h y (jW _ hy);simp only[iV,hx,ih]
theorem Bd{ev':Operand->DV}{ob':Nat->Option AO}{s:Nat}:∀(parts:List (Nat×Operand))(i:Nat)(ls:List (List PV))(u:mP)(jA:List Nat),jG ob ev s i parts=some (ls,u,jA) ->
  (∀x∈parts,ev' x.2=ev x.2)->(∀L∈jA,ob' L=ob L)->jG ob' ev' s i parts=some (ls,u,jA)
 | [],i,ls,u,jA,h,_,_=>by simpa [jG]using h
 | (j,x)::r,i,ls,u,jA,h,he,cZ=>by
  have hx:ev' x=ev x:=he (j,x) kX;simp only[jG]at h ⊢;rw[hx];split at h;rename_i Jm;split at h;rename_i d hd;split at h;rename_i l u1 ls' us zvf h1 h2;split at h;rename_i hlen;simp only[bV,gJ]at h;obtain⟨rfl,rfl,rfl⟩:=h;have e1:jL ob' d.cells=some (l,u1):=by
   rw[<- h1];refine zh λL hL=>cZ L (dX.2 (.inl ?_));cases d<;>simpa [D1.cells,dD]using hL
  have e2:=Bd r (i+1) ls' us zvf h2 (λy hy=>he y (jW _ hy)) (λL hL=>cZ L (dX.2 (.inr hL)));simp only[e1,e2,hlen];cases h;cases h;cases h;cases h
theorem xe{s:Nat}:∀(parts:List (Nat×Operand))(i:Nat)(ls:List (List PV))(u:mP)(jA:List Nat),jG ob ev s i parts=some (ls,u,jA)→∀x∈u,x.1∈jA∧qh x.2=[]
  | [],i,ls,u,jA,h=>by simp[jG]at h;rw[h.2.1];intro x hx;simp at hx
  | (j,x)::r,i,ls,u,jA,h=>by
    simp only[jG]at h;split at h;split at h;rename_i d hd;split at h;rename_i l u1 ls' us zvf h1 h2;split at h;simp only [bV,gJ]at h;obtain⟨rfl,rfl,rfl⟩:=h;intro y hy;rcases dX.1 hy with hy|hy
    obtain⟨h3,h4⟩:=rW h1 y hy;refine⟨dX.2 (.inl ?_),h4⟩;cases d<;>simpa [D1.cells,dD]using h3;obtain⟨h3,h4⟩:=xe r _ _ _ _ h2 y hy;exact⟨dX.2 (.inr h3),h4⟩;cases h;cases h;cases h;cases h
theorem zio{t:TypeId}{parts:Array (Nat×Operand)}{z l:List Cl}(aZ:o.op = .build t parts)(hf:yM P t=true)(hz:iw P t=some z)(hl:iV P t ev z parts.toList=some l) :
  bZ P Γ o ev ob (.val [] (.one (.agg l)) [] []):=by
 have hm:∀x∈parts.toList,x.2∈o.op.operands.toList:=λx hx=>by
  simp only[aZ,Op.operands];exact uV.2 ⟨x,hx,rfl⟩
 refine bZ.pure (λL hL=>?_) λev' ob' he _=>?_;rcases WT _ _ _ hl L hL with h|⟨x,hx,h⟩
 rw[zcB hz]at h;simp at h;exact .inl (.inl ⟨x.2,hm x hx,h⟩);simp only[act,aBd,aZ,hf,hz,DT parts.toList z (λx hx=>he x.2 (hm x hx)),hl]
theorem Md{l:List Nat}{L:Nat}(h:L∈l):(L,true)∈wr l:=uV.2 ⟨L,h,rfl⟩
theorem Ph{t:TypeId}{n:Nat}{parts:Array (Nat×Operand)}(aZ:o.op=.buildSlice t n parts)(hA:act P Γ o ev ob=A)(hs:A.safe):bZ P Γ o ev ob A:=by
 have hm:∀x∈parts.toList,x.2∈o.op.operands.toList:=λx hx=>by
  simp only[aZ,Op.operands];exact uV.2 ⟨x,hx,rfl⟩
 simp only[act,aBs,aZ]at hA;split at hA;rename_i e hu;split at hA;rename_i ie hie;split at hA;rename_i ls u jA hp;split at hA;rename_i z dst hb hz hd;split at hA;rename_i hn;subst hA;refine⟨λx hx=>?_,.inl rfl,λx hx L hL=>?_,λd' gI L hL=>?_,λev' ob' he cZ=>?_⟩;simp only [aH.u,kS]at hx;simp only[aH.fp,dX];rcases hx with rfl|hx
 exact .inr (by simp);exact .inl (Md (xe _ _ _ _ _ hp x hx).1);simp only [aH.u,kS]at hx;rcases hx with rfl|hx
 simp[qh]at hL;rw[(xe _ _ _ _ _ hp x hx).2]at hL;simp at hL;simp only [aH.gives]at gI;subst gI;simp only[mg,ul,nS,lN]at hL;subst hL;exact .inr (by simp[aH.fp]);have e1:=Bd (ev':=ev') (ob':=ob') _ _ _ _ _ hp (fun x hx=>he x.2 (hm x hx)) (fun L hL=>cZ (L,true) (dX.2 (.inl (Md hL))));have e2:=cZ (dst,true) (dX.2 (.inr (by simp)));simp only at e2;simp only[act,aBs,aZ,hu,hie,e1,hb,hz,hd,e2,hn];subst hA;exact hs.elim;subst hA;exact hs.elim;subst hA;exact hs.elim;subst hA;exact hs.elim;subst hA;exact hs.elim
theorem zyz{L:Nat}{ao:AO}{w:Bool}{d:D1}(hL:ob L=some ao)(h:∀M∈ul d,M∈qh ao):∀M∈mg (.one d),Men o ev ob [(L,w)] M\/(M,true)∈[(L,w)] :=
 λM hM=>.inl (.inr ⟨(L,w),by simp,ao,hL,h M hM⟩)
theorem zoT{t:TypeId}{x:Operand}(aZ:o.op=.load t x)(hA:act P Γ o ev ob=A)(hs:A.safe):bZ P Γ o ev ob A:=by
 have hm:x∈o.op.operands.toList:=by simp[aZ,Op.operands]
 simp only[act,aLd,aZ]at hA;split at hA;rename_i ag n uT hn;split at hA;rename_i L off hx;split at hA;rename_i ty cells hL;split at hA;rename_i d hr;subst hA;refine bZ.pure (zyz hL (Tf hr)) λev' ob' he cZ=>?_;have e:=cZ (L,false) (by simp);simp only at e;simp only[act,aLd,aZ,uT,hn,he x hm,hx,e,hL,hr];subst hA;exact hs.elim;rename_i cells hL;split at hA;rename_i d hr;subst hA;refine bZ.pure (λM hM=>?_) λev' ob' he cZ=>?_;simp only[mg]at hM;rw[JE hr]at hM;simp at hM;have e:=cZ (L,false) (by simp);simp only at e;simp only[act,aLd,aZ,uT,hn,he x hm,hx,e,hL,hr];subst hA;exact hs.elim;subst hA;exact hs.elim;rename_i cells off hx;split at hA;rename_i d hr;subst hA;refine bZ.pure (λM hM=>?_) λev' ob' he cZ=>?_;simp only[mg]at hM;rw[JE hr]at hM;simp at hM;simp only[act,aLd,aZ,uT,hn,he x hm,hx,hr];subst hA;exact hs.elim;rename_i L s i k hx;split at hA;rename_i e s' b len get hL;split at hA;rename_i d PM hr;subst hA;refine bZ.pchk (λM hM=>?_) λev' ob' he cZ=>?_;simp only[mg]at hM;rw[JE hr]at hM;simp at hM;have e:=cZ (L,false) (by simp);simp only at e;simp only[act,aLd,aZ,uT,hn,he x hm,hx,e,hL,PM,hr];subst hA;exact hs.elim;rename_i s' len get hL;split at hA;rename_i d PM hr;subst hA;refine bZ.pchk (λM hM=>?_) λev' ob' he cZ=>?_;simp only[mg]at hM;rw[JE hr]at hM;simp at hM;have e:=cZ (L,false) (by simp);simp only at e;simp only[act,aLd,aZ,uT,hn,he x hm,hx,e,hL,PM,hr];subst hA;exact hs.elim;rename_i hL0;split at hA;rename_i PM;split at hA;rename_i dst Hy;split at hA;rename_i iF hL;subst hA;refine⟨λx hx=>?_,.inl rfl,λx hx L hL=>?_,λd' gI L hL=>?_,λev' ob' he cZ=>?_⟩;simp only [aH.u,kS,qjq,jqG]at hx;rcases hx with rfl|rfl<;>simp[aH.fp]
 simp only [aH.u,kS,qjq,jqG]at hx;rcases hx with rfl|rfl<;>simp[qh]at hL
 simp only [aH.gives]at gI;subst gI;simp only[mg,ul,nS,lN]at hL;subst hL;exact .inr (by simp[aH.fp]);have e1:=cZ (L,true) (by simp [aH.fp]);have e2:=cZ (dst,true) (by simp[aH.fp]);simp only at e1 e2;simp only[act,aLd,aZ,uT,hn,he x hm,hx,e1,e2,hL,PM,Hy,iF];subst hA;exact hs.elim;subst hA;exact hs.elim;subst hA;exact hs.elim;subst hA;exact hs.elim;subst hA;exact hs.elim;subst hA;exact hs.elim
theorem zG8:∀(l' l:List Cl)(off:Nat),∀L∈(spl l off l').flatMap nS,L∈l.flatMap nS\/L∈l'.flatMap nS:=by
 intro l'
 induction l' with
 | nil=>intro l off L hL;exact .inl hL
 | cons c l' ih =>
  intro l off L hL;simp only[spl]at hL;rcases ih _ _ L hL with h|h
  obtain⟨c',hc',RI⟩:=lU.1 h;rcases qdh hc' with h2|h2
  exact .inl (lU.2 ⟨c',h2,RI⟩);subst h2;exact .inr (lU.2 ⟨c',kX,RI⟩);exact .inr (by simp only[oC,dX];exact .inr h)
theorem ziq{t:TypeId}{x y:Operand}(aZ:o.op=.store t x y)(hA:act P Γ o ev ob=A)(hs:A.safe):bZ P Γ o ev ob A:=by
 have hx:x∈o.op.operands.toList:=by simp[aZ,Op.operands]
 have hy:y∈o.op.operands.toList:=by simp[aZ,Op.operands]
 simp only[act,aSt,aZ]at hA;split at hA;rename_i n L off d hn hex Zz;split at hA;rename_i ty cells hL;split at hA;rename_i hb;subst hA;refine⟨λz hz=>?_,.inl rfl,λz hz M hM=>?_,λd' gI M hM=>?_,λev' ob' he cZ=>?_⟩;simp only[aH.u,lN]at hz;subst hz;simp[aH.fp];simp only [aH.u,lN]at hz;subst hz;simp only[qh]at hM;rcases zG8 _ _ _ M hM with h|h
 exact .inr ⟨(L,true),by simp[aH.fp],_,hL,h⟩;refine .inl ⟨y,hy,?_⟩;rw[Zz];simp only[mg];rw[<- Tj];exact h;simp only[aH.gives]at gI;subst gI;simp[mg,ul,nS]at hM;have e:=cZ (L,true) (by simp [aH.fp]);simp only at e;simp only[act,aSt,aZ,hn,he x hx,he y hy,hex,Zz,e,hL,hb];subst hA;exact hs.elim;subst hA;exact hs.elim;rename_i n L s i k d hn hex Zz;split at hA;rename_i e s' b len get hL;split at hA;rename_i l hl;split at hA;rename_i hb;subst hA;refine⟨λz hz=>?_,.inl rfl,λz hz M hM=>?_,λd' gI M hM=>?_,λev' ob' he cZ=>?_⟩;simp only[aH.u,lN]at hz;subst hz;simp[aH.fp];simp only[aH.u,lN]at hz;subst hz;simp[qh]at hM;simp only[aH.gives]at gI;subst gI;simp[mg,ul,nS]at hM;have e:=cZ (L,true) (by simp [aH.fp]);simp only at e;simp only[act,aSt,aZ,hn,he x hx,he y hy,hex,Zz,e,hL,hl,hb];subst hA;exact hs.elim;subst hA;exact hs.elim;rename_i te bb e s' PN len ln get hL;split at hA;rename_i M';split at hA;rename_i e2 s2 b2 mm lW hM';split at hA;rename_i hb;split at hA;rename_i hq;subst hA;refine⟨λz hz=>?_,.inl rfl,λz hz M hM=>?_,λd' gI M hM=>?_,λev' ob' he cZ=>?_⟩;simp only [aH.u,kS,qjq,jqG]at hz;rcases hz with rfl|rfl<;>simp[aH.fp]
 simp only [aH.u,kS,qjq,jqG]at hz;rcases hz with rfl|rfl<;>simp[qh]at hM
 simp only[aH.gives]at gI;subst gI;simp[mg,ul,nS]at hM;have e:=cZ (L,true) (by simp [aH.fp]);simp only at e;have e2:=cZ (M',true) (by simp[aH.fp]);simp only at e2;simp only[act,aSt,aZ,hn,he x hx,he y hy,hex,Zz,e,hL,e2,hM',hb];rw[eY hq];subst hA;exact hs.elim;subst hA;exact hs.elim;subst hA;exact hs.elim;subst hA;exact hs.elim;subst hA;exact hs.elim;subst hA;exact hs.elim
theorem WU{x:Operand}(aZ:o.op=.nilCheck x)(hA:act P Γ o ev ob=A)(hs:A.safe):bZ P Γ o ev ob A:=by
 have hx:x∈o.op.operands.toList:=by simp[aZ,Op.operands]
 simp only[act,aNc,aZ]at hA;split at hA;rename_i L off h;subst hA;exact bZ.pure (rV hx λL hL=>by rw[h];exact hL) λev' ob' he _=>by simp only[act,aNc,aZ,he x hx,h]
 rename_i L off h;subst hA;exact bZ.pure (rV hx λL hL=>by rw[h];exact hL) λev' ob' he _=>by simp only[act,aNc,aZ,he x hx,h]
 rename_i L s i k h;subst hA;exact bZ.pure (rV hx λL hL=>by rw[h];exact hL) λev' ob' he _=>by simp only[act,aNc,aZ,he x hx,h]
 subst hA;exact hs.elim
theorem zir{op:BinOp}{k:IntKind}{p q:Int}(hs:(VL op k p q).safe)
    (hc:∀ev' ob',(∀x∈o.op.operands.toList,ev' x=ev x)->act P Γ o ev' ob'=VL op k p q):bZ P Γ o ev ob (VL op k p q):=by
  cases op<;>first
    | exact hs.elim
    | exact bZ.pure (jf _) λev' ob' he _=>hc ev' ob' he
    | exact bZ.pchk (jf _) λev' ob' he _=>hc ev' ob' he
theorem zis{op:BinOp}{t t':TypeId}{x y:Operand}(aZ:o.op=.binOp op t x y t')(hA:act P Γ o ev ob=A)(hs:A.safe):bZ P Γ o ev ob A:=by
 have hx:x∈o.op.operands.toList:=by simp[aZ,Op.operands]
 have hy:y∈o.op.operands.toList:=by simp[aZ,Op.operands]
 simp only[act,aBn,aZ]at hA;split at hA;rename_i k p k' q hex Zz;split at hA;rename_i hk;subst hA;exact zir hs λev' ob' he=>by simp only[act,aBn,aZ,he x hx,he y hy,hex,Zz,hk,PW]
 rename_i hk;subst hA;have hc:∀ev' ob',(∀x∈o.op.operands.toList,ev' x=ev x)->act P Γ o ev' ob'=zhA op k p q:=λev' ob' he=>by simp only[act,aBn,aZ,he x hx,he y hy,hex,Zz,hk,qd8]
 cases op<;>first
  | exact hs.elim
  | exact bZ.pchk (jf _) λev' ob' he _=>hc ev' ob' he
 rename_i p q hex Zz;split at hA;rename_i hu;subst hA;exact bZ.pure (jf _) λev' ob' he _=>by simp only[act,aBn,aZ,he x hx,he y hy,hex,Zz,hu]
 rename_i hu;subst hA;exact bZ.pure (jf _) λev' ob' he _=>by simp only[act,aBn,aZ,he x hx,he y hy,hex,Zz,hu]
 subst hA;exact hs.elim;rename_i cs ds hex Zz;have hc:∀ev' ob',(∀x∈o.op.operands.toList,ev' x=ev x)->act P Γ o ev' ob'=A:=λev' ob' he=>by
  simp only[act,aBn,aZ,he x hx,he y hy,hex,Zz];exact hA
 unfold zb2 at hA;split at hA;split at hA;subst hA;exact bZ.pure (jf _) λev' ob' he _=>hc ev' ob' he;subst hA;exact bZ.pure (jf _) λev' ob' he _=>hc ev' ob' he;subst hA;exact hs.elim;subst hA;exact hs.elim;subst hA;exact hs.elim
theorem zit{t:TypeId}{x y:Operand}(aZ:o.op=.index t x y)(hA:act P Γ o ev ob=A)(hs:A.safe):bZ P Γ o ev ob A:=by
 have hx:x∈o.op.operands.toList:=by simp[aZ,Op.operands]
 have hy:y∈o.op.operands.toList:=by simp[aZ,Op.operands]
 have hc:∀ev' ob',(∀x∈o.op.operands.toList,ev' x=ev x)->act P Γ o ev' ob'=A:=λev' ob' he=>by
  rw[<- hA];simp only[act,aZ,he x hx,he y hy]
 simp only[act,aZ,Ku]at hA;split at hA;split at hA;rename_i cs k j _ _ hex Zz;split at hA;rename_i d _ hr;subst hA;refine bZ.pure (rV hx λL hL=>?_) λev' ob' he _=>hc ev' ob' he;rw[hex];exact Tf hr L hL;subst hA;exact hs.elim;subst hA;exact hs.elim;subst hA;exact hs.elim
theorem ziu{t:TypeId}{x:Operand}{f:Nat}(aZ:o.op=.field t x f)(hA:act P Γ o ev ob=A)(hs:A.safe):bZ P Γ o ev ob A:=by
 have hx:x∈o.op.operands.toList:=by simp[aZ,Op.operands]
 have hc:∀ev' ob',(∀x∈o.op.operands.toList,ev' x=ev x)->act P Γ o ev' ob'=A:=λev' ob' he=>by
  rw[<- hA];simp only[act,aZ,he x hx]
 simp only[act,aZ,Kv]at hA;split at hA;split at hA;split at hA;rename_i hex;split at hA;rename_i d hr;subst hA;refine bZ.pure (rV hx λL hL=>?_) λev' ob' he _=>hc ev' ob' he;rw[hex];exact Tf hr L hL;subst hA;exact hs.elim;subst hA;exact hs.elim;subst hA;exact hs.elim;subst hA;exact hs.elim
theorem ok_slice{t:TypeId}{x:Operand}{lo hi:Option Operand}(aZ:o.op=.slice t x lo hi none)(hA:act P Γ o ev ob=A)(hs:A.safe):bZ P Γ o ev ob A:=by
 have hx:x∈o.op.operands.toList:=by simp[aZ,Op.operands]
 have hlo:∀y,lo=some y->y∈o.op.operands.toList:=λy e=>by subst e;simp[aZ,Op.operands]
 have hhi:∀y,hi=some y->y∈o.op.operands.toList:=λy e=>by subst e;simp[aZ,Op.operands]
 have hc:∀ev' ob',(∀x∈o.op.operands.toList,ev' x=ev x)->act P Γ o ev' ob'=A:=λev' ob' he=>by
  have e1:FX ev' lo=FX ev lo:=by
   cases lo with|none=>rfl|some y=>simp only[FX,he y (hlo y rfl)]
  have e2:FX ev' hi=FX ev hi:=by
   cases hi with|none=>rfl|some y=>simp only[FX,he y (hhi y rfl)]
  rw[<- hA];simp only[act,aZ,he x hx,e1,e2]
 simp only[act,aZ,Dk]at hA;split at hA;split at hA;split at hA;subst hA;exact bZ.pchk (λL hL=>by simp[mg,ul,nS]at hL) λev' ob' he _=>hc ev' ob' he;subst hA;exact hs.elim;subst hA;exact hs.elim;subst hA;exact hs.elim
theorem zoU{d:D1}:∀L,L∈ul d->L∈dD d:=by
 intro L hL;cases d with
 | c y=>exact Td L hL
 | agg cs =>
  obtain⟨c,hc,hL⟩:=lU.1 hL;exact lU.2 ⟨c,hc,Td L hL⟩
theorem zeS{q:MQ}{kd:DV}{ok:Bool}{F:List Int->Option (List Int)}{fin:DV->aH}(hA:found q kd ok F fin=A)(hs:A.safe):∃d,(∀M∈mg d,False)/\fin d=A:=by
 unfold found at hA;split at hA;split at hA
 ·rename_i d hdv;have hV:∀ M,M∈ul d->False:=λ M hM=>by have:=zoU M hM;rw[Ws hdv] at this;simp at this
  cases ok with
  | true =>
   refine⟨_,λM hM=>?_,hA⟩;simp only[mg,oC,List.flatMap_nil,List.append_nil,dX]at hM;rcases hM with hM|hM
   exact hV M hM;simp[ul,nS]at hM
  | false=>exact⟨.one d,λM hM=>hV M hM,hA⟩
 subst hA;exact hs.elim;subst hA;exact hs.elim
theorem zeT{t:TypeId}{x y:Operand}{k:Bool}(aZ:o.op=.lookup t x y k)(hA:act P Γ o ev ob=A)(hs:A.safe):bZ P Γ o ev ob A:=by
 have hx:x∈o.op.operands.toList:=by simp[aZ,Op.operands]
 have hy:y∈o.op.operands.toList:=by simp[aZ,Op.operands]
 have FH:∀ev' ob',(∀x∈o.op.operands.toList,ev' x=ev x)->act P Γ o ev' ob'=Ky P t (ev x) (ev y) k ob':=λev' ob' he=>by simp only[act,aZ,he x hx,he y hy]
 rw[FH ev ob (λ_ _=>rfl)]at hA;unfold Ky at hA FH;split at hA;rename_i kt vt L hu hex;split at hA;rename_i q kt' vt' q' n F hE hL;split at hA;rename_i dw;obtain⟨d,hd,e⟩:=zeS hA hs;subst e;refine bZ.pure (λM hM=>(hd M hM).elim) λev' ob' he cZ=>?_;rw[FH ev' ob' he];have:=cZ (L,false) (by simp);simp only at this;simp only[hu,hex,this,hL,hE,eY dw];exact hA;subst hA;exact hs.elim;subst hA;exact hs.elim;subst hA;exact hs.elim
theorem Tm{t:TypeId}{x y z:Operand}(aZ:o.op=.mapUpdate t x y z)(hA:act P Γ o ev ob=A)(hs:A.safe):bZ P Γ o ev ob A:=by
 have hx:x∈o.op.operands.toList:=by simp[aZ,Op.operands]
 have hy:y∈o.op.operands.toList:=by simp[aZ,Op.operands]
 have hz:z∈o.op.operands.toList:=by simp[aZ,Op.operands]
 have FH:∀ev' ob',(∀x∈o.op.operands.toList,ev' x=ev x)->act P Γ o ev' ob'=VM P t (ev x) (ev y) (ev z) ob':=λev' ob' he=>by simp only[act,aZ,he x hx,he y hy,he z hz]
 rw[FH ev ob (λ_ _=>rfl)]at hA;unfold VM at hA FH;split at hA;rename_i kt vt L hu hex;split at hA;rename_i q kt' vt' q' n F hE hL;split at hA;rename_i c dv hck hez;split at hA;rename_i l hl;split at hA;rename_i dw;have hcc:∀ev' ob',(∀x∈o.op.operands.toList,ev' x=ev x)->(∀y∈[(L,true)],ob' y.1=ob y.1)->act P Γ o ev' ob'=A:=λev' ob' he cZ=>by
  rw[FH ev' ob' he];have:=cZ (L,true) (by simp);simp only at this;simp only[hu,hex,this,hL,hE,hck,hez,hl,eY dw];exact hA
 subst hA;refine⟨λx hx=>?_,.inl rfl,λx hx M hM=>?_,λd' gI M hM=>?_,λev' ob' he cZ=>hcc ev' ob' he cZ⟩;simp only[aH.u,lN]at hx;subst hx;simp[aH.fp];simp only[aH.u,lN]at hx;subst hx;simp[qh]at hM;simp only[aH.gives]at gI;subst gI;simp[mg,ul,nS]at hM;subst hA;exact hs.elim;subst hA;exact hs.elim;subst hA;exact hs.elim;subst hA;exact hs.elim;subst hA;exact hs.elim
theorem zam{t:TypeId}(aZ:o.op=.makeMap t none)(hA:act P Γ o ev ob=A)(hs:A.safe):bZ P Γ o ev ob A:=by
 cases hv:zx5 Γ o.dst with
 | true =>
  simp only[act,aMm,aZ,hv]at hA;split at hA;rename_i kt vt hu;split at hA;rename_i q hE;exact Ti (ao:=.mo kt vt q 0 (λ_=>none)) (d:=λt=>.cl (.mo t)) (λL hL=>by simp[qh]at hL) (λt L hL=>by simpa [mg,ul,nS]using hL) (λev' ob' _=>by simp only[act,aMm,aZ,hv,hu,hE]) hA hs;subst hA;exact hs.elim;subst hA;exact hs.elim
 | false =>
  simp only[act,aMm,aZ,hv]at hA;subst hA;exact hs.elim
theorem zoV{op:UnOp}{t:TypeId}{x:Operand}(aZ:o.op=.unOp op t x)(hA:act P Γ o ev ob=A)(hs:A.safe):bZ P Γ o ev ob A:=by
 have hx:x∈o.op.operands.toList:=by simp[aZ,Op.operands]
 simp only[act,aUn,aZ]at hA;split at hA;rename_i h;subst hA;exact bZ.pure (jf _) λev' ob' he _=>by simp only[act,aUn,aZ,he x hx,h]
 rename_i h;subst hA;exact bZ.pure (jf _) λev' ob' he _=>by simp only[act,aUn,aZ,he x hx,h]
 subst hA;exact hs.elim
theorem zan{t1 t2:TypeId}{x:Operand}(aZ:o.op=.convert t1 t2 x)(hA:act P Γ o ev ob=A)(hs:A.safe):bZ P Γ o ev ob A:=by
 have hx:x∈o.op.operands.toList:=by simp[aZ,Op.operands]
 simp only[act,aCv,aZ]at hA;split at hA;rename_i h1 h2 h;subst hA;exact bZ.pure (jf _) λev' ob' he _=>by simp only[act,aCv,aZ,he x hx,h,h1,h2]
 subst hA;exact hs.elim
theorem Tn{t:TypeId}{x:Operand}{f:Nat}(aZ:o.op=.fieldAddr t x f)(hA:act P Γ o ev ob=A)(hs:A.safe):bZ P Γ o ev ob A:=by
 have hx:x∈o.op.operands.toList:=by simp[aZ,Op.operands]
 simp only[act,aFa,aZ]at hA;split at hA;rename_i off hf;split at hA;rename_i h;subst hA;exact bZ.pure (rV hx λL hL=>by rw[h];exact hL) λev' ob' he _=>by simp only[act,aFa,aZ,he x hx,h,hf]
 rename_i h;subst hA;exact bZ.pure (rV hx λL hL=>by rw[h];exact hL) λev' ob' he _=>by simp only[act,aFa,aZ,he x hx,h,hf]
 rename_i h;subst hA;exact bZ.pure (rV hx λL hL=>by rw[h];exact hL) λev' ob' he _=>by simp only[act,aFa,aZ,he x hx,h,hf]
 subst hA;exact hs.elim;subst hA;exact hs.elim
theorem Tq{t:TypeId}{x y:Operand}(aZ:o.op=.indexAddr t x y)(hA:act P Γ o ev ob=A)(hs:A.safe):bZ P Γ o ev ob A:=by
 have hx:x∈o.op.operands.toList:=by simp[aZ,Op.operands]
 have hy:y∈o.op.operands.toList:=by simp[aZ,Op.operands]
 simp only[act,aIa,aZ]at hA;split at hA;rename_i e hu;split at hA;rename_i n k j hn hj;split at hA;rename_i len s get hex;split at hA;rename_i qi;subst hA;exact bZ.pchk (jf _) λev' ob' he _=>by simp only[act,aIa,aZ,he x hx,he y hy,hex,hu,hn,hj,qi,PW]
 subst hA;exact hs.elim;rename_i L hex;split at hA;rename_i e' s b len get hL;split at hA;rename_i qi;subst hA;refine bZ.pchk (λM hM=>.inl (.inl ⟨x,hx,?_⟩)) λev' ob' he cZ=>?_;rw[hex];exact hM;have e:=cZ (L,false) (by simp);simp only at e;simp only[act,aIa,aZ,he x hx,he y hy,hex,hu,hn,hj,e,hL,qi,PW];subst hA;exact hs.elim;rename_i s len get hL;split at hA;rename_i qi;subst hA;refine bZ.pchk (jf _) λev' ob' he cZ=>?_;have e:=cZ (L,false) (by simp);simp only at e;simp only[act,aIa,aZ,he x hx,he y hy,hex,hu,hn,hj,e,hL,qi,PW];subst hA;exact hs.elim;rename_i hL;split at hA;rename_i qi;subst hA;refine bZ.pchk (λM hM=>.inl (.inl ⟨x,hx,?_⟩)) λev' ob' he cZ=>?_;rw[hex];exact hM;have e:=cZ (L,false) (by simp);simp only at e;simp only[act,aIa,aZ,he x hx,he y hy,hex,hu,hn,hj,e,hL,qi,PW];subst hA;exact hs.elim;rename_i hL;split at hA;rename_i qi;subst hA;refine bZ.pchk (λM hM=>.inl (.inl ⟨x,hx,?_⟩)) λev' ob' he cZ=>?_;rw[hex];exact hM;have e:=cZ (L,false) (by simp);simp only at e;simp only[act,aIa,aZ,he x hx,he y hy,hex,hu,hn,hj,e,hL,qi,PW];subst hA;exact hs.elim;subst hA;exact hs.elim;subst hA;exact hs.elim;subst hA;exact hs.elim;rename_i m e hu;have hc:∀ev' ob',(∀x∈o.op.operands.toList,ev' x=ev x)->act P Γ o ev' ob'=A:=λev' ob' he=>by
  simp only[act,aIa,aZ,hu,he x hx,he y hy];exact hA
 unfold Dh at hA;split at hA;split at hA;split at hA;rename_i h;subst hA;exact bZ.pure (rV hx λL hL=>by simp[mg,ul,nS]at hL) λev' ob' he _=>hc ev' ob' he;rename_i h;subst hA;exact bZ.pure (jf _) λev' ob' he _=>hc ev' ob' he;subst hA;exact hs.elim;subst hA;exact hs.elim;subst hA;exact hs.elim;subst hA;exact hs.elim
theorem zao{x:Operand}{k:Nat}(aZ:o.op=.extract x k)(hA:act P Γ o ev ob=A)(hs:A.safe):bZ P Γ o ev ob A:=by
 have hx:x∈o.op.operands.toList:=by simp[aZ,Op.operands]
 simp only[act,aEx,aZ]at hA;split at hA;rename_i ds h;split at hA;rename_i d hd;subst hA;refine bZ.pure (rV hx λL hL=>?_) λev' ob' he _=>by simp only[act,aEx,aZ,he x hx,h,hd]
 rw[h];exact lU.2 ⟨d,Ko hd,hL⟩;subst hA;exact hs.elim;subst hA;exact hs.elim
theorem zi{c:Callee}{args:Array Operand}{ts:Array TypeId}(aZ:o.op=.call {callee:=c,args,argTypes:=ts}):∀x∈args.toList,x∈o.op.operands.toList:=by
 intro x hx;simp only[aZ,Op.operands];cases c<;>simp[Call.operands]<;>simp at hx<;>first|exact hx|exact .inr hx
theorem zvg{b:Builtin}{args:Array Operand}{ts:Array TypeId}(hb:b=.max\/b=.min)(aZ:o.op=.call {callee:=.builtin b,args,argTypes:=ts})(hA:act P Γ o ev ob=A)(hs:A.safe):bZ P Γ o ev ob A:=by
 have hm:=zi aZ;have Zl:∀ev':Operand->DV,(∀x∈o.op.operands.toList,ev' x=ev x)->args.toList.map ev'=args.toList.map ev:=λev' he=>qda λx hx=>he x (hm x hx);rcases hb with rfl|rfl<;>simp only[act,aMx,aMi,aZ]at hA<;>split at hA
 rename_i h;subst hA;exact bZ.pure (jf _) λev' ob' he _=>by simp only[act,aMx,aMi,aZ,Zl ev' he,h]
 subst hA;exact hs.elim;rename_i h;subst hA;exact bZ.pure (jf _) λev' ob' he _=>by simp only[act,aMx,aMi,aZ,Zl ev' he,h]
 subst hA;exact hs.elim
theorem zyA{args:Array Operand}{ts:Array TypeId}(aZ:o.op=.call {callee:=.builtin .len,args,argTypes:=ts})(hA:act P Γ o ev ob=A)(hs:A.safe):bZ P Γ o ev ob A:=by
 have hm:=zi aZ;simp only[act,aLn,aZ]at hA;split at hA;rename_i x t gQ ht;have hx:x∈o.op.operands.toList:=hm x (by rw[gQ];simp);split at hA;rename_i e hu;split at hA;rename_i h;subst hA;exact bZ.pure (jf _) λev' ob' he _=>by simp only[act,aLn,aZ,gQ,ht,hu,he x hx,h]
 rename_i h;subst hA;exact bZ.pure (jf _) λev' ob' he _=>by simp only[act,aLn,aZ,gQ,ht,hu,he x hx,h]
 rename_i L h;split at hA;rename_i hL;subst hA;refine bZ.pure (jf _) λev' ob' he cZ=>?_;have e:=cZ (L,false) (by simp);simp only at e;simp only[act,aLn,aZ,gQ,ht,hu,he x hx,h,e,hL];rename_i hL;subst hA;refine bZ.pure (jf _) λev' ob' he cZ=>?_;have e:=cZ (L,false) (by simp);simp only at e;simp only[act,aLn,aZ,gQ,ht,hu,he x hx,h,e,hL];rename_i hL;subst hA;refine bZ.pure (jf _) λev' ob' he cZ=>?_;have e:=cZ (L,false) (by simp);simp only at e;simp only[act,aLn,aZ,gQ,ht,hu,he x hx,h,e,hL];subst hA;exact hs.elim;subst hA;exact hs.elim;rename_i kt vt hu;split at hA;rename_i L h;split at hA;rename_i hL;subst hA;refine bZ.pure (jf _) λev' ob' he cZ=>?_;have e:=cZ (L,false) (by simp);simp only at e;simp only[act,aLn,aZ,gQ,ht,hu,he x hx,h,e,hL];subst hA;exact hs.elim;subst hA;exact hs.elim;subst hA;exact hs.elim;subst hA;exact hs.elim
theorem Tt{d:DV}{ob':Nat→Option AO}{m sz:Nat}{new:Nat→List PV}{fps:List (Nat×Bool)}(h:F5 d ob=some (m,sz,new,fps))(cZ:∀y∈fps,ob' y.1=ob y.1) :
  F5 d ob'=some (m,sz,new,fps):=by
 unfold F5 at h ⊢;split at h;exact h;rename_i M;split at h;rename_i hM;have h':=h;simp only[bV,gJ]at h;have e:=cZ (M,false) (by rw[<- h.2.2.2];simp);simp only at e;rw[e,hM];exact h';rename_i hM;have h':=h;simp only[bV,gJ]at h;have e:=cZ (M,false) (by rw[<- h.2.2.2];simp);simp only at e;rw[e,hM];exact h';cases h;cases h
theorem zeU{args:Array Operand}{ts:Array TypeId}(aZ:o.op=.call {callee:=.builtin .append,args,argTypes:=ts})(hA:act P Γ o ev ob=A)(hs:A.safe):bZ P Γ o ev ob A:=by
 have hm:=zi aZ;have hA0:=hA;simp only[act,aAp,aZ]at hA;split at hA
 ·rename_i s x t t' gQ ht;have VB:s∈o.op.operands.toList:=hm s (by rw[gQ];simp);have hx:x∈o.op.operands.toList:=hm x (by rw[gQ];simp);split at hA
  ·rename_i e dst hu htt hd;split at hA
   ·rename_i ie z hie hz;have zEC:∀(ev':Operand->DV)(ob':Nat->Option AO),act P Γ o ev' ob'=RZ e ie dst (ev' x) (ev' s) ob':=λev' ob'=>by
     simp only[act,aAp,aZ,gQ,ht,hu,htt,hd,hie,hz]
    unfold RZ at hA zEC;split at hA
    ·rename_i m sz new fps pg
     -- the source looks only at zN3 fps names
     have zNZ:∀(ev':Operand->DV)(ob':Nat->Option AO),(∀x∈o.op.operands.toList,ev' x=ev x)->(∀y∈fps,ob' y.1=ob y.1) ->
       F5 (ev' x) ob'=some (m,sz,new,fps):=by
      intro ev' ob' he cZ;rw[he x hx];exact Tt pg cZ
     split at hA;rename_i L hes;split at hA;rename_i e' s' b' n' get' hL;split at hA;rename_i hif;subst hA;refine⟨λz hz=>?_,.inr ⟨L,rfl,by simp[aH.fp]⟩,λz hz M hM=>?_,λd' gI M hM=>?_,λev' ob' he cZ=>?_⟩;simp only[aH.u,lN]at hz;subst hz;simp[aH.fp];simp only[aH.u,lN]at hz;subst hz;simp[qh]at hM;simp only [aH.gives]at gI;subst gI;simp only[mg,ul,nS,lN]at hM;subst hM;exact .inr (by simp[aH.fp]);have e1:=zNZ ev' ob' he (fun y hy=>cZ y (jW _ hy));have e2:=cZ (L,true) (by simp[aH.fp]);simp only at e2;rw[zEC,e1];simp only[he s VB,he x hx,hes,e2,hL];rw[eY hif];subst hA;exact hs.elim;subst hA;exact hs.elim;rename_i hes;split at hA;rename_i hn;split at hA;rename_i hif;subst hA;refine⟨λz hz=>?_,.inl rfl,λz hz M hM=>?_,λd' gI M hM=>?_,λev' ob' he cZ=>?_⟩;simp only[aH.u,lN]at hz;subst hz;simp[aH.fp];simp only[aH.u,lN]at hz;subst hz;simp[qh]at hM;simp only [aH.gives]at gI;subst gI;simp only[mg,ul,nS,lN]at hM;subst hM;exact .inr (by simp[aH.fp]);have e1:=zNZ ev' ob' he (fun y hy=>cZ y (jW _ hy));have e2:=cZ (dst,true) (by simp[aH.fp]);simp only at e2;rw[zEC,e1];simp only[he s VB,hes,e2,hn];rw[eY hif];subst hA;exact hs.elim;subst hA;exact hs.elim;subst hA;exact hs.elim
    subst hA;exact hs.elim
   subst hA;exact hs.elim
  subst hA;exact hs.elim
 subst hA;exact hs.elim
theorem zvh(x:PA):ul (Jq x)=[]:=by
 cases x with|one p=>rfl|agg cs=>exact WS cs
theorem zaq(rs:List PA):mg (resD rs)=[]:=by
 have tup:∀l:List PA,mg (.tup (l.map Jq))=[]:=by
  intro l
  induction l with|nil=>rfl|cons x l ih=>simp only[nX,mg,oC,zvh,PT]at ih ⊢;exact ih
 match rs with|[]=>exact tup _|[x]=>exact zvh x|x::y::l=>exact tup _
theorem zyB{k:FW}{args:Array Operand}{c:Callee}{ts:Array TypeId}(aZ:o.op = .call {callee:=c,args,argTypes:=ts})
    (hc:∀ev' ob',(∀x∈o.op.operands.toList,ev' x=ev x)->act P Γ o ev' ob'=kT P Γ o k (args.toList.map ev') ob') (hA:kT P Γ o k (args.toList.map ev) ob=A) (hs:A.safe):bZ P Γ o ev ob A:=by
  have hm:=zi aZ;have Zl:∀ev':Operand->DV,(∀x∈o.op.operands.toList,ev' x=ev x)->args.toList.map ev'=args.toList.map ev:=λev' he=>qda λx hx=>he x (hm x hx);unfold kT at hA;split at hA;subst hA;exact hs.elim;split at hA;rename_i L hf caps gQ;split at hA;rename_i hL uT;split at hA;rename_i hif;subst hA;refine⟨λz hz=>?_,.inl rfl,λz hz M hM=>?_,λd' gI M hM=>?_,λev' ob' he cZ=>?_⟩;simp only[aH.u,lN]at hz;subst hz;simp[aH.fp];simp only[aH.u,lN]at hz;subst hz;simp[qh]at hM;simp only[aH.gives]at gI;subst gI;simp[mg]at hM;have e2:=cZ (L,true) (by simp [aH.fp]);simp only at e2;rw[hc ev' ob' he,Zl ev' he];simp only[kT,gQ,e2,hL,uT];rw[eY hif];subst hA;exact hs.elim;subst hA;exact hs.elim;subst hA;exact hs.elim;split at hA;rename_i dst gQ hd;split at hA;rename_i hn hi hz;split at hA;rename_i hif;subst hA;refine⟨λz hz=>?_,.inl rfl,λz hz M hM=>?_,λd' gI M hM=>?_,λev' ob' he cZ=>?_⟩;simp only[aH.u,lN]at hz;subst hz;simp[aH.fp];simp only[aH.u,lN]at hz;subst hz;simp[qh]at hM;simp only [aH.gives]at gI;subst gI;simp only[mg,ul,nS,lN]at hM;subst hM;exact .inr (by simp[aH.fp]);have e2:=cZ (dst,true) (by simp [aH.fp]);simp only at e2;rw[hc ev' ob' he,Zl ev' he];simp only[kT,gQ,hd,e2,hn,hi,hz];rw[eY hif];subst hA;exact hs.elim;subst hA;exact hs.elim;subst hA;exact hs.elim;split at hA;rename_i az u dst has hd;split at hA;rename_i n get rs ie z hF iF hi hz;split at hA;rename_i hif;subst hA;refine⟨λz hz=>?_,.inl rfl,λz hz M hM=>?_,λd' gI M hM=>?_,λev' ob' he cZ=>?_⟩;simp only[aH.u,lN]at hz;subst hz;simp[aH.fp];simp only[aH.u,lN]at hz;subst hz;simp[qh]at hM
  · simp only [aH.gives]at gI;subst gI;cases rs with
    | nil =>
      simp only[mg,ul,nS,lN]at hM;subst hM;exact .inr (by simp[aH.fp])
    | cons x l =>
      have hM2:M=dst:=by
        simp only[mg,oC,dX,ul,nS,lN,lU,uV]at hM;rcases hM with hM|⟨d1,⟨v,_,rfl⟩,hM⟩
        exact hM;simp[ul,nS]at hM
      subst hM2;exact .inr (by simp[aH.fp])
  have hl:∀L∈(args.toList.map ev).flatMap (bJ ob),ob' L=ob L:=fun L hL=>cZ (L,false) (jW _ (uV.2 ⟨L,hL,rfl⟩));have e2:=cZ (dst,true) (by simp[aH.fp]);simp only at e2;have e3:iO ob' (args.toList.map ev)=some (az,u):=(mr hl).trans has;have e4:(args.toList.map ev).flatMap (bJ ob')=(args.toList.map ev).flatMap (bJ ob):=fmc λd hd=>jE λL hL=>hl L (lU.2 ⟨d,hd,hL⟩);rw[hc ev' ob' he,Zl ev' he];simp only[kT,hd,e2,hF,iF,hi,hz,e3,e4];rw[eY hif];subst hA;exact hs.elim;subst hA;exact hs.elim;subst hA;exact hs.elim;split at hA;rename_i ds L OW;split at hA;rename_i az e' s' b' n get has hL;split at hA;rename_i m get' hF;split at hA;rename_i hif;subst hA;refine⟨λz hz=>?_,.inr ⟨L,rfl,by simp[aH.fp]⟩,λz hz M hM=>?_,λd' gI M hM=>?_,λev' ob' he cZ=>?_⟩;simp only[aH.u,lN]at hz;subst hz;simp[aH.fp];simp only[aH.u,lN]at hz;subst hz;simp[qh]at hM;simp only [aH.gives]at gI;subst gI;simp only[mg,ul,nS,lN]at hM;subst hM;exact .inr (by simp[aH.fp]);have hl:∀M∈ds.flatMap (bJ ob),ob' M=ob M:=fun M hM=>cZ (M,false) (jW _ (uV.2 ⟨M,hM,rfl⟩));have e2:=cZ (L,true) (by simp[aH.fp]);simp only at e2;have e3:iO ob' ds=some (az,[]):=(mr hl).trans has;have e4:ds.flatMap (bJ ob')=ds.flatMap (bJ ob):=fmc λd hd=>jE λL hL=>hl L (lU.2 ⟨d,hd,hL⟩);rw[hc ev' ob' he,Zl ev' he];simp only[kT,OW,e3,e2,hL,hF,e4];rw[eY hif];subst hA;exact hs.elim;subst hA;exact hs.elim;subst hA;exact hs.elim;rename_i ds OW;split at hA;rename_i az dst has hd;split at hA;rename_i ie z iF hi hz;split at hA;rename_i l hzl;split at hA;rename_i m get' hF;split at hA;rename_i hif;subst hA;refine⟨λz hz=>?_,.inl rfl,λz hz M hM=>?_,λd' gI M hM=>?_,λev' ob' he cZ=>?_⟩;simp only[aH.u,lN]at hz;subst hz;simp[aH.fp];simp only[aH.u,lN]at hz;subst hz;simp[qh]at hM;simp only [aH.gives]at gI;subst gI;simp only[mg,ul,nS,lN]at hM;subst hM;exact .inr (by simp[aH.fp]);have hl:∀M∈ds.flatMap (bJ ob),ob' M=ob M:=fun M hM=>cZ (M,false) (jW _ (uV.2 ⟨M,hM,rfl⟩));have e2:=cZ (dst,true) (by simp[aH.fp]);simp only at e2;have e3:iO ob' ds=some (az,[]):=(mr hl).trans has;have e4:ds.flatMap (bJ ob')=ds.flatMap (bJ ob):=fmc λd hd=>jE λL hL=>hl L (lU.2 ⟨d,hd,hL⟩);rw[hc ev' ob' he,Zl ev' he];simp only[kT,OW,e3,hd,e2,iF,hi,hz,hzl,hF,e4];rw[eY hif];subst hA;exact hs.elim;subst hA;exact hs.elim;subst hA;exact hs.elim;subst hA;exact hs.elim;subst hA;exact hs.elim;subst hA;exact hs.elim
theorem DU{sf:lI}{ob:Nat->Option AO}:∀{cells l:List Cl}{ys cs:List XC}{u:List (Nat×AO)}{ms:List Nat},iG cells ys=some (l,u)->jc sf ob cells=some (cs,ms) ->
  u.map (·.1)=ms/\(∀x∈u,qh x.2=[])/\∀L∈l.flatMap nS,L∈cells.flatMap nS
 | [],l,[],cs,u,ms,h,h2=>by
  simp only[iG,bV,gJ]at h;obtain⟨rfl,rfl⟩:=h;simp only[jc,bV,gJ]at h2;rw[<- h2.2];exact⟨rfl,λx hx=>by simp at hx,λL hL=>hL⟩
 | [],l,_::_,cs,u,ms,h,h2=>by simp[iG]at h
 | c::cells,l,[],cs,u,ms,h,h2=>by simp[iG]at h
 | c::cells,l,y::ys,cs,u,ms,h,h2=>by
  unfold iG at h;split at h;rename_i e;simp at e;rename_i e1 e2;simp only[FV]at e1 e2;obtain⟨rfl,rfl⟩:=e1;obtain⟨rfl,rfl⟩:=e2;split at h;rename_i hp;simp only[bV,gJ]at h;obtain⟨rfl,rfl⟩:=h;simp only[jc]at h2;split at h2;rename_i hc;simp only[bV,gJ]at h2;rw[<- h2.2];obtain⟨i1,i2,i3⟩:=DU hp hc;exact⟨i1,i2,λL hL=>by simp only[oC,nS,PT]at hL ⊢;exact i3 L hL⟩;cases h2;cases h;rename_i e1 e2;simp only[FV]at e1 e2;obtain⟨rfl,rfl⟩:=e1;obtain⟨rfl,rfl⟩:=e2;split at h;rename_i hp;simp only[bV,gJ]at h;obtain⟨rfl,rfl⟩:=h;simp only[jc]at h2;split at h2;rename_i hc;split at h2;simp only [bV,gJ]at h2;rw [← h2.2];obtain⟨i1,i2,i3⟩:=DU hp hc;refine⟨by simp[i1],λx hx=>?_,λL hL=>?_⟩;rcases kS.1 hx with e|hx
  subst e;rfl;exact i2 x hx;simp only [oC,dX]at hL ⊢;exact hL.imp_right (i3 L);cases h2;cases h2;cases h;rename_i e1 e2;simp only[FV]at e1 e2;obtain⟨rfl,rfl⟩:=e1;obtain⟨rfl,rfl⟩:=e2;split at h;rename_i hp;simp only[bV,gJ]at h;obtain⟨rfl,rfl⟩:=h;simp only[jc]at h2;split at h2;rename_i hc;split at h2;simp only [bV,gJ]at h2;rw [← h2.2];obtain⟨i1,i2,i3⟩:=DU hp hc;refine⟨by simp[i1],λx hx=>?_,λL hL=>?_⟩;rcases kS.1 hx with e|hx
  subst e;rfl;exact i2 x hx;simp only [oC,dX]at hL ⊢;exact hL.imp_right (i3 L);cases h2;cases h2;cases h;rename_i e1 e2;simp only[FV]at e1 e2;obtain⟨rfl,rfl⟩:=e1;obtain⟨rfl,rfl⟩:=e2;split at h;rename_i hp;simp only[bV,gJ]at h;obtain⟨rfl,rfl⟩:=h;simp only[jc]at h2;split at h2;rename_i hc;split at h2;simp only [bV,gJ]at h2;rw [← h2.2];obtain⟨i1,i2,i3⟩:=DU hp hc;exact⟨i1,i2,λL hL=>by simp only[oC,dX]at hL ⊢;exact hL.imp_right (i3 L)⟩;cases h2;cases h2;cases h;cases h
theorem zyC{sf:lI}{ob:Nat→Option AO}{d:DV}{x y:XA}{u:List (Nat×AO)}{ls ms:List Nat}(h:Ja ob d y=some u)(h2:AB sf ob d=some (x,ls,ms)) :
  u.map (·.1)=ls/\∀x∈u,∀L∈qh x.2,∃o',ob x.1=some o'/\L∈qh o':=by
 have data:sS ob d=some (x,ls,ms)->ls=[]:=by
  intro h;unfold sS at h;split at h;simp only[bV,gJ]at h;exact h.2.1.symm;cases h
 unfold Ja at h;split at h;rename_i L;split at h;rename_i ZC cells hL;rw[pR,hL]at h2;dsimp only at h2;split at h2;rename_i cs ms' hc;simp only[bV,gJ]at h2;obtain⟨rfl,rfl,rfl⟩:=h2;split at h;split at h;rename_i l u' hty hp;simp only[bV]at h;subst h;obtain⟨i1,i2,i3⟩:=DU hp hc;refine⟨by simp[i1],λx hx K hK=>?_⟩;rcases kS.1 hx with e|hx
 subst e;exact⟨_,hL,i3 K hK⟩;rw[i2 x hx]at hK;simp at hK;cases h;cases h;cases h2;rename_i wO;have hx:sS ob (.one (.c (.ptr L 0)))=some (x,ls,ms):=by
  rw[pR]at h2;cases hL:ob L with
  | none=>rw[hL]at h2;exact h2
  | some o =>
   rw[hL]at h2;cases o with|box ty cells=>exact absurd hL (wO _ _)|_=>exact h2
 rw[data hx];split at h;simp only[bV]at h;subst h;exact⟨rfl,λx hx=>by simp at hx⟩;cases h;rename_i wO;have hx:sS ob d=some (x,ls,ms):=by
  unfold AB at h2;split at h2;exact(wO _ rfl).elim;exact h2
 rw[data hx];split at h;simp only[bV]at h;subst h;exact⟨rfl,λx hx=>by simp at hx⟩;cases h
theorem zcC{sf:lI}{ob:Nat->Option AO}:∀{ds:List DV}{xs ys:List XA}{u:List (Nat×AO)}{ls ms:List Nat},kw ob ds ys=some u->kK sf ob ds=some (xs,ls,ms) ->
  u.map (·.1)=ls/\∀x∈u,∀L∈qh x.2,∃o',ob x.1=some o'/\L∈qh o'
 | [],xs,[],u,ls,ms,h,h2=>by
  simp only[kw,bV]at h;subst h;simp only[kK,bV,gJ]at h2;rw[<- h2.2.1];exact⟨rfl,λx hx=>by simp at hx⟩
 | [],_,_::_,_,_,_,h,_=>by simp[kw]at h
 | _::_,_,[],_,_,_,h,_=>by simp[kw]at h
 | d::ds,xs,y::ys,u,ls,ms,h,h2=>by
  simp only[kw]at h;split at h;rename_i u1 u2 e1 e2;simp only[bV]at h;subst h;simp only[kK]at h2;split at h2;rename_i x bl m1 xs' bls m2 h3 h4;simp only[bV,gJ]at h2;rw[<- h2.2.1];obtain⟨i1,i2⟩:=zcC e2 h4;obtain⟨j1,j2⟩:=zyC e1 h3;exact⟨by simp[i1,j1],λx hx=>(dX.1 hx).elim (j2 x) (i2 x)⟩;cases h2;cases h
theorem Iq{sf:lI}{ob ob':Nat→Option AO}:∀{cells:List Cl},(∀L∈cells.flatMap bC,ob' L=ob L)→jc sf ob' cells=jc sf ob cells
  | [],_=>rfl
  | c::cells,h=>by
    have ih:jc sf ob' cells=jc sf ob cells:=Iq λL hL=>h L (by simp only[oC,dX];exact .inr hL);cases c with|vec M=>simp only[jc,ih,h M (by simp[bC])]|mo M=>simp only[jc,ih,h M (by simp[bC])]|_=>simp only[jc,ih]
theorem zeV{sf:lI}{ob ob':Nat->Option AO}{d:DV}(h:∀L∈bJ ob d,ob' L=ob L):AB sf ob' d=AB sf ob d/\∀y,Ja ob' d y=Ja ob d y:=by
 have hx:sS ob' d=sS ob d:=by simp only[sS,L8 h]
 by_cases hd:∃L,d=.one (.c (.ptr L 0))
 ·obtain⟨L,rfl⟩:=hd;have hL:ob' L=ob L:=h L (ny.2 ⟨L,by simp[cO,dD,bC],.inl rfl⟩);refine⟨?_,λy=>by simp only[Ja,hL]⟩;rw[pR,pR,hL,hx];cases ho:ob L with
  | none=>rfl
  | some o =>
   cases o with
   | box ty cells =>
    have:jc sf ob' cells=jc sf ob cells:=Iq λM hM=>h M (ny.2 ⟨L,by simp[cO,dD,bC],.inr ⟨_,ho,M,hM,.inl rfl⟩⟩);simp only[this]
   | _=>rfl
 refine⟨?_,fun y => ?_⟩;unfold AB;split;exact(hd ⟨_,rfl⟩).elim;exact hx;unfold Ja;split;exact(hd ⟨_,rfl⟩).elim;rfl
theorem Me{sf:lI}{ob ob':Nat→Option AO}:∀{ds:List DV},(∀L∈ds.flatMap (bJ ob),ob' L=ob L)→kK sf ob' ds=kK sf ob ds∧∀ys,kw ob' ds ys=kw ob ds ys
  | [],_=>⟨rfl,λys=>by cases ys<;>rfl⟩
  | d::ds,h=>by
    obtain⟨i1,i2⟩:=Me (sf:=sf) (ds:=ds) (ob':=ob') λL hL=>h L (by simp only[oC,dX];exact .inr hL);obtain⟨j1,j2⟩:=zeV (sf:=sf) (ob':=ob') (d:=d) λL hL=>h L (by simp only[oC,dX];exact .inl hL);refine⟨by simp only[kK,i1,j1],λys=>?_⟩;cases ys with|nil=>rfl|cons y ys=>simp only[kw,i2,j2]
theorem ziv{sf:lI}{C:MK}{ds:List DV}(hk:∀ev' ob',(∀x∈o.op.operands.toList,ev' x=ev x)->act P Γ o ev' ob'=um C sf ds ob')(hA:um C sf ds ob=A)(hs:A.safe):bZ P Γ o ev ob A:=by
 unfold um at hA;split at hA
 ·rename_i xs ls ms has;split at hA
  ·rename_i s rs ys hCx;split at hA
   rotate_left
   subst hA;exact hs.elim;rename_i hpm;unfold qJ at hA;split at hA;rename_i u PP;split at hA;rename_i dw;subst hA;have zyD:=dw;simp only[gq,Vs]at dw;obtain⟨h1,h2⟩:=zcC PP has;have hw:∀L∈(u.filter λx=>!lJ x.2).map (·.1),(L,true)∈wr ((u.filter λx=>!lJ x.2).map (·.1))++rd (ds.flatMap (bJ ob)):=λL hL=>dX.2 (.inl (Md hL));have hul:∀x∈u.filter λx=>!lJ x.2,x.1∈(u.filter λx=>!lJ x.2).map (·.1):=λx hx=>uV.2 ⟨x,hx,rfl⟩;refine⟨λx hx=>hw _ (hul x hx),?_,λx hx L hL=>?_,λd hd L hL=>(by simp only[aH.gives]at hd;subst hd;rw[zaq]at hL;simp at hL),λev' ob' he cZ=>?_⟩
   ·match ms,dw.1.2,dw.2 with|[],_,_=>exact .inl rfl|[x],_,hc=>exact .inr ⟨x,rfl,hw x (by simpa using hc)⟩|_::_::_,h,_=>simp at h
   obtain⟨o',ho,hL⟩:=h2 x (RV.1 hx).1 L hL;exact .inr ⟨(x.1,true),hw _ (hul x hx),o',ho,hL⟩;have hl:∀L∈ds.flatMap (bJ ob),ob' L=ob L:=fun L hL=>cZ (L,false) (dX.2 (.inr (uV.2 ⟨L,hL,rfl⟩)));have e1:=Me (sf:=sf) hl;have e2:ds.flatMap (bJ ob')=ds.flatMap (bJ ob):=fmc λd hd=>jE λL hL=>hl L (lU.2 ⟨d,hd,hL⟩);rw[hk ev' ob' he];simp only[um,qJ,e1.1,has,hCx,hpm,e1.2,PP,zyD,e2];subst hA;exact hs.elim;subst hA;exact hs.elim
  subst hA;exact hs.elim
 subst hA;exact hs.elim
theorem Ir{ev':Operand→DV}:∀{l:List Operand},(∀x∈l,ev' x=ev x)→Dl ev' l=Dl ev l|[],_=>rfl|x::l,h=>by simp only[Dl,h x kX,Ir λy hy=>h y (jW _ hy)]
theorem zcD{rs:List PA}{args:Array Operand}{c:Callee}{ts:Array TypeId}{az:List PA}{u:mP}(aZ:o.op = .call {callee:=c,args,argTypes:=ts})
    (has:iO ob (args.toList.map ev)=some (az,u))
    (key:∀(ev':Operand->DV)(ob':Nat->Option AO),(∀x∈o.op.operands.toList,ev' x=ev x)->(∀L∈args.toList.flatMap λx=>bJ ob (ev x),ob' L=ob L) ->
      act P Γ o ev' ob'=lS (args.toList.flatMap λx=>bJ ob (ev x)) u rs) (hA:lS (args.toList.flatMap λx=>bJ ob (ev x)) u rs=A):bZ P Γ o ev ob A:=by
  have zEO:∀L,L∈(args.toList.flatMap λx=>bJ ob (ev x))->(L,true)∈wr (args.toList.flatMap λx=>bJ ob (ev x)):=λL hL=>uV.2 ⟨L,hL,rfl⟩;have zG9:∀L,L∈(args.toList.flatMap λx=>bJ ob (ev x))->(L,false)∈rd (args.toList.flatMap λx=>bJ ob (ev x)):=λL hL=>uV.2 ⟨L,hL,rfl⟩;have hk:∀x∈u,(x.1,true)∈wr (args.toList.flatMap λx=>bJ ob (ev x))/\qh x.2=[]:=λx hx=>by
    obtain⟨h1,h2⟩:=BK has x hx;refine⟨zEO _ ?_,h2⟩;rw[qd9]at h1;exact h1
  generalize (args.toList.flatMap λx=>bJ ob (ev x))=jA at hA key hk zEO zG9;cases hl:VJ rs||VK u rs with
  | true =>
    simp only[lS,hl]at hA key;subst hA;exact⟨λx hx=>by simp[aH.u]at hx,.inl rfl,λx hx=>by simp[aH.u]at hx,λd hd L hL=>(by cases hd;rw[zaq]at hL;simp at hL),λev' ob' he cZ=>key ev' ob' he λL hL=>cZ _ (zG9 L hL)⟩
  | false =>
    simp only[lS,hl]at hA key;subst hA;exact⟨λx hx=>(hk x hx).1,.inl rfl,λx hx L hL=>(by rw[(hk x hx).2]at hL;simp at hL),λd hd L hL=>(by cases hd;rw[zaq]at hL;simp at hL),λev' ob' he cZ=>key ev' ob' he λL hL=>cZ _ (zEO L hL)⟩
theorem zoW{f:Operand}{args:Array Operand}{ts:Array TypeId}(aZ:o.op=.call {callee:=.value f,args,argTypes:=ts})(hA:act P Γ o ev ob=A)(hs:A.safe):bZ P Γ o ev ob A:=by
 have hm:=zi aZ;have hf:f∈o.op.operands.toList:=by simp[aZ,Op.operands,Call.operands]
 simp only[act,aCl,aZ]at hA;have e0:∀ev':Operand->DV,(∀x∈o.op.operands.toList,ev' x=ev x)->args.toList.map ev'=args.toList.map ev:=λev' he=>qda λx hx=>he x (hm x hx);split at hA;rename_i gf caps hef;split at hA;rename_i C hC;exact ziv (λev' ob' he=>by simp only[act,aCl,aZ,he f hf,hef,hC,e0 ev' he]) hA hs;subst hA;exact hs.elim
 ·rename_i gf first caps hef
  split at hA;rename_i C hC;exact ziv (λev' ob' he=>by simp only[act,aCl,aZ,he f hf,hef,hC,e0 ev' he]) hA hs;rename_i hC;split at hA;rename_i hk;split at hA;exact zyB (k:=Γ.own gf) aZ (λev' ob' he=>by simp only[act,aCl,aZ,he f hf,hef,hC,hk]) hA hs;subst hA;exact hs.elim;rename_i hko;split at hA
  ·rename_i az u has;split at hA
   case h_2=>subst hA;exact hs.elim
   rename_i rs hrs
   have key:∀(ev':Operand->DV)(ob':Nat->Option AO),(∀x∈o.op.operands.toList,ev' x=ev x)->(∀L∈args.toList.flatMap λx=>bJ ob (ev x),ob' L=ob L) ->
     act P Γ o ev' ob'=lS (args.toList.flatMap λx=>bJ ob (ev x)) u rs:=by
    intro ev' ob' he hl;have e0:args.toList.map ev'=args.toList.map ev:=qda λx hx=>he x (hm x hx);have e1:iO ob' (args.toList.map ev)=iO ob (args.toList.map ev):=mr λL hL=>hl L (by rw[qd9]at hL;exact hL);have e2:(args.toList.flatMap λx=>bJ ob' (ev' x))=args.toList.flatMap λx=>bJ ob (ev x):=by
     refine fmc λx hx=>?_;rw[he x (hm x hx)];exact jE λL hL=>hl L (lU.2 ⟨x,hx,hL⟩)
    simp only[act,aCl,aZ,he f hf,hef,hC,hko,e0,e1,has,e2,hrs]
   exact zcD aZ has key hA
  subst hA;exact hs.elim
 ·rename_i gf cells hef;split at hA
  ·rename_i az u has;split at hA
   case h_2=>subst hA;exact hs.elim
   rename_i rs hrs
   have key:∀(ev':Operand->DV)(ob':Nat->Option AO),(∀x∈o.op.operands.toList,ev' x=ev x)->(∀L∈args.toList.flatMap λx=>bJ ob (ev x),ob' L=ob L) ->
     act P Γ o ev' ob'=lS (args.toList.flatMap λx=>bJ ob (ev x)) u rs:=by
    intro ev' ob' he hl;have e0:args.toList.map ev'=args.toList.map ev:=qda λx hx=>he x (hm x hx);have e1:iO ob' (args.toList.map ev)=iO ob (args.toList.map ev):=mr λL hL=>hl L (by rw[qd9]at hL;exact hL);have e2:(args.toList.flatMap λx=>bJ ob' (ev' x))=args.toList.flatMap λx=>bJ ob (ev x):=by
     refine fmc λx hx=>?_;rw[he x (hm x hx)];exact jE λL hL=>hl L (lU.2 ⟨x,hx,hL⟩)
    simp only[act,aCl,aZ,he f hf,hef,e0,e1,has,e2,hrs]
   exact zcD aZ has key hA
  subst hA;exact hs.elim
 subst hA;exact hs.elim
theorem WV{f:FuncId}{first caps:Array Operand}(aZ:o.op=.makeFunc (.func f) first caps)(hA:act P Γ o ev ob=A)(hs:A.safe):bZ P Γ o ev ob A:=by
 have hm:∀x∈first.toList++caps.toList,x∈o.op.operands.toList:=λx hx=>by simp only[aZ,Op.operands];simpa using hx
 simp only[act,aMf,aZ]at hA;split at hA;rename_i hmt;split at hA;rename_i cs hf hc;subst hA;refine bZ.pure (λL hL=>by simp[mg,ul,nS]at hL) λev' ob' he _=>?_;have e1:Dl ev' caps.toList=some cs:=(Ir λx hx=>he x (hm x (dX.2 (.inr hx)))).trans hc;simp only[act,aMf,aZ,hmt,hf,e1];subst hA;exact hs.elim;rename_i hmt;have hbc:∀ev':Operand->DV,(∀x∈o.op.operands.toList,ev' x=ev x)->PY ev' first.toList caps.toList=PY ev first.toList caps.toList:=λev' he=>by
  unfold PY;cases hf:first.toList with
  | nil=>rfl
  | cons x r =>
   cases r with
   | cons y r=>rfl
   | nil =>
    cases hc:caps.toList with|cons y r=>rfl|nil=>simp only[];rw[he x (hm x (by rw[hf];simp))]
 split at hA;rename_i l hb;subst hA;exact bZ.pure (jf _) λev' ob' he _=>by simp only[act,aMf,aZ,hmt,hbc ev' he,hb]
 rename_i hbn;split at hA;rename_i l u l' u' h1 h2;subst hA;have zHa:∀(x:Operand)(c:Cl),ev x=.one (.c c)->∀k,RC ob k (bC c)->k∈bJ ob (ev x):=λx c h k hk=>by
  rw[h];exact ny.2 hk
 have clm:∀(xs:List Operand),∀L∈(xs.flatMap λx=>match ev x with | .one (.c c)=>[c]|_=>[.junk]).flatMap bC,∃x∈xs,∃c,ev x=.one (.c c)/\L∈bC c:=by
  intro xs L hL;obtain⟨c,hc,hL⟩:=lU.1 hL;obtain⟨x,hx,hc⟩:=lU.1 hc;refine⟨x,hx,?_⟩;split at hc;rename_i c' h;simp at hc;subst hc;exact⟨_,h,hL⟩;simp at hc;subst hc;simp[bC]at hL
 have keys:∀(xs:List Operand)(l:List PV)(u:mP),uk ob (xs.flatMap λx=>match ev x with | .one (.c c)=>[c]|_=>[.junk])=some (l,u) ->
   ∀x∈u,x.1∈xs.flatMap (λx=>bJ ob (ev x))/\qh x.2=[]:=by
  intro xs l u h y hy;obtain⟨h3,h4⟩:=zW h y hy;refine⟨?_,h4⟩;obtain⟨L,hL,h3⟩:=h3;obtain⟨x,hx,c,hc,hL⟩:=clm xs _ hL;exact lU.2 ⟨x,hx,zHa x c hc _ ⟨L,hL,h3⟩⟩
 have zHb:∀(xs:List Operand)(ev':Operand->DV)(ob':Nat->Option AO),(∀x∈xs,ev' x=ev x)->(∀L∈xs.flatMap (λx=>bJ ob (ev x)),ob' L=ob L) ->
   uk ob' (xs.flatMap λx=>match ev' x with | .one (.c c)=>[c]|_=>[.junk])=uk ob (xs.flatMap λx=>match ev x with | .one (.c c)=>[c]|_=>[.junk]):=by
  intro xs ev' ob' he cZ;have e0:(xs.flatMap λx=>match ev' x with | .one (.c c)=>[c]|_=>[.junk])=xs.flatMap λx=>match ev x with | .one (.c c)=>[c]|_=>[.junk] :=
   fmc λx hx=>by rw[he x hx]
  rw[e0];refine BI λL hL=>?_;obtain⟨x,hx,c,hc,hL⟩:=clm xs _ hL;have hd:∀k,RC ob k (bC c)->ob' k=ob k:=λk hk=>cZ k (lU.2 ⟨x,hx,zHa x c hc _ hk⟩);exact⟨hd L ⟨L,hL,.inl rfl⟩,λo' lq M hM=>⟨hd M ⟨L,hL,.inr ⟨o',lq,M,hM,.inl rfl⟩⟩,λo2 o9 N hN=>hd N ⟨L,hL,.inr ⟨o',lq,M,hM,.inr ⟨o2,o9,hN⟩⟩⟩⟩⟩
 refine⟨λx hx=>?_,.inl rfl,λx hx L hL=>?_,λd' gI L hL=>?_,λev' ob' he cZ=>?_⟩;simp only [aH.u]at hx;refine Md ?_;rw[qdR];rcases dX.1 hx with hx|hx
 exact dX.2 (.inl (keys _ _ _ h1 x hx).1);exact dX.2 (.inr (keys _ _ _ h2 x hx).1);simp only [aH.u]at hx;rcases dX.1 hx with hx|hx
 rw[(keys _ _ _ h1 x hx).2]at hL;simp at hL;rw[(keys _ _ _ h2 x hx).2]at hL;simp at hL;simp only[aH.gives]at gI;subst gI;simp[mg,ul,nS]at hL;have hl:∀L∈(first.toList++caps.toList).flatMap fun x=>bJ ob (ev x),ob' L=ob L:=fun L hL=>cZ (L,true) (Md hL);have e1:=zHb first.toList ev' ob' (λx hx=>he x (hm x (dX.2 (.inl hx)))) (λL hL=>hl L (by rw[qdR];exact dX.2 (.inl hL)));have e2:=zHb caps.toList ev' ob' (λx hx=>he x (hm x (dX.2 (.inr hx)))) (λL hL=>hl L (by rw[qdR];exact dX.2 (.inr hL)));have e3:((first.toList++caps.toList).flatMap λx=>bJ ob' (ev' x))=(first.toList++caps.toList).flatMap λx=>bJ ob (ev x):=by
  refine fmc λx hx=>?_;rw[he x (hm x hx)];exact jE λL hL=>hl L (lU.2 ⟨x,hx,hL⟩)
 simp only[act,aMf,aZ,hmt,e3,hbc ev' he,hbn];split;rename_i l2 u2 l3 u3 h3 h4;have a1:some (l2,u2)=some (l,u):=h3.symm.trans (e1.trans h1);have a2:some (l3,u3)=some (l',u'):=h4.symm.trans (e2.trans h2);simp only[bV,gJ]at a1 a2;obtain⟨rfl,rfl⟩:=a1;obtain⟨rfl,rfl⟩:=a2;rfl;rename_i wO;exact(wO l u l' u' (e1.trans h1) (e2.trans h2)).elim;subst hA;exact hs.elim
theorem Tu{t:TypeId}{x y:Operand}(aZ:o.op=.makeSlice t x y)(hA:act P Γ o ev ob=A)(hs:A.safe):bZ P Γ o ev ob A:=by
 have hx:x∈o.op.operands.toList:=by simp[aZ,Op.operands]
 have hy:y∈o.op.operands.toList:=by simp[aZ,Op.operands]
 have hc0:∀ev' ob',(∀x∈o.op.operands.toList,ev' x=ev x)->act P Γ o ev' ob'=tC P Γ t (ev x) (ev y) o.dst ob':=λev' ob' he=>by simp only[act,aZ,he x hx,he y hy]
 have hA0:=hA;rw[hc0 ev ob (λ_ _=>rfl)]at hA;unfold tC at hA;split at hA;rename_i e k1 j k2 j2 dst hu hex Zz Hy;split at hA;rename_i ie z hi hz iF;have fin:∀(s:CP)(ao:AO),qh ao=[]->aH.chk [(dst,true)] s (.cl (.vec dst)) [(dst,ao)] []=A->(∀ob':Nat->Option AO,ob' dst=none->tC P Γ t (ev x) (ev y) o.dst ob'=A)->bZ P Γ o ev ob A:=by
  intro s ao hao e hcc;subst e;refine⟨λz hz=>?_,.inl rfl,λz hz M hM=>?_,λd' gI M hM=>?_,λev' ob' he cZ=>?_⟩;simp only[aH.u,lN]at hz;subst hz;simp[aH.fp];simp only[aH.u,lN]at hz;subst hz;rw[hao]at hM;simp at hM;simp only [aH.gives]at gI;subst gI;simp only[mg,ul,nS,lN]at hM;subst hM;exact .inr (by simp[aH.fp]);have e2:=cZ (dst,true) (by simp [aH.fp]);simp only at e2;rw[hc0 ev' ob' he];exact hcc ob' (e2.trans iF)
 have hcc:∀ob':Nat->Option AO,ob' dst=none->tC P Γ t (ev x) (ev y) o.dst ob'=A:=λob' h=>by
  have:act P Γ o ev ob=A:=hA0;rw[hc0 ev ob (λ_ _=>rfl)]at this;rw[<- this];unfold tC;simp only[hu,hex,Zz,Hy,hi,hz,iF,h]
 split at hA;split at hA;split at hA;split at hA;exact fin _ _ rfl hA hcc;subst hA;exact hs.elim;subst hA;exact hs.elim;subst hA;exact hs.elim;split at hA;split at hA;exact fin _ _ rfl hA hcc;subst hA;exact hs.elim;subst hA;exact hs.elim;subst hA;exact hs.elim;subst hA;exact hs.elim
theorem zHc(hA:act P Γ o ev ob=A)(hs:A.safe):bZ P Γ o ev ob A:=by
 have tq:=hA;cases aZ:o.op with
 | move x=>simp only[act,aZ]at hA;subst hA;exact zcA (.inl aZ)
 | assign x=>simp only[act,aZ]at hA;subst hA;exact zcA (.inr aZ)
 | pick c x y =>
  simp only[act,aPk,aZ]at hA;split at hA;rename_i t hc;subst hA;exact zoS aZ hc;subst hA;exact hs.elim
 | alloc e =>
  simp only[act,aAl,aZ]at hA;split at hA;rename_i z hz;refine Ti (ao:=.box e z) (d:=λt=>.cl (.ptr t 0)) (λL hL=>?_) (λt L hL=>by simp[mg,ul,nS]at hL) (λev' ob' _=>by simp only[act,aAl,aZ,hz]) hA hs;simp only[qh]at hL;rw[zcB hz]at hL;simp at hL;subst hA;exact hs.elim
 | box e x =>
  have hx:x∈o.op.operands.toList:=by simp[aZ,Op.operands]
  simp only[act,aBx,aZ]at hA;split at hA;rename_i d m hex hm;split at hA;rename_i dw;refine Ti (ao:=.box e d.cells) (d:=λt=>.cl (.ptr t 0)) (λL hL=>?_) (λt L hL=>by simp[mg,ul,nS]at hL) (λev' ob' he=>by simp only[act,aBx,aZ,he x hx,hex,hm,dw]) hA hs;simp only[qh]at hL;rw[Tj]at hL;exact .inl ⟨x,hx,by rw[hex];exact hL⟩;subst hA;exact hs.elim;subst hA;exact hs.elim
 | build t parts =>
  simp only[act,aBd,aZ]at hA;split at hA;rename_i z hf hz;split at hA;rename_i l hl;subst hA;exact zio aZ hf hz hl;subst hA;exact hs.elim;subst hA;exact hs.elim
 | buildSlice t m parts=>exact Ph aZ tq hs
 | load t x=>exact zoT aZ tq hs
 | store t x y=>exact ziq aZ tq hs
 | nilCheck x=>exact WU aZ tq hs
 | binOp op t x y t'=>exact zis aZ tq hs
 | unOp op t x=>exact zoV aZ tq hs
 | convert t1 t2 x=>exact zan aZ tq hs
 | fieldAddr t x f=>exact Tn aZ tq hs
 | indexAddr t x y=>exact Tq aZ tq hs
 | extract x k=>exact zao aZ tq hs
 | index t x y=>exact zit aZ tq hs
 | field t x f=>exact ziu aZ tq hs
 | slice t x lo hi mx =>
  cases mx with|none=>exact ok_slice aZ tq hs|some m=>simp only[act,aZ]at hA;subst hA;exact hs.elim
 | lookup t x y k=>exact zeT aZ tq hs
 | mapUpdate t x y z=>exact Tm aZ tq hs
 | makeMap t x =>
  cases x with|none=>exact zam aZ tq hs|some x=>simp only[act,aZ]at hA;subst hA;exact hs.elim
 | makeSlice t x y=>exact Tu aZ tq hs
 | makeFunc fn first caps =>
  cases fn with|func f=>exact WV aZ tq hs|_=>simp only[act,aZ]at hA;subst hA;exact hs.elim
 | call c =>
  obtain⟨callee,args,ts⟩:=c;cases callee with
  | value f=>exact zoW aZ tq hs
  | invoke x m=>simp only[act,aZ]at hA;subst hA;exact hs.elim
  | builtin b =>
   cases b with|len=>exact zyA aZ tq hs|max=>exact zvg (.inl rfl) aZ tq hs|min=>exact zvg (.inr rfl) aZ tq hs|append=>exact zeU aZ tq hs|_=>simp only[act,aZ]at hA;subst hA;exact hs.elim
 | _=>simp only[act,aZ]at hA;subst hA;exact hs.elim
end
end Go.Pm
namespace Go.Pm
variable [aC]
structure BL (σ τ : St) : Prop where
  env:∀t,lk σ.env t=lk τ.env t
  ay:∀L,lk σ.ay L=lk τ.ay L
  log:∀x,x∈σ.log↔x∈τ.log
theorem BL.refl(σ:St):BL σ σ:=⟨λ_=>rfl,λ_=>rfl,λ_=>VH⟩
theorem BL.symm{σ τ:St}(h:BL σ τ):BL τ σ:=⟨λt=>(h.env t).symm,λt=>(h.ay t).symm,λx=>(h.log x).symm⟩
theorem Gs{e e':List (Nat×DV)}{x:Operand}(h:∀t∈ZN x,lk e t=lk e' t):fV e x=fV e' x:=by
 cases x with|tmp t=>simp only[fV];rw[h t (by simp[ZN])]|_=>rfl
theorem Gt(x:Cl):gz [] x=x:=by cases x<;>rfl
theorem MB(x:D1):fZ [] x=x:=by
 cases x with|c x=>simp[fZ,Gt]|agg cs=>simp only[fZ];rw[show gz []=id from funext Gt,qjv]
theorem zeW(x:DV):gY [] x=x:=by
 cases x with|one x=>simp[gY,MB]|tup cs=>simp only[gY];rw[show fZ []=id from funext MB,qjv]
theorem zeX(x:AO):fE [] x=x:=by
 cases x with|box ty cs=>simp only[fE];rw[show gz []=id from funext Gt,qjv]|_=>rfl
theorem MC{l:List Nat}{x:Cl}(h:∀L∈nS x,L∉l):gz l x=x:=by
 cases x with
 | vec L =>
  have h1:l.contains L=false:=by simpa using h L (by simp[nS])
  simp only[gz,h1]
 | vptr L s i k =>
  have h1:l.contains L=false:=by simpa using h L (by simp[nS])
  simp only[gz,h1]
 | mo L =>
  have h1:l.contains L=false:=by simpa using h L (by simp[nS])
  simp only[gz,h1]
 | _=>rfl
theorem zX{α:Type}{f:α→α}:∀{l:List α},(∀x∈l,f x=x)→l.map f=l|[],_=>rfl|x::l,h=>by rw[nX,h x kX,zX λy hy=>h y (jW _ hy)]
theorem QD{l:List Nat}{x:D1}(h:∀L∈ul x,L∉l):fZ l x=x:=by
 cases x with|c x=>simp only[fZ];rw[MC h]|agg cs=>simp only[fZ];rw[zX λx hx=>MC λL hL=>h L (lU.2 ⟨x,hx,hL⟩)]
theorem MF{l:List Nat}{x:DV}(h:∀L∈mg x,L∉l):gY l x=x:=by
 cases x with|one x=>simp only[gY];rw[QD h]|tup cs=>simp only[gY];rw[zX λx hx=>QD λL hL=>h L (lU.2 ⟨x,hx,hL⟩)]
theorem MG{l:List Nat}{x:AO}(h:∀L∈qh x,L∉l):fE l x=x:=by
 cases x with|box ty cs=>simp only[fE];rw[zX λx hx=>MC λL hL=>h L (lU.2 ⟨x,hx,hL⟩)]|_=>rfl
theorem Tv{l:List Nat}{x:Cl}:nS (gz l x)=nS x:=by
 cases x with|vec L=>simp only[gz];split<;>rfl|vptr L s i k=>simp only[gz];split<;>rfl|mo L=>simp only[gz];split<;>rfl|_=>rfl
theorem WW{l:List Nat}{x:D1}:ul (fZ l x)=ul x:=by
 cases x with|c x=>exact Tv|agg cs=>simp only[fZ,ul,qd9];exact fmc λx _=>Tv
theorem zoX{l:List Nat}{x:DV}:mg (gY l x)=mg x:=by
 cases x with|one x=>exact WW|tup cs=>simp only[gY,mg,qd9];exact fmc λx _=>WW
theorem Tz{l:List Nat}{x:AO}:qh (fE l x)=qh x:=by
 cases x with|box ty cs=>simp only[fE,qh,qd9];exact fmc λx _=>Tv|_=>rfl
theorem BM{l m:List Nat}(x:Cl):gz l (gz m x)=gz m (gz l x):=by
 cases x with|vec L=>simp only[gz];cases hl:l.contains L<;>cases hm:m.contains L<;>simp only[hl,hm]|vptr L s i k=>simp only[gz];cases hl:l.contains L<;>cases hm:m.contains L<;>simp only[hl,hm]|mo L=>simp only[gz];cases hl:l.contains L<;>cases hm:m.contains L<;>simp only[hl,hm]|_=>rfl
theorem Iu{l m:List Nat}(x:D1):fZ l (fZ m x)=fZ m (fZ l x):=by
 cases x with|c x=>simp only[fZ];rw[BM]|agg cs=>simp only[fZ,qdO];rw[show gz l∘gz m=gz m∘gz l from funext BM]
theorem zar{l m:List Nat}(x:DV):gY l (gY m x)=gY m (gY l x):=by
 cases x with|one x=>simp only[gY];rw[Iu]|tup cs=>simp only[gY,qdO];rw[show fZ l∘fZ m=fZ m∘fZ l from funext Iu]
theorem zas{l m:List Nat}(x:AO):fE l (fE m x)=fE m (fE l x):=by
 cases x with|box ty cs=>simp only[fE,qdO];rw[show gz l∘gz m=gz m∘gz l from funext BM]|_=>rfl
theorem zcE{α:Type}{f:α→α}:∀{l:List (Nat×α)}{t:Nat},lk (kills f l) t=(lk l t).map f
  | [],_=>rfl
  | (k,a)::r,t=>by
    simp only[kills];rw[aX,aX];split;rfl;exact zcE
theorem zoY{σ:St}{i:Nat}{dst:Option Nat}{fp:List (Nat×Bool)}{d:DV}{u:List (Nat×AO)}{kl:List Nat}(t:Nat) :
  lk (σ.upd i dst fp d u kl).env t=if dst=some t then some d else(lk σ.env t).map (gY kl):=by
 cases kl with
 | nil =>
  have e:(lk σ.env t).map (gY [])=lk σ.env t:=by cases lk σ.env t<;>simp[zeW]
  rw[e];cases dst with|none=>rfl|some s=>simp only[St.upd,aX,bV]
 | cons K r =>
  cases dst with|none=>simp only[St.upd,zcE];rw[fH (by simp)]|some s=>simp only[St.upd,aX,zcE,bV]
theorem ziw{σ:St}{i:Nat}{dst:Option Nat}{fp:List (Nat×Bool)}{d:DV}{u:List (Nat×AO)}{kl:List Nat}(L:Nat) :
  lk (σ.upd i dst fp d u kl).ay L=match lk u L with|some o=>some o|none=>(lk σ.ay L).map (fE kl):=by
 cases kl with
 | nil =>
  have e:(lk σ.ay L).map (fE [])=lk σ.ay L:=by cases lk σ.ay L<;>simp[zeX]
  rw[e];change lk (u++σ.ay) L=_;rw[iC];cases lk u L<;>rfl
 | cons K r =>
  simp only[St.upd,iC,zcE];cases lk u L<;>rfl
theorem zoZ{σ:St}{i:Nat}{dst:Option Nat}{fp:List (Nat×Bool)}{d:DV}{u:List (Nat×AO)}{kl:List Nat}:(σ.upd i dst fp d u kl).log=σ.log:=by
 cases kl<;>rfl
abbrev aH.may:aH->DV->Prop:=aH.gives
theorem aH.may_gives{A:aH}{d:DV}(h:A.may d):A.gives d:=h
theorem aH.may_of_safe{A:aH}(h:A.safe):∃d,A.may d:=by
 cases A with|no=>exact h.elim|val fp d u kl=>exact⟨d,rfl⟩|chk fp s d u kl=>exact⟨d,rfl⟩
def nx(A:aH)(lg:List (Nat×Bool)->List Nat->List (Nat×Nat×Nat))(i:Nat)(dst:Option Nat)(σ:St)(d:DV):St :=
 (σ.upd i dst A.fp d A.u A.kl).relog (lg A.fp A.kl)
theorem mD{A:aH}{lg:List (Nat×Bool)→List Nat→List (Nat×Nat×Nat)}{i:Nat}{dst:Option Nat}{K:St→Prop}{σ:St} :
  nZ A lg i dst K σ↔A.safe/\∀d,A.may d->K (nx A lg i dst σ d):=by
 cases A with|no=>simp[nZ,aH.safe]|val fp d u kl=>simp[nZ,aH.safe,aH.may,aH.gives,nx,aH.fp,aH.u,aH.kl]|chk fp s d u kl=>simp[nZ,aH.safe,aH.may,aH.gives,nx,aH.fp,aH.u,aH.kl]
section
variable(P:Program)(Γ:bK)(nt:Nat)(ops:Array Oper)
def oq(env:List (Nat×DV))(o:Oper):Option Bool :=
 match o.guard with
 | none=>some true
 | some (j,want) =>
  match(ops[j]?).bind (·.dst)with
  | none=>none
  | some g =>
   match lk env g with|some (.one (.c (.p (.bool b))))=>some (b==want)|some (.one (.c .undef))=>some false|_=>none
def vN(σ:St)(o:Oper):aH :=
 match dI nt o.dst,oq ops σ.env o with|true,some true=>act P Γ o (fV σ.env) (lk σ.ay)|true,some false=>.val [] (.cl .undef) [] []|_,_=>.no
def rE(σ:St)(i:Nat)(o:Oper)(fp:List (Nat×Bool))(kl:List Nat):List (Nat×Nat×Nat) :=
 match oq ops σ.env o with|some true=>pK σ i o fp kl|_=>[]
def yC:List Nat→(St→Prop)→St→Prop
  | [],K,σ=>K σ
  | i::r,K,σ=>match ops[i]? with|none=>yC r K σ|some o=>nZ (vN P Γ nt ops σ o) (rE ops σ i o) i o.dst (yC r K) σ
def looks(σ:St)(o:Oper):List Nat :=
 match oq ops σ.env o with|some true=>ut ops o|_=>gdT ops o
end
section
variable{P:Program}{Γ:bK}{nt:Nat}{ops:Array Oper}{σ τ:St}{o:Oper}{i:Nat}{A:aH}
theorem zk{L k:Nat}{r:List Nat}:k∈O5 σ (L::r)↔∃o,lk σ.ay k=some o/\L∈qh o:=by
 simp only[O5,RV,uV];constructor;rintro⟨_,h⟩;split at h;rename_i o ho;exact⟨o,ho,by simpa using h⟩;cases h;rintro⟨o,ho,hL⟩;refine⟨⟨(k,o),fO ho,rfl⟩,?_⟩;rw[ho];simpa using hL
theorem QE:∀t∈looks ops σ o,t∈ut ops o:=by
 unfold looks;split;exact λ_ h=>h;exact λt h=>dX.2 (.inr h)
theorem QF:∀t∈gdT ops o,t∈looks ops σ o:=by
 unfold looks;split;exact λt h=>dX.2 (.inr h);exact λt h=>h
theorem tN{env env':List (Nat×DV)}(h:∀t∈gdT ops o,lk env' t=lk env t):oq ops env' o=oq ops env o:=by
 unfold oq;split;rfl;rename_i j want hg;split;rfl;rename_i g Vm;rw[h g (by simp[gdT,hg,Vm])]
theorem zcF{b:Bool}(h:oq ops σ.env o=some b):∀t∈gdT ops o,∀v,lk σ.env t=some v->mg v=[]:=by
 intro t ht v hv;unfold gdT at ht;split at ht;rename_i j want hg;split at ht;rename_i g Vm;simp only[lN]at ht;subst ht;unfold oq at h;rw[hg]at h;simp only[Vm]at h;rw[hv]at h;split at h;rename_i e;simp only[bV]at e;subst e;rfl;rename_i e;simp only[bV]at e;subst e;rfl;cases h;simp at ht;simp at ht
structure Loc (P : Program) (Γ : bK) (nt : Nat) (ops : Array Oper) (σ : St) (i : Nat) (o : Oper) (A : aH) (lg : List (Nat × Nat × Nat)) : Prop where
  fst:∀x∈lg,x.1=i
  wr:∀x∈A.u,(i,x.1,1)∈lg
  kl:A.kl=[]\/∃L,A.kl=[L]
  kl3:∀L∈A.kl,(i,L,3)∈lg
  kl1:∀L∈A.kl,(i,L,1)∈lg
  kb:∀L∈A.kl,∀k o',lk σ.ay k=some o'->L∈qh o'->(i,k,1)∈lg
  labu:∀x∈A.u,∀L∈qh x.2,(i,L,2)∈lg
  labd:∀d,A.may d->∀L∈mg d,(i,L,2)∈lg\/(i,L,1)∈lg
  see:∀t∈looks ops σ o,∀v,lk σ.env t=some v->∀L∈mg v,(i,L,2)∈lg
  fpm:∀y∈A.fp,∀o',lk σ.ay y.1=some o'->∀L∈qh o',(i,L,2)∈lg
  fpt:∀y∈A.fp,(i,y.1,0)∈lg\/(i,y.1,1)∈lg
  wfp:∀x∈A.u,(x.1,true)∈A.fp
  congr:∀τ,(∀t∈looks ops σ o,lk τ.env t=lk σ.env t)->(∀y∈A.fp,lk τ.ay y.1=lk σ.ay y.1)->vN P Γ nt ops τ o=A
  logc:∀τ,(∀t∈looks ops σ o,lk τ.env t=lk σ.env t)->(∀y∈A.fp,lk τ.ay y.1=lk σ.ay y.1) ->
    (∀L∈A.kl,∀k,(∃o',lk τ.ay k=some o'/\L∈qh o')↔∃o',lk σ.ay k=some o'/\L∈qh o')->∀x,x∈rE ops τ i o A.fp A.kl↔x∈lg
theorem jO{fp:List (Nat×Bool)}{kl:List Nat}{x:Nat×Nat×Nat}:x∈pK σ i o fp kl ↔
    (∃y∈fp,x=(i,y.1,match y.2 with|true=>1|false=>0))\/(∃L∈KJ σ o fp,x=(i,L,2))\/(∃L∈kl,x=(i,L,3))\/∃k∈O5 σ kl,x=(i,k,1):=by
  simp only[pK,dX,uV,or_assoc];constructor;rintro(⟨y,h1,h2⟩|⟨y,h1,h2⟩|⟨y,h1,h2⟩|⟨y,h1,h2⟩);exact .inl ⟨y,h1,h2.symm⟩;exact .inr (.inl ⟨y,h1,h2.symm⟩);exact .inr (.inr (.inl ⟨y,h1,h2.symm⟩));exact .inr (.inr (.inr ⟨y,h1,h2.symm⟩));rintro(⟨y,h1,h2⟩|⟨y,h1,h2⟩|⟨y,h1,h2⟩|⟨y,h1,h2⟩);exact .inl ⟨y,h1,h2.symm⟩;exact .inr (.inl ⟨y,h1,h2.symm⟩);exact .inr (.inr (.inl ⟨y,h1,h2.symm⟩));exact .inr (.inr (.inr ⟨y,h1,h2.symm⟩))
theorem zeY{fp:List (Nat×Bool)}{L:Nat}(h:Men o (fV σ.env) (lk σ.ay) fp L):L∈KJ σ o fp:=by
 unfold KJ;rcases h with⟨x,hx,hL⟩|⟨y,hy,o',ho,hL⟩
 exact dX.2 (.inl (lU.2 ⟨x,hx,hL⟩));refine dX.2 (.inr (lU.2 ⟨y,hy,?_⟩));rw[ho];exact hL
theorem Iw{fp:List (Nat×Bool)}(he:∀x∈o.op.operands.toList,fV τ.env x=fV σ.env x)(cZ:∀y∈fp,lk τ.ay y.1=lk σ.ay y.1):KJ τ o fp=KJ σ o fp:=by
 unfold KJ;rw[fmc (f:=λx=>mg (fV τ.env x)) (h:=λx=>mg (fV σ.env x)) λx hx=>by rw[he x hx]];congr 1;exact fmc λy hy=>by rw[cZ y hy]
theorem WX(hA:vN P Γ nt ops σ o=A)(hs:A.safe):Loc P Γ nt ops σ i o A (rE ops σ i o A.fp A.kl):=by
 have tq:=hA;unfold vN at hA;split at hA;rename_i hd hw;have K:=zHc hA hs;have hlg:∀fp kl,rE ops σ i o fp kl=pK σ i o fp kl:=λfp kl=>by unfold rE;rw[hw]
 have Vp:looks ops σ o=ut ops o:=by unfold looks;rw[hw]
 have zo0:∀L,Men o (fV σ.env) (lk σ.ay) A.fp L->(i,L,2)∈rE ops σ i o A.fp A.kl:=λL h=>by
  rw[hlg];exact jO.2 (.inr (.inl ⟨L,zeY h,rfl⟩))
 have hfw:∀L,(L,true)∈A.fp->(i,L,1)∈rE ops σ i o A.fp A.kl:=λL h=>by
  rw[hlg];exact jO.2 (.inl ⟨_,h,rfl⟩)
 have aZ:∀τ:St,(∀t∈looks ops σ o,lk τ.env t=lk σ.env t)->∀x∈o.op.operands.toList,fV τ.env x=fV σ.env x:=λτ h x hx =>
  Gs λt ht=>h t (by rw[Vp];exact dX.2 (.inl (lU.2 ⟨x,hx,ht⟩)))
 have hwt:∀τ:St,(∀t∈looks ops σ o,lk τ.env t=lk σ.env t)->oq ops τ.env o=some true:=λτ h=>by
  rw[tN (env:=σ.env) λt ht=>h t (QF t ht),hw]
 refine⟨λx hx=>?_,λx hx=>hfw _ (K.wr x hx),?_,λL hL=>?_,λL hL=>?_,λL hL k o' hk RI=>?_,λx hx L hL=>zo0 L (K.labu x hx L hL),
  λd gI L hL=>(K.labd d (aH.may_gives gI) L hL).imp (zo0 L) (hfw L),λt ht v hv L hL=>?_,λy hy o' ho L hL=>zo0 L (.inr ⟨y,hy,o',ho,hL⟩),λy hy=>?_,K.wr,λτ he cZ=>?_,λτ he cZ hkb x=>?_⟩
 rw [hlg]at hx;rcases jO.1 hx with⟨_,_,h⟩|⟨_,_,h⟩|⟨_,_,h⟩|⟨_,_,h⟩<;>rw[h]
 exact K.kl.imp_right λ⟨L,h,_⟩=>⟨L,h⟩;rw[hlg];exact jO.2 (.inr (.inr (.inl ⟨L,hL,rfl⟩)));rcases K.kl with h|⟨M,h,h2⟩
 rw[h]at hL;simp at hL;rw[h]at hL;simp at hL;subst hL;exact hfw _ h2;rw [hlg];refine jO.2 (.inr (.inr (.inr ⟨k,?_,rfl⟩)));rcases K.kl with h|⟨M,h,h2⟩
 rw[h]at hL;simp at hL;rw[h]at hL ⊢;simp at hL;subst hL;exact zk.2 ⟨o',hk,RI⟩;rw [Vp]at ht;rcases dX.1 ht with ht|ht
 ·obtain⟨x,hx,ht⟩:=lU.1 ht;refine zo0 L (.inl ⟨x,hx,?_⟩);cases x with|tmp s=>simp only[ZN,lN]at ht;subst ht;simp only[fV,hv];exact hL|_=>simp[ZN]at ht
 rw[zcF hw t ht v hv]at hL;simp at hL
 ·rw [hlg];obtain⟨L,b⟩:=y;cases b with|true=>exact .inr (jO.2 (.inl ⟨_,hy,rfl⟩))|false=>exact .inl (jO.2 (.inl ⟨_,hy,rfl⟩))
 unfold vN;rw[hd,hwt τ he];exact K.congr _ _ (aZ τ he) cZ;have e1:rE ops τ i o A.fp A.kl=pK τ i o A.fp A.kl:=by unfold rE;rw [hwt τ he]
 rw[e1,hlg,jO,jO,Iw (aZ τ he) cZ];refine qjZ VH (qjZ VH (qjZ VH ?_));rcases K.kl with h|⟨M,h,h2⟩
 rw[h];simp[O5];rw [h];have:∀k,k∈O5 τ [M]↔k∈O5 σ [M]:=λk=>by rw[zk,zk];exact hkb M (by rw[h];simp) k
 constructor;rintro⟨k,h1,h2⟩;exact⟨k,(this k).1 h1,h2⟩;rintro⟨k,h1,h2⟩;exact⟨k,(this k).2 h1,h2⟩;rename_i hd hw;subst hA;have hlg:∀fp kl,rE ops σ i o fp kl=[]:=λfp kl=>by unfold rE;rw[hw]
 have Vp:looks ops σ o=gdT ops o:=by unfold looks;rw[hw]
 have hwt:∀τ:St,(∀t∈looks ops σ o,lk τ.env t=lk σ.env t)->oq ops τ.env o=some false:=λτ h=>by
  rw[tN (env:=σ.env) λt ht=>h t (QF t ht),hw]
 refine⟨λx hx=>?_,λx hx=>?_,.inl rfl,λL hL=>?_,λL hL=>?_,λL hL=>?_,λx hx=>?_,λd gI L hL=>?_,λt ht v hv L hL=>?_,λy hy=>?_,λy hy=>?_,λx hx=>?_,λτ he cZ=>?_,λτ he cZ hkb x=>?_⟩;rw[hlg]at hx;simp at hx;simp[aH.u]at hx;simp[aH.kl]at hL;simp[aH.kl]at hL;simp[aH.kl]at hL;simp[aH.u]at hx;simp only[aH.gives]at gI;subst gI;simp[mg,ul,nS]at hL;rw[Vp]at ht;rw[zcF hw t ht v hv]at hL;simp at hL;simp[aH.fp]at hy;simp[aH.fp]at hy;simp[aH.u]at hx;unfold vN;rw[hd,hwt τ he];rw [hlg];have:rE ops τ i o (aH.val [] (.cl .undef) [] []).fp (aH.val [] (.cl .undef) [] []).kl=[]:=by unfold rE;rw[hwt τ he]
 rw[this];subst hA;exact hs.elim
theorem Gu{lg:List (Nat×Bool)->List Nat->List (Nat×Nat×Nat)}{dst:Option Nat}{d:DV}(t:Nat):lk (nx A lg i dst σ d).env t=if dst=some t then some d else(lk σ.env t).map (gY A.kl):=zoY t
theorem zY{lg:List (Nat×Bool)->List Nat->List (Nat×Nat×Nat)}{dst:Option Nat}{d:DV}(L:Nat):lk (nx A lg i dst σ d).ay L=match lk A.u L with|some o=>some o|none=>(lk σ.ay L).map (fE A.kl):=ziw L
theorem xg{lg:List (Nat×Bool)->List Nat->List (Nat×Nat×Nat)}{dst:Option Nat}{d:DV}:(nx A lg i dst σ d).log=lg A.fp A.kl++σ.log:=by simp only[nx,St.relog,zoZ]
theorem zix(h:BL σ τ)(o:Oper):vN P Γ nt ops τ o=vN P Γ nt ops σ o:=by
 unfold vN;rw[tN (env:=σ.env) λt _=>(h.env t).symm,show fV τ.env=fV σ.env from funext λx=>Gs λt _=>(h.env t).symm,show lk τ.ay=lk σ.ay from funext λt=>(h.ay t).symm]
theorem zo1(h:BL σ τ){fp:List (Nat×Bool)}{kl:List Nat}(x:Nat×Nat×Nat):x∈rE ops σ i o fp kl↔x∈rE ops τ i o fp kl:=by
 unfold rE;rw[tN (env:=σ.env) (env':=τ.env) λt _=>(h.env t).symm];split
 ·rw [jO,jO,Iw (σ:=σ) (τ:=τ) (fun x _=>Gs fun t _=>(h.env t).symm) (fun y _=>(h.ay y.1).symm)];refine qjZ VH (qjZ VH (qjZ VH ?_));cases kl with
  | nil=>simp[O5]
  | cons L r =>
   have:∀k,k∈O5 σ (L::r)↔k∈O5 τ (L::r):=λk=>by rw[zk,zk,h.ay k]
   constructor;rintro⟨k,h1,h2⟩;exact⟨k,(this k).1 h1,h2⟩;rintro⟨k,h1,h2⟩;exact⟨k,(this k).2 h1,h2⟩
 exact VH
theorem JF{K:St→Prop}(hK:∀σ τ,BL σ τ→K σ→K τ):∀(l:List Nat)(σ τ:St),BL σ τ→yC P Γ nt ops l K σ→yC P Γ nt ops l K τ
  | [],σ,τ,h,hv=>hK σ τ h hv
  | i::r,σ,τ,h,hv=>by
    simp only[yC]at hv ⊢;split at hv;exact JF hK r σ τ h hv;rename_i o ho;rw[mD]at hv ⊢;rw[zix h];refine⟨hv.1,λd hd=>JF hK r _ _ ⟨λt=>?_,λL=>?_,λx=>?_⟩ (hv.2 d hd)⟩;rw[Gu,Gu,h.env];rw[zY,zY,h.ay];rw [xg,xg,dX,dX,h.log x];exact qjZ (zo1 h x) VH
theorem Be{K K':St->Prop}{l l':List Nat}{i:Nat}(hK:∀σ,yC P Γ nt ops l K σ->yC P Γ nt ops l' K' σ)(hv:yC P Γ nt ops (i::l) K σ):yC P Γ nt ops (i::l') K' σ:=by
 simp only[yC]at hv ⊢;split at hv;exact hK _ hv;rw [mD]at hv ⊢;exact⟨hv.1,λd hd=>hK _ (hv.2 d hd)⟩
theorem TA{K:St→Prop}{R:List (Nat×Nat×Nat)→Prop}(hR:∀l m,(∀x∈l,x∈m)→R m→R l)(hK:∀σ,K σ→R σ.log):∀(l:List Nat)(σ:St),yC P Γ nt ops l K σ→R σ.log
  | [],σ,hv=>hK σ hv
  | i::r,σ,hv=>by
    simp only[yC]at hv;split at hv;exact TA hR hK r σ hv;rw [mD]at hv;obtain⟨d,hd⟩:=aH.may_of_safe hv.1;refine hR _ _ (λx hx=>?_) (TA hR hK r _ (hv.2 d hd));rw[xg];exact dX.2 (.inr hx)
def DW(log:List (Nat×Nat×Nat))(i j:Nat):Prop:=∀L k m,(i,L,k)∈log->(j,L,m)∈log->ZO k m=false
theorem MH{l:List Nat}{x:Option DV}(h:∀v,x=some v->∀L∈mg v,L∉l):x.map (gY l)=x:=by
 cases x with|none=>rfl|some v=>simp only[RU];rw[MF (h v rfl)]
theorem MI{l:List Nat}{x:Option AO}(h:∀v,x=some v->∀L∈qh v,L∉l):x.map (fE l)=x:=by
 cases x with|none=>rfl|some v=>simp only[RU];rw[MG (h v rfl)]
theorem ziy{a b:Oper}(h:KL ops a b=false):(∀t∈ut ops b,a.dst≠some t)/\(∀t∈ut ops a,b.dst≠some t)/\∀t,a.dst=some t->b.dst≠some t:=by
 simp only[KL,qd6]at h;obtain⟨⟨h1,h2⟩,h3⟩:=h;refine⟨λt ht e=>?_,λt ht e=>?_,λt e e'=>?_⟩;rw [e]at h1;simp only [meets]at h1;have:(ut ops b).contains t=true:=by simpa using ht
 rw[this]at h1;cases h1;rw [e]at h2;simp only [meets]at h2;have:(ut ops a).contains t=true:=by simpa using ht
 rw[this]at h2;cases h2;rw [e,e']at h3;simp only [zb5]at h3;rw[show Nat.beq t t=true from by simp]at h3;cases h3
theorem ziz{K:St→Prop}{i j:Nat}{oi oj:Oper}{r:List Nat}(hi:ops[i]? = some oi)(hj:ops[j]? = some oj)(hT:KL ops oi oj=false)
    (hE:∀τ τ',BL τ τ'->yC P Γ nt ops r K τ->yC P Γ nt ops r K τ') (hN:∀τ,yC P Γ nt ops r K τ->DW τ.log i j)
    (h:yC P Γ nt ops (i::j::r) K σ):yC P Γ nt ops (j::i::r) K σ:=by
  obtain⟨cT1,cT2,cT3⟩:=ziy hT;simp only[yC,hi,hj]at h ⊢;rw[mD]at h;obtain⟨hsA,hA⟩:=h;generalize hAe:vN P Γ nt ops σ oi=A at hsA hA;have LA:=WX (i:=i) hAe hsA
  -- the second operation behind the first: az before it
  have key:∀d,A.may d->∃B,vN P Γ nt ops (nx A (rE ops σ i oi) i oi.dst σ d) oj=B/\B.safe /\
      (∀e,B.may e->yC P Γ nt ops r K (nx B (rE ops (nx A (rE ops σ i oi) i oi.dst σ d) j oj) j oj.dst (nx A (rE ops σ i oi) i oi.dst σ d) e)) /\
      DW (rE ops (nx A (rE ops σ i oi) i oi.dst σ d) j oj B.fp B.kl++(rE ops σ i oi A.fp A.kl)) i j:=by
    intro d hd;have h2:=hA d hd;rw[mD]at h2;obtain⟨hsB,hB⟩:=h2;refine⟨_,rfl,hsB,hB,?_⟩;obtain⟨e,he⟩:=aH.may_of_safe hsB;have:=hN _ (hB e he);rw[xg,xg]at this;intro L k m hk hm;refine this L k m ?_ ?_;rcases dX.1 hk with h|h
    exact dX.2 (.inl h);exact dX.2 (.inr (dX.2 (.inl h)));rcases dX.1 hm with h|h
    exact dX.2 (.inl h);exact dX.2 (.inr (dX.2 (.inl h)))
  have main:∀d,A.may d->∀B,vN P Γ nt ops (nx A (rE ops σ i oi) i oi.dst σ d) oj=B->B.safe ->
      (∀e,B.may e->yC P Γ nt ops r K (nx B (rE ops (nx A (rE ops σ i oi) i oi.dst σ d) j oj) j oj.dst (nx A (rE ops σ i oi) i oi.dst σ d) e)) ->
      DW (rE ops (nx A (rE ops σ i oi) i oi.dst σ d) j oj B.fp B.kl++(rE ops σ i oi A.fp A.kl)) i j ->
      vN P Γ nt ops σ oj=B/\∀e,B.may e->vN P Γ nt ops (nx B (rE ops σ j oj) j oj.dst σ e) oi=A /\
        yC P Γ nt ops r K (nx A (rE ops (nx B (rE ops σ j oj) j oj.dst σ e) i oi) i oi.dst (nx B (rE ops σ j oj) j oj.dst σ e) d):=by
    intro d hd B hBe hsB hB wO;generalize hσ1:nx A (rE ops σ i oi) i oi.dst σ d=σ1 at hBe hB wO;have LB:=WX (i:=j) hBe hsB;have no:∀L k m,(i,L,k)∈rE ops σ i oi A.fp A.kl->(j,L,m)∈rE ops σ1 j oj B.fp B.kl->ZO k m=true->False:=λL k m h1 h2 hc=>by
      have:=wO L k m (dX.2 (.inr h1)) (dX.2 (.inl h2));rw[this]at hc;cases hc
    have zHd:∀t,lk σ1.env t=if oi.dst=some t then some d else(lk σ.env t).map (gY A.kl):=λt=>by rw[<- hσ1,Gu]
    have ziA:∀L,lk σ1.ay L=match lk A.u L with|some o=>some o|none=>(lk σ.ay L).map (fE A.kl):=λL=>by rw[<- hσ1,zY]
    -- zN3 the second looks at, the first has not changed
    have zHe:∀t∈looks ops σ1 oj,lk σ.env t=lk σ1.env t:=by
      intro t ht;have e:=zHd t;rw[fH (cT1 t (QE t ht))]at e;rw[e];refine(MH λv hv L hL hk=>?_).symm;rw[hv,RU]at e;exact no L 3 2 (LA.kl3 L hk) (LB.see t ht _ e L (by rw[zoX];exact hL)) rfl
    have fpB:∀y∈B.fp,lk σ.ay y.1=lk σ1.ay y.1:=by
      intro y hy;have e:=ziA y.1;have hn:lk A.u y.1=none:=by
        cases hu:lk A.u y.1 with
        | none=>rfl
        | some o' =>
          have h1:=LA.wr _ (fO hu);rcases LB.fpt y hy with h2|h2
          exact(no _ _ _ h1 h2 rfl).elim;exact(no _ _ _ h1 h2 rfl).elim
      rw[hn]at e;simp only at e;rw[e];refine(MI λv hv L hL hk=>?_).symm;rw[hv,RU]at e;exact no L 3 2 (LA.kl3 L hk) (LB.fpm y hy _ e L (by rw[Tz];exact hL)) rfl
    have hBσ:=LB.congr σ zHe fpB;refine⟨hBσ,λe he=>?_⟩;generalize hσ1':nx B (rE ops σ j oj) j oj.dst σ e=σ1';have zvi:∀t,lk σ1'.env t=if oj.dst=some t then some e else(lk σ.env t).map (gY B.kl):=λt=>by rw[<- hσ1',Gu]
    have zat:∀L,lk σ1'.ay L=match lk B.u L with|some o=>some o|none=>(lk σ.ay L).map (fE B.kl):=λL=>by rw[<- hσ1',zY]
    have zHf:∀t∈looks ops σ oi,lk σ1'.env t=lk σ.env t:=by
      intro t ht;rw[zvi,fH (cT2 t (QE t ht))];exact MH λv hv L hL hk=>no L 2 3 (LA.see t ht v hv L hL) (LB.kl3 L hk) rfl
    have uB:∀y∈A.fp,lk B.u y.1=none:=by
      intro y hy;cases hu:lk B.u y.1 with
      | none=>rfl
      | some o' =>
        have h1:=LB.wr _ (fO hu);rcases LA.fpt y hy with h2|h2
        exact(no _ _ _ h2 h1 rfl).elim;exact(no _ _ _ h2 h1 rfl).elim
    have fpA:∀y∈A.fp,lk σ1'.ay y.1=lk σ.ay y.1:=by
      intro y hy;rw[zat,uB y hy];exact MI λv hv L hL hk=>no L 2 3 (LA.fpm y hy v hv L hL) (LB.kl3 L hk) rfl
    have hAσ:=LA.congr σ1' zHf fpA;refine⟨hAσ,hE _ _ ⟨λt=>?_,λL=>?_,λx=>?_⟩ (hB e he)⟩
    · -- the temporaries
      rw[Gu,Gu,zHd,zvi];by_cases h1:oj.dst=some t;rw [eY h1,eY h1,fH fun h2=>cT3 t h2 h1,RU,MF fun L hL hk => ?_];rcases LB.labd e he L hL with h3|h3
      exact no L 3 2 (LA.kl3 L hk) h3 rfl;exact no L 1 1 (LA.kl1 L hk) h3 rfl;rw [fH h1,fH h1];by_cases h2:oi.dst=some t;rw [eY h2,eY h2,RU,MF fun L hL hk => ?_];rcases LA.labd d hd L hL with h3|h3
      exact no L 2 3 h3 (LB.kl3 L hk) rfl;exact no L 1 1 h3 (LB.kl1 L hk) rfl
      · rw [fH h2,fH h2];cases lk σ.env t with|none=>rfl|some v=>simp only[RU];rw[zar]
    · -- the objects
      rw[zY,zY,ziA,zat];cases hb:lk B.u L with
      | some ob =>
        cases ha:lk A.u L with
        | some oa=>exact(no L 1 1 (LA.wr _ (fO ha)) (LB.wr _ (fO hb)) rfl).elim
        | none =>
          simp only[RU];rw[MG λM hM hk=>no M 3 2 (LA.kl3 M hk) (LB.labu _ (fO hb) M hM) rfl]
      | none =>
        cases ha:lk A.u L with
        | some oa =>
          simp only[RU];rw[MG λM hM hk=>no M 2 3 (LA.labu _ (fO ha) M hM) (LB.kl3 M hk) rfl]
        | none =>
          simp only;cases lk σ.ay L with|none=>rfl|some v=>simp only[RU];rw[zas]
    · -- the log
      rw[xg,xg];have l1:σ1.log=rE ops σ i oi A.fp A.kl++σ.log:=by rw[<- hσ1,xg]
      have l2:σ1'.log=rE ops σ j oj B.fp B.kl++σ.log:=by rw[<- hσ1',xg]
      rw[l1,l2];have e1:x∈rE ops σ j oj B.fp B.kl↔x∈rE ops σ1 j oj B.fp B.kl:=by
        refine LB.logc σ zHe fpB (λL hL k=>?_) x;rw[ziA];cases ha:lk A.u k with
        | some oa =>
          simp only[bV];constructor;rintro⟨o',ho,RI⟩;exact(no L 2 3 (LA.fpm _ (LA.wfp _ (fO ha)) o' ho L RI) (LB.kl3 L hL) rfl).elim;rintro⟨o',rfl,RI⟩;exact(no L 2 3 (LA.labu _ (fO ha) L RI) (LB.kl3 L hL) rfl).elim
        | none =>
          simp only;cases lk σ.ay k with|none=>simp|some v=>simp[Tz]
      have e2:x∈rE ops σ1' i oi A.fp A.kl↔x∈rE ops σ i oi A.fp A.kl:=by
        refine LA.logc σ1' zHf fpA (λL hL k=>?_) x;rw[zat];cases hb:lk B.u k with
        | some ob =>
          simp only[bV];constructor;rintro⟨o',rfl,RI⟩;exact(no L 3 2 (LA.kl3 L hL) (LB.labu _ (fO hb) L RI) rfl).elim;rintro⟨o',ho,RI⟩;exact(no k 1 1 (LA.kb L hL k o' ho RI) (LB.wr _ (fO hb)) rfl).elim
        | none =>
          simp only;cases lk σ.ay k with|none=>simp|some v=>simp[Tz]
      simp only[dX];rw[e1,e2,<- or_assoc,<- or_assoc];exact qjZ (or_comm) VH
  rw[mD];obtain⟨d0,hd0⟩:=aH.may_of_safe hsA;obtain⟨B,hBe,hsB,hB,wO⟩:=key d0 hd0;obtain⟨hBσ,zOj⟩:=main d0 hd0 B hBe hsB hB wO;rw[hBσ];refine⟨hsB,λe he=>?_⟩;rw[mD];rw[(zOj e he).1];refine⟨hsA,λd hd=>?_⟩;obtain⟨B',zRQ,z0F,hB',z0E⟩:=key d hd;obtain⟨zRR,zEu⟩:=main d hd B' zRQ z0F hB' z0E;have hBB:B'=B:=zRR.symm.trans hBσ;subst hBB;exact(zEu e he).2
end
end Go.Pm
namespace Go.Pm
variable [aC]
open Go.RowKit (Below)
section
variable{P:Program}{Γ:bK}{nt B:Nat}{w0:World}{h0:Fz}{g:Gh}{σ:St}{a:Act}{w:World}{r:Option Nat}{n i:Nat}{Q:Exit->Act->World->Prop}{ops:Array Oper}
theorem zau{K:St->Prop}(hK:∀σ τ,BL σ τ->K σ->K τ):∀(l:List Oper)(i:Nat)(σ:St),(∀j,l[j]? = ops[i+j]?)->kL P Γ nt ops i l K σ->yC P Γ nt ops (List.range' i l.length) K σ:=by
 intro l
 induction l with
 | nil=>intro i σ _ h;exact h
 | cons o l ih =>
  intro i σ hl h;have ho:ops[i]? = some o:=by have:=hl 0;simpa using this.symm
  have Aq:∀j,l[j]? = ops[i+1+j]?:=λj=>by have:=hl (j+1);rw[ZH]at this;rw[this];congr 1;omega
  rw[Bo,ZJ];simp only[kL]at h;split at h;exact h.elim;rename_i hd;have one:∀τ:St,oq ops τ.env o=some true->nZ (act P Γ o (fV τ.env) (lk τ.ay)) (pK τ i o) i o.dst (kL P Γ nt ops (i+1) l K) τ->yC P Γ nt ops (i::List.range' (i+1) l.length) K τ:=by
   intro τ hw hv;simp only[yC,ho];have e1:vN P Γ nt ops τ o=act P Γ o (fV τ.env) (lk τ.ay):=by unfold vN;rw[hd,hw]
   have e2:rE ops τ i o=pK τ i o:=by funext fp kl;unfold rE;rw[hw]
   rw[e1,e2];rw[mD]at hv ⊢;exact⟨hv.1,λd hd=>ih (i+1) _ Aq (hv.2 d hd)⟩
  have two:∀τ:St,oq ops τ.env o=some false->kL P Γ nt ops (i+1) l K (τ.skip o.dst)->yC P Γ nt ops (i::List.range' (i+1) l.length) K τ:=by
   intro τ hw hv;simp only[yC,ho];have e1:vN P Γ nt ops τ o=.val [] (.cl .undef) [] []:=by unfold vN;rw[hd,hw]
   have e2:rE ops τ i o=λ_ _=>[]:=by funext fp kl;unfold rE;rw[hw]
   rw[e1,e2];change yC P Γ nt ops (List.range' (i+1) l.length) K ((τ.upd i o.dst [] (.cl .undef) [] []).relog []);have e3:(τ.upd i o.dst [] (.cl .undef) [] []).relog []=τ.skip o.dst:=by cases o.dst<;>rfl
   rw[e3];exact ih (i+1) _ Aq hv
  split at h;rename_i hg;exact one σ (by unfold oq;rw[hg]) h;rename_i j want hg;split at h;exact h.elim;rename_i gt Vm;have wt:∀b,oq ops (σ.setT gt (.bool b)).env o=some (b==want):=λb=>by
   unfold oq;rw[hg];simp only[Vm];rw[show lk (σ.setT gt (.bool b)).env gt=some (.bool b)by simp[St.setT,aX]]
  split at h
  ·rename_i b hb;have eq:∀c,b=c->BL (σ.setT gt (.bool c)) σ:=λc hc=>⟨λt=>by
    simp only[St.setT,aX];split;rename_i e;subst e;rw[hb,hc];rfl,λ_=>rfl,λ_=>VH⟩
   have h2:=ru.1 h;refine JF hK _ _ _ (eq b rfl) ?_;cases b with
   | true =>
    have h3:=h2.1 rfl;cases want with|true=>exact one _ (wt true) h3|false=>exact two _ (wt true) h3
   | false =>
    have h3:=h2.2 rfl;cases want with|true=>exact two _ (wt false) h3|false=>exact one _ (wt false) h3
  rename_i hb;refine two σ ?_ h;unfold oq;rw[hg];simp only[Vm];rw[hb];exact h.elim
theorem zyE(gy:jF P Γ){K:St→Prop}{l:List Nat}{R:Act→World→Prop}{D:List Nat}{a0:Act}{ad:List Deferred}(hD:∀(j:Nat)(o:Oper),ops[j]? = some o→∀t,o.dst=some t→t∈D)
    (hv:yC P Γ nt ops (i::l) K σ) (S:bW P nt B w0 h0 g σ a w) (lG:Kp D a0 a) (had:a.defers=ad)
    (hR:∀σ' g' a' w',yC P Γ nt ops l K σ'->bW P nt B w0 h0 g' σ' a' w'->Kp D a0 a'->a'.defers=ad->R a' w'):wpOpIn (FR r) n P ops Q i R a w:=by
  simp only[yC]at hv;unfold wpOpIn;split at hv;rename_i ho;rw[ho];exact hR σ g a w hv S lG had;rename_i o ho;rw[ho];simp only;obtain⟨hs,hk⟩:=F9.1 hv;have wnt:∀b,oq ops σ.env o=some b->Region.wanted o (yielded ops a.tmps)=b:=by
    intro b hw;unfold oq at hw;split at hw;rename_i hg;simp only[bV]at hw;subst hw;simp[Region.wanted,hg];rename_i j want hg;split at hw;cases hw;rename_i gt Vm;split at hw;rename_i c hb;simp only[bV]at hw;subst hw;have hvv:a.tmps.getD gt undef=.bool c:=by
      have:=S.env gt _ hb;generalize a.tmps.getD gt undef=v at this;cases this;rfl
    simp[Region.wanted,hg,wZ Vm hvv];rename_i hb;simp only[bV]at hw;subst hw;have hvv:a.tmps.getD gt undef=undef:=S.env gt _ hb;simp[Region.wanted,hg,uC Vm hvv];cases hw
  generalize hA:vN P Γ nt ops σ o=A at hs hk;have tq:=hA;unfold vN at hA;split at hA;rename_i hd hw;rw[eY (wnt true hw)];refine JD (zak (Gp (i:=i) (Q:=Q) (r:=r) (n:=n) gy S hd hA hs)) ?_;rintro a' w' ⟨⟨FK,g',σ',FT,S'⟩,v,ds,rfl⟩;exact hR _ g' _ w' (hk σ' FT) (S'.log _) (lG.put (hD i o ho) v ds ((put_defers _ _ _).symm.trans FK)) (FK.trans had);rename_i hd hw;rw[fH (by rw[wnt false hw];simp)];refine⟨λ_ _=>trivial,?_⟩;subst hA;refine hR _ g _ w (hk _ rfl) ?_ (lG.put (hD i o ho) undef a.defers rfl) ((put_defers _ _ _).trans had);have:=S.skip hd;have e:(σ.upd i o.dst [] (.cl .undef) [] [])=σ.skip o.dst:=by cases o.dst<;>rfl
  rw[e];exact this.log _;subst hA;exact hs.elim
theorem QG{K:St→Prop}{i:Nat}{oi:Oper}{l2:List Nat}(hi:ops[i]? = some oi)(hE:∀σ τ,BL σ τ→K σ→K τ){R:List (Nat×Nat×Nat)→Prop}(hR:∀l m,(∀x∈l,x∈m)→R m→R l)(hK:∀σ,K σ→R σ.log) :
  ∀(l1:List Nat)(σ:St),(∀p∈l1,(∀log,R log->DW log p i)/\∀op,ops[p]? = some op->KL ops op oi=false) ->
   yC P Γ nt ops (l1++i::l2) K σ->yC P Γ nt ops (i::(l1++l2)) K σ
 | [],σ,_,h=>h
 | p::l1,σ,hp,h=>by
  have h1:yC P Γ nt ops (p::i::(l1++l2)) K σ:=Be (λσ h=>QG hi hE hR hK l1 σ (λq hq=>hp q (jW _ hq)) h) h;obtain⟨hN,hT⟩:=hp p kX;cases aZ:ops[p]? with
  | none =>
   have e:∀l σ,yC P Γ nt ops (p::l) K σ↔yC P Γ nt ops l K σ:=λl σ=>by simp only[yC,aZ]
   have h2:=(e _ _).1 h1;exact Be (λτ h=>(e _ _).2 h) h2
  | some op =>
   exact ziz aZ hi (hT op aZ) (λτ τ' he hv=>JF hE _ _ _ he hv) (λτ hv=>hN _ (TA hR hK _ _ hv)) h1
theorem Iy{ms:List Nat}{S:Nat->Prop}{p:Nat}:∀(es:List Edge),(∀e∈es,Region.binds .any e=true->S e.on) ->
  (∀k m,ms[k]? = some m->S k->m.testBit p=true->S p)->(Bv ms es).testBit p=true->S p
 | [],_,_,h=>by simp[Bv]at h
 | e::r,he,hm,h=>by
  have ih:=Iy (ms:=ms) (p:=p) r (λe' h'=>he e' (jW _ h')) hm;simp only[Bv]at h;split at h;rename_i m hb hms;have hS:=he e kX hb;rw[Nat.testBit_or,Nat.testBit_or,VE,VE]at h;rcases h with(h|h)|h
  rw [Nat.testBit_two_pow]at h;have:e.on=p:=qdo h;rw[<- this];exact hS;exact hm _ _ hms hS h;exact ih h;exact ih h
theorem MJ{S:Nat->Prop}{p:Nat}(AX:∀(k:Nat)(o:Oper),ops[k]? = some o->S k->∀e∈o.after,Region.binds .any e=true->S e.on):∀(l:List Oper)(ms:List Nat),(∀j,l[j]? = ops[ms.length+j]?) ->
  (∀(k:Nat)(o:Oper)(m:Nat),ops[k]? = some o->ms[k]? = some m->(∀e∈o.after,Region.binds .any e=true->S e.on)->m.testBit p=true->S p) ->
  ∀(k:Nat)(o:Oper)(m:Nat),ops[k]? = some o->(masks l ms)[k]? = some m->(∀e∈o.after,Region.binds .any e=true->S e.on)->m.testBit p=true->S p
 | [],ms,_,h=>h
 | o::r,ms,hl,h=>by
  have ho:ops[ms.length]? = some o:=by have:=hl 0;simpa using this.symm
  simp only[masks];refine MJ AX r (ms++[Bv ms o.after.toList]) (λj=>by have:=hl (j+1);rw[ZH]at this;rw[this,Jo];congr 1;simp;omega) ?_;intro k ok m hk hm he hb;rw[List.getElem?_append]at hm;split at hm;exact h k ok m hk hm he hb
  ·rename_i iM;have jR:k=ms.length:=by
    rcases qdP k (ms.length+1)with h1|h1
    omega;rw[qdm (by simp;omega)]at hm;cases hm
   subst jR;rw[ho]at hk;simp only[bV]at hk;subst hk;simp only[Nat.sub_self,qdE,bV]at hm;subst hm;refine Iy _ (λe h'=>he e (by simpa using h')) (λk' m' J7 hS mJ=>?_) hb;have zuV:k'<ms.length:=by
    rcases qdP k' ms.length with h1|h1
    exact h1;rw[qdm h1]at J7;cases J7
   cases gy:ops[k']? with
   | some ok'=>exact h k' ok' m' gy J7 (AX k' ok' gy hS) mJ
   | none =>
    have hlen:ms.length<ops.size:=by
     rcases qdP ms.length ops.size with h1|h1
     exact h1;rw[qjj h1]at ho;cases ho
    rw[jqu]at gy;omega
def yu(ms:List Nat)(log:List (Nat×Nat×Nat)):Prop:=vk ms log=true
theorem yu.sub{ms:List Nat}(l m:List (Nat×Nat×Nat))(h:∀x∈l,x∈m)(hm:yu ms m):yu ms l:=by
 simp only[yu,vk,zQ]at hm ⊢;exact λx hx y hy=>hm x (h x hx) y (h y hy)
theorem yu.no{ms:List Nat}{log:List (Nat×Nat×Nat)}(h:yu ms log){p i:Nat}(hpi:p<i)(hb:∀m,ms[i]? = some m->m.testBit p=false):DW log p i:=by
 intro L k m h1 h2;simp only[yu,vk,zQ]at h;have:=h _ h1 _ h2;simp only[VE,H6]at this;rcases this with((h3|h3)|h3)|h3
 rw[show Nat.blt p i=true from by simpa [qjf]using hpi]at h3;cases h3;rw[show Nat.beq L L=true from by simp]at h3;cases h3;exact h3;split at h3;rename_i m' J7;rw[hb m' J7]at h3;cases h3;cases h3
def Vt(ops:Array Oper)(listed:Array Bool):List Nat:=(List.range ops.size).filter λk=>!listed.getD k true
theorem Gv{listed:Array Bool}:i∈Region.ready .any ops listed↔i∈Vt ops listed/\∃o,ops[i]? = some o/\∀e∈o.after,Region.binds .any e=true->listed.getD e.on false=true:=by
 simp only[Region.ready,Vt,RV,gq];constructor
 ·rintro⟨h1,h2,h3⟩;refine⟨⟨h1,h2⟩,?_⟩;cases ho:ops[i]? with
  | none=>rw[ho]at h3;simp at h3
  | some o =>
   rw[ho]at h3;simp only[RU,qdM,jqb,VE,H6]at h3;refine⟨o,rfl,λe he hb=>?_⟩;rcases h3 e he with h|h
   rw[hb]at h;cases h;exact h
 ·rintro⟨⟨h1,h2⟩,o,ho,h3⟩;refine⟨h1,h2,?_⟩;rw[ho];simp only[RU,qdM,jqb,VE,H6];intro e he;cases hb:Region.binds .any e with|false=>exact .inl rfl|true=>exact .inr (h3 e he hb)
theorem WY{listed:Array Bool}{i k:Nat}{b:Bool}:(listed.setIfInBounds i true).getD k b=if k=i/\k<listed.size then true else listed.getD k b:=by
 rw[yA,yA,qd2];by_cases h:i=k;subst h;by_cases hs:i<listed.size;simp[hs];simp[hs];rw[fH h,fH omY]
theorem zo2{listed:Array Bool}(jU:listed.size=ops.size):Vt ops (listed.setIfInBounds i true)=(Vt ops listed).filter λk=>!(k==i):=by
 unfold Vt;rw[List.filter_filter];refine qjL λk hk=>?_;have hk:=Jp.1 hk;rw[WY];by_cases h:k=i;subst h;rw[eY ⟨rfl,omY⟩];simp;rw[fH (λh'=>h h'.1)];simp[h]
theorem zo3(gy:jF P Γ){K:St→Prop}{D:List Nat}{a0:Act}{ad:List Deferred}(hD:∀(j:Nat)(o:Oper),ops[j]? = some o→∀t,o.dst=some t→t∈D)(hE:∀σ τ,BL σ τ→K σ→K τ)(zbT:KN ops=true)(hT:Bz ops (masks ops.toList [])=true)
    (hL:∀σ,K σ->yu (masks ops.toList []) σ.log) (hQ:∀σ',K σ'->∀g' a' w',bW P nt B w0 h0 g' σ' a' w'->Kp D a0 a'->a'.defers=ad->Q .normal a' w') :
    ∀(fuel:Nat)(listed:Array Bool)(σ:St)(g:Gh)(a:Act)(w:World),listed.size=ops.size->(Vt ops listed).length<=fuel ->
      (∀k o,ops[k]? = some o->listed.getD k false=true->∀e∈o.after,Region.binds .any e=true->listed.getD e.on false=true) ->
      yC P Γ nt ops (Vt ops listed) K σ->bW P nt B w0 h0 g σ a w->Kp D a0 a->a.defers=ad->wpAnyIn (FR r) n P .any ops Q fuel listed a w:=by
  -- if nothing is ready, nothing is left
  have stuck:∀listed:Array Bool,Region.ready .any ops listed=[]->Vt ops listed=[]:=by
    intro listed hr;cases hu:Vt ops listed with
    | nil=>rfl
    | cons i rest =>
      exfalso;have hi:i∈Vt ops listed:=by rw[hu];exact kX
      have jU:i<ops.size:=Jp.1 (RV.1 hi).1;have IW:(Vt ops listed).Pairwise (· < ·):=jq3 _ jqM;have:i∈Region.ready .any ops listed:=by
        refine Gv.2 ⟨hi,ops[i],qdJ jU,λe he hb=>?_⟩;simp only[KN,zQ]at zbT;have h1:=zbT i (Jp.2 jU);rw[qdJ jU]at h1;simp only[zQ,VE,H6]at h1;have h2:e.on<i:=by
          rcases h1 e (by simpa using he)with h|h
          rw[hb]at h;cases h;simpa [qjf]using h
        cases hl:listed.getD e.on false with
        | true=>rfl
        | false =>
          exfalso;have sK:e.on∈Vt ops listed\/listed.getD e.on true=true:=by
            cases hl2:listed.getD e.on true with|true=>exact .inr rfl|false=>exact .inl (RV.2 ⟨Jp.2 omY,by rw[hl2];rfl⟩)
          rw[hu]at sK IW;rcases sK with sK|sK
          rcases kS.1 sK with h|h
          omega;have:=(qdy.1 IW).1 _ h;omega
          · -- then it lies outside
            rw[yA]at hl sK;have FI:listed[e.on]? = none:=by
              cases hx:listed[e.on]? with|none=>rfl|some b=>rw[hx]at hl sK;simp at hl sK;rw[hl]at sK;cases sK
            have hi2:listed.getD i true=true:=by
              rw[jqu]at FI;rw[yA,qjj omY];rfl
            have:=(RV.1 hi).2;rw[hi2]at this;cases this
      rw[hr]at this;simp at this
  intro fuel
  induction fuel with
  | zero =>
    intro listed σ g a w jU hf AX hv S lG had;have zbQ:Vt ops listed=[]:=qdC omY;refine⟨?_,?_⟩
    · cases hr:Region.ready .any ops listed with
      | nil=>rfl
      | cons i l =>
        have:=(Gv (i:=i) (ops:=ops) (listed:=listed)).1 (by rw[hr];exact kX);rw[zbQ]at this;simp at this
    rw [zbQ]at hv;exact hQ σ hv g a w S lG had
  | succ fuel ih =>
    intro listed σ g a w jU hf AX hv S lG had;refine⟨λhr=>?_,λi hi=>?_⟩;have zbQ:=stuck listed hr;rw[zbQ]at hv;exact hQ σ hv g a w S lG had;obtain⟨hu,oi,hoi,hed⟩:=Gv.1 hi;have hil:i<ops.size:=Jp.1 (RV.1 hu).1;have IW:(Vt ops listed).Pairwise (· < ·):=jq3 _ jqM;obtain⟨l1,l2,hl⟩:=List.append_of_mem hu;rw[hl]at IW hv;have iM:∀p∈l1,p<i:=λp hp=>(qdt.1 IW).2.2 p hp i kX;have Vm:∀p∈l2,i<p:=λp hp=>(qdy.1 (qdt.1 IW).2.1).1 p hp;have zNK:Vt ops (listed.setIfInBounds i true)=l1++l2:=by
      rw[zo2 jU,hl,qjh,qdN];rw[fH (by simp),qj1.2 λp hp=>by have:=iM p hp;simp;omega,qj1.2 λp hp=>by have:=Vm p hp;simp;omega]
    have bits:∀p∈l1,∀m,(masks ops.toList [])[i]? = some m->m.testBit p=false:=by
      intro p hp m hm;cases hb:m.testBit p with
      | false=>rfl
      | true =>
        exfalso;have:=MJ (S:=λk=>listed.getD k false=true) (p:=p) (ops:=ops) (λk o ho hS=>AX k o ho hS) ops.toList [] (λj=>by simp) (λk o m _ hm=>by simp at hm) i oi m hoi hm hed hb;have hpu:p∈Vt ops listed:=by rw[hl];exact dX.2 (.inl hp)
        have h2:=(RV.1 hpu).2;rw[yA]at this h2;cases hx:listed[p]? with|none=>rw[hx]at this;simp at this|some b=>rw[hx]at this h2;simp at this h2;rw[this]at h2;cases h2
    have zyF:=QG hoi hE (R:=yu (masks ops.toList [])) yu.sub hL l1 σ (λp hp=>⟨λlog zRS=>zRS.no (iM p hp) (bits p hp),λop aZ=>?_⟩) hv;refine zyE gy hD zyF S lG had fun σ' g' a' w' Bj S' zeZ zRT => ?_;refine ih (listed.setIfInBounds i true) σ' g' a' w' (by simpa using jU) ?_ ?_ ?_ S' zeZ zRT;rw [zNK];rw[hl]at hf;simp only[Jo,Bo]at hf ⊢;omega;intro k o hk kQ e he hb;rw[WY]at kQ ⊢;split at kQ;rename_i hki;rw[hki.1,hoi]at hk;simp only[bV]at hk;subst hk;have:=hed e he hb;split;rfl;exact this;have:=AX k o hk kQ e he hb;split;rfl;exact this;rw[zNK];exact Bj
    · simp only [Bz,zQ]at hT;have h1:=hT i (Jp.2 hil) p (Jp.2 (iM p hp));rw[aZ,hoi]at h1;cases hm:(masks ops.toList [])[i]? with
      | none=>rw[hm]at h1;simp at h1
      | some m =>
        rw[hm]at h1;simp only[VE,H6]at h1;rcases h1 with h|h
        exact h;rw[bits p hp m hm]at h;cases h
theorem bW.drew(S:bW P nt B w0 h0 g σ a w):bW P nt B w0 h0 g σ a {w with drawn:=w.drawn+1}:=by
 refine {S with obj:=λL o h=>?_,below:=?_,hw:=S.hw,bs:=S.bs};have:=S.obj L o h;cases o<;>exact this;exact S.below.drew
theorem zav(gy:jF P Γ){K:St→Prop}{D:List Nat}{a0:Act}(hD:∀(j:Nat)(o:Oper),ops[j]? = some o→∀t,o.dst=some t→t∈D)(lG:Kp D a0 a)(hm:P.follows .mixedOrders=true)(zbT:KN ops=true)(hT:Bz ops (masks ops.toList [])=true)(hE:∀σ τ,BL σ τ→K σ→K τ)
    (h:kL P Γ nt ops 0 ops.toList (λσ'=>match vk (masks ops.toList []) σ'.log with|true=>K σ'|false=>False) σ) (S:bW P nt B w0 h0 g σ a w)
    (hQ:∀σ',K σ'->∀g' a' w',bW P nt B w0 h0 g' σ' a' w'->Kp D a0 a'->a'.defers=a.defers->Q .normal a' w') {id:Nat}:(Code.region id ops true).wpIn (FR r) n P Q a w:=by
  refine wpIn_region_any hm ?_;have hE':∀σ τ:St,BL σ τ->(match vk (masks ops.toList []) σ.log with|true=>K σ|false=>False)->(match vk (masks ops.toList []) τ.log with|true=>K τ|false=>False):=by
    intro σ τ he hσ;split at hσ;rename_i hl;have:yu (masks ops.toList []) τ.log:=yu.sub _ _ (λx hx=>(he.log x).2 hx) hl;rw[show vk (masks ops.toList []) τ.log=true from this];exact hE σ τ he hσ;exact hσ.elim
  have IY:Vt ops (Array.replicate ops.size false)=List.range ops.size:=by
    unfold Vt;refine qj1.2 λk hk=>?_;have:=Jp.1 hk;simp[yA,this]
  refine zo3 gy hD (K:=λσ'=>match vk (masks ops.toList []) σ'.log with|true=>K σ'|false=>False) hE' zbT hT (λσ hσ=>?_) (λσ' hσ=>?_) ops.size _ σ g a _ (by simp) ?_ ?_ ?_ S.drew lG rfl;split at hσ
  assumption
  exact hσ.elim;split at hσ;exact hQ σ' hσ;exact hσ.elim;rw[IY];simp;intro k o _ hk;rw[yA]at hk;by_cases hks:k<ops.size;simp[hks]at hk;rw[qjj (by simp;omega)]at hk;simp at hk;rw [IY];have:=zau hE' ops.toList 0 σ (λj=>by simp) h;rw[dqZ];simpa using this
end
end Go.Pm
