/- Part 2: framework, functions, plain laws. -/
import Derived.Test.YtjkijdhdbhooiaaGreatQ1
import Derived.ChangeKeysEq
import Derived.MapKept
import Derived.Laws.Slices
import Derived.Laws.OwnMore
import Derived.Scope
import Derived.OrdersIn
set_option linter.all false
noncomputable section
namespace Go.Pm
variable [aH]
open Go.RowKit (Below)
section
variable{P:Program}{Γ:bI}{nt B:Nat}{w0:World}{h0:Fz}{g:Gh}{σ:St}{a:Act}{w:World}{r:Option Nat}{n i:Nat}{Q:Exit->Act->World->Prop}
theorem zix(σ:St)(i:Nat)(dst:Option Nat)(fp:List (Nat×Bool))(d:DV)(u:List (Nat×AO))(L:Nat) :
  σ.upd i dst fp d u [L]=⟨zaB dst d (kills (gU [L]) σ.env),u++kills (fE [L]) σ.ax,σ.log⟩:=by
 cases dst<;>rfl
theorem IJ{t e:TypeId}{ty:TypeId}{ie:TypeInfo}{base m m' s:Nat}{v x:Value}{xs news:List Value}(hu:P.underlying t=some (.slice e))(hi:P.info? e=some ie)
    {z:Value} (hz:ie.zero=some z) (Bl:z.cells.size=ie.size) (hs:ie.size=s) (iL:0<s) (SC:base<=w.heap.size) (jh:w.ownsRow base e s v m xs) (pg:zG6 w x m' s news)
    (hlen:m+m'<=9223372036854775807) (Ac:(m+m')*ie.bytes<=140737488355328) :
    ∃v' w',(Builtin.append_ #[t,t] ty #[v,x]).run P w=.ok v' w'/\w'.ownsRow base e s v' (m+m') (xs++news)/\GrB w w' v.ownBlock/\(v'.ownBlock=v.ownBlock\/v'.ownBlock=some w.heap.size) /\
      v'.oneCell'=true:=by
  have jE:∃ad c,v=.slice ad m c:=by
    rcases jh.2 with⟨h1,h2⟩|⟨k,cap,cur,h1,_⟩
    subst h2;exact⟨_,_,h1⟩;exact⟨_,_,h1⟩
  obtain⟨ad,c,jE⟩:=jE;rcases pg with⟨rfl,hx|⟨a',c',hx⟩,rfl⟩|⟨b,o,cap,hx,hl,sW,h1⟩
  subst hx;have df:=run_append_owned_none (P:=P) (w:=w) base t ty e ie s hu hi v m xs jh;refine⟨v,w,df,by simpa using jh,⟨⟨rfl,rfl,rfl,jP _,λ_ _ _=>rfl⟩,jP _⟩,.inl rfl,by rw[jE];rfl⟩;subst hx
  obtain ⟨v', w', df, yz, hg, _⟩ := run_append_own (P := P) w base t ty e ie z s ie.bytes hu hi hz hs rfl (by rw [Bl, hs]) iL v m xs jh a' 0 c' [] (by simp)
    (λj u hj=>by simp at hj) (λu hu=>by simp at hu) (by simp only[maxLen];omega) Ac SC
  refine⟨v',w',df,yz,⟨hg,LC (gW _ _ _ _ df)⟩,?_,?_⟩;rw [jE]at df;have:=DN (P:=P) (t:=t) (ty:=ty) w v' w' df;rw[jE];cases ad<;>exact this;rcases yz.2 with⟨h1,_⟩|⟨k,cap,cur,h1,_⟩<;>rw[h1]<;>rfl
  subst hx
  obtain ⟨v', w', df, yz, hg, _⟩ := run_append_own (P := P) w base t ty e ie z s ie.bytes hu hi hz hs rfl (by rw [Bl, hs]) iL v m xs jh ⟨b, o, none⟩ m' cap news hl
    (λj u hj=>by rw[addr_add];exact sW j u hj) h1 (by simp only[maxLen];omega) Ac SC
  refine⟨v',w',df,yz,⟨hg,LC (gW _ _ _ _ df)⟩,?_,?_⟩;rw [jE]at df;have:=DN (P:=P) (t:=t) (ty:=ty) w v' w' df;rw[jE];cases ad<;>exact this;rcases yz.2 with⟨h1,_⟩|⟨k,cap,cur,h1,_⟩<;>rw[h1]<;>rfl
theorem Me{t e:TypeId}{ty:TypeId}{ie:TypeInfo}{base m m' s:Nat}{v x:Value}{xs:List Value}{new:Nat→List PV}(hu:P.underlying t=some (.slice e))(hi:P.info? e=some ie)
    {z:Value} (hz:ie.zero=some z) (Bl:z.cells.size=ie.size) (hs:ie.size=s) (iL:0<s) (SC:base<=w.heap.size) (jh:w.ownsRow base e s v m xs) (pg:WZ g w x m' s new)
    (hlen:m+m'<=9223372036854775807) (Ac:(m+m')*ie.bytes<=140737488355328) :
    ∃v' w' news,(Builtin.append_ #[t,t] ty #[v,x]).run P w=.ok v' w'/\w'.ownsRow base e s v' (m+m') (xs++news)/\GrB w w' v.ownBlock/\(v'.ownBlock=v.ownBlock\/v'.ownBlock=some w.heap.size) /\
      v'.oneCell'=true/\news.length=m'*s/\∀k,k<m'->RL (Rep g.h) (new k) ((news.drop (k*s)).take s):=by
  rcases pg with⟨rfl,hx⟩|⟨b,o,cap,news,hx,hl,sW,h1,hr⟩
  obtain⟨v',w',h⟩:=IJ (P:=P) (ty:=ty) (news:=[]) hu hi hz Bl hs iL SC jh (.inl ⟨rfl,hx,rfl⟩) hlen Ac;exact⟨v',w',[],h.1,h.2.1,h.2.2.1,h.2.2.2.1,h.2.2.2.2,by simp,λk hk=>absurd hk omY⟩;obtain⟨v',w',h⟩:=IJ (P:=P) (ty:=ty) (news:=news) hu hi hz Bl hs iL SC jh (.inr ⟨b,o,cap,hx,hl,sW,h1⟩) hlen Ac;exact⟨v',w',news,h.1,h.2.1,h.2.2.1,h.2.2.2.1,h.2.2.2.2,hl,hr⟩
theorem ziy{L e s b m m':Nat}{get new:Nat→List PV}{v':Value}{w':World}{xs news:List Value}(hu:uC (appG m get new))(hv0:0<s∧∃i z,P.info? e=some i∧i.size=s∧i.bytes=b∧i.zero=some z∧z.cells.size=s)
    (hx:xs.length=m*s) (hr:∀k,k<m->RL (Rep g.h) (get k) ((xs.drop (k*s)).take s)) (_hn:news.length=m'*s) (hrn:∀k,k<m'->RL (Rep g.h) (new k) ((news.drop (k*s)).take s))
    (jh:w'.ownsRow B e s v' (m+m') (xs++news)):DI P (g.setSv L v') w' B L e s b (m+m') (appG m get new):=by
  refine⟨⟨hu,hv0.1⟩,hv0.2,xs++news,by rw[show(g.setSv L v').sv L=v' by simp[Gh.setSv]];exact jh,?_⟩;intro k hk;show RL (Rep g.h) (match Nat.ble m k with|true=>new (k-m)|false=>get k) _;cases hb:Nat.ble m k with
  | true =>
    have hmk:=qdZ hb;have e:((xs++news).drop (k*s)).take s=(news.drop ((k-m)*s)).take s:=by
      rw[List.drop_append,show xs.drop (k*s)=[]from qdB (by rw[hx];exact SI s hmk),Qr,hx,<- Nat.sub_mul]
    rw[e];exact hrn (k-m) omY
  | false =>
    have hmk:k<m:=by
      have:¬m<=k:=λh=>by rw[qj0 h]at hb;cases hb
      omega
    have hle:k*s+s<=m*s:=by have:=SI s (qdt hmk);rw[VQ]at this;exact this
    have e:((xs++news).drop (k*s)).take s=(xs.drop (k*s)).take s:=by
      rw[List.drop_append_of_le_length omY,List.take_append_of_le_length (by simp;omega)]
    rw[e];exact hr k hmk
theorem zaF{o:Oper}{args:Array Operand}{ts:Array TypeId}{A:aC}(S:bU P nt B w0 h0 g σ a w)(hd:dH nt o.dst=true)(aY:o.op = .call {callee := .builtin .append,args,argTypes:=ts})
    (hA:act P Γ o (fU σ.env) (lk σ.ax)=A) (hs:A.safe):jr P nt B w0 h0 r n i o A σ a w Q:=by
  simp only[act,aAp,aY]at hA;split at hA;rename_i s x t t' gJ hts;split at hA;rename_i e dst hu htt Iu;have htt:=lu htt;subst htt;have ha:args = #[s,x]:=by rw[<- qdp (xs:=args),gJ]
  have ht:ts = #[t,t]:=by rw[<- qdp (xs:=ts),hts]
  subst ha ht;split at hA;rename_i ie z hi hz;obtain⟨zv,Iw,Bl⟩:=je hz hi;have ziz:∀(v':Value)(w':World),(Builtin.append_ #[t,t] o.type #[a.eval s,a.eval x]).run P w=.ok v' w'->(execOp a.eval o).run P w=.ok (.value v') w':=by
    intro v' w' h;refine fb aY ?_;simp only[builtin,Sem.run_bind,List.map_toArray,lM,qdY,h,Result.andThen_ok,Sem.run_pure]
  unfold SL at hA;split at hA;rename_i m sz new fps pg;unfold Gw at pg;have ziA:sz≠0->WZ g w (a.eval x) m sz new:=by
    intro jL;have jL:0<sz:=by omega
    split at pg;rename_i hx;simp only[bM,gq]at pg;obtain⟨rfl,rfl,rfl,_⟩:=pg;exact ziw S jL (jI S hx);rename_i M hx;obtain⟨h1,_⟩:=iQ S hx;split at pg;rename_i hM;simp only[bM,gq]at pg;obtain⟨rfl,rfl,rfl,_⟩:=pg;rw[h1.1];exact zpa (S.obj M _ hM);rename_i hM;simp only[bM,gq]at pg;obtain⟨rfl,rfl,rfl,_⟩:=pg;rw[h1.1];exact ziw S jL (S.obj M _ hM).1;cases pg;cases pg
  have W9:uC new:=by
    split at pg;rename_i hx;simp only[bM,gq]at pg;obtain⟨rfl,rfl,rfl,_⟩:=pg;exact(jI S hx).un.rows.2;split at pg;rename_i hM;simp only[bM,gq]at pg;obtain⟨rfl,rfl,rfl,_⟩:=pg;exact(S.obj _ _ hM).1.1;rename_i hM;simp only[bM,gq]at pg;obtain⟨rfl,rfl,rfl,_⟩:=pg;exact(S.obj _ _ hM).1.un.rows.2;cases pg;cases pg
  split at hA;rename_i L hsL;obtain⟨h1,_⟩:=iQ S hsL;split at hA;rename_i e' s' b' m0 get hL;split at hA;rename_i dm;obtain⟨rfl,rfl,rfl,ziB,iL,_,sZ⟩:=dm;subst hA;have pM:(m0+m)*ie.bytes<=140737488355328/\m0+m<=9223372036854775807:=hs;have z1i:sz≠0:=by omega
  have zeR:=ziA z1i;rw[ziB]at zeR;obtain⟨⟨hug,hp⟩,nN,xs,hx,hr⟩:=S.obj L _ hL;obtain⟨v',w',news,df,yz,hg,VG,l9,hnl,hrn⟩:=Me (P:=P) (ty:=o.type) hu hi Iw Bl rfl hp S.bs hx zeR pM.2 pM.1;rw[<- h1.1]at df;have hnz:nzG (get 0) (appG m0 get new)=appG m0 get new:=zar λi=>by
    unfold appG;split;exact(Lj sZ (hug 0 0) (W9 0 0)).trans (W9 0 _);exact hug 0 _
  rw[hnz];have ziv:=ziy (P:=P) (L:=L) (zoT hug W9 (Lj sZ (hug 0 0) (W9 0 0))) ⟨hp,nN⟩ hx.1 hr hnl hrn yz;have S':=S.grow (dst:=o.dst) hL hd hg (VG.imp id .inl) ziv l9 σ.log;refine qB (by simp[aY]) (ziz v' w' df) ⟨g.setSv L v',σ.upd i o.dst ((L,true)::fps) (.cl (.vec L)) [(L,.vec e' ie.size ie.bytes (m0+m) (appG m0 get new))] [L],rfl,?_⟩;rw[zix];exact S';subst hA;exact hs.elim;subst hA;exact hs.elim;rename_i hsN;split at hA;rename_i iq;split at hA;rename_i dm;obtain⟨ziB,iL⟩:=dm;subst hA;have pM:m*ie.bytes<=140737488355328/\m<=9223372036854775807:=hs;have zeR:=ziA omY;have zcp:a.eval s=.slice none 0 0:=by
    have:=jI S hsN;generalize a.eval s=v at this;cases this;rfl
  obtain⟨v',w',news,df,yz,hg,VG,l9,hnl,hrn⟩:=Me (P:=P) (ty:=o.type) (base:=w.heap.size) (m:=0) (v := .slice none 0 0) (xs:=[]) hu hi Iw Bl ziB.symm iL (jP _)
    (World.ownsRow_nil w _ e sz) zeR omY (by rw[PK];exact pM.1)
  rw[<- zcp]at df;rw[PK,Qr]at yz;have zG7:w'.ownsRow B e sz v' m news:=by
    refine⟨yz.1,?_⟩;rcases yz.2 with h|⟨k,cap,cur,h1,h2,h3⟩
    exact .inl h;exact .inr ⟨k,cap,cur,h1,Gj S.bs h2,h3⟩
  have ziv:DI P (g.setSv dst v') w' B dst e sz ie.bytes m new:=by
    refine⟨⟨W9,iL⟩,⟨ie,zv,hi,ziB.symm,rfl,Iw,by rw[Bl,ziB]⟩,news,?_,hrn⟩;rw[show(g.setSv dst v').sv dst=v' by simp[Gh.setSv]];exact zG7
  have hold:∀b,b<w.heap.size->w'.heap[b]? = w.heap[b]?:=λb hb=>hg.block b hb (by simp[Value.ownBlock])
  have S' := S.newVec (t := dst) (w' := w') iq ⟨⟨hg.os, hg.tape, hg.output, hg.size, fun k hk => hold k (qdw hk S.bs)⟩, hg.drawn⟩ hold
    (λb hb=>(yz.lt b hb).1) ziv
  refine qB (by simp[aY]) (ziz v' w' df) ⟨g.setSv dst v',σ.upd i o.dst ((dst,true)::fps) (.cl (.vec dst)) [(dst,.vec e sz ie.bytes m new)] [],rfl,?_⟩;rw[fZ];refine S'.put (v:=v') hd (d:=.cl (.vec dst)) ⟨by simp[Gh.setSv],l9⟩ ?_ _;intro L hL;simp[bY,dC,bg]at hL;subst hL;exact⟨_,by rw[aV,eU rfl]⟩;subst hA;exact hs.elim;subst hA;exact hs.elim;subst hA;exact hs.elim;subst hA;exact hs.elim;subst hA;exact hs.elim;subst hA;exact hs.elim;subst hA;exact hs.elim
end
end Go.Pm
namespace Go.Pm
variable [aH]
open Go.RowKit (Below)
open Go.MapKept (IsKey findNow_spec run_checkKey)
section
variable{P:Program}{w:World}
abbrev VI(xs:List Int):List Value:=xs.map (Value.int .i64)
def mkI(ag:Bool)(c:List Int):Value:=match ag with|true=>tV c|false=>.int .i64 (c.headD 0)
theorem rF{t:TypeId}{ag:Bool}{n off:Nat}{xs:List Int}(hg:jG P t=some ag)(hs:qK P t=some n)(h1:ag=false→n=1)(hl:off+n≤xs.length) :
  (part t (VI xs).toArray off).run P w=.ok (mkI ag ((xs.drop off).take n)) w:=by
 cases ag with
 | true =>
  simp only[part,Sem.run_bind,oM hg,Result.andThen_ok,Qs,run_sizeOf hs,Sem.run_pure];simp[mkI,tV,jq8,jqI,List.map_take,List.map_drop]
 | false =>
  have:=h1 rfl;subst this;have iF:off<xs.length:=by omega
  simp only[part,Sem.run_bind,oM hg,Result.andThen_ok,qdz,qje];rw[show(VI xs).toArray[off]? = some (.int .i64 xs[off])by simp[iF]];rw[qjL iF];rfl
theorem take_split(xs:List Int)(m k r:Nat):(xs.drop m).take (k+r)=(xs.drop m).take k++(xs.drop (m+k)).take r:=by
 rw[List.take_add,List.drop_drop]
theorem zcR{a b c d:List Int}(h:a.length=b.length):decide (a++c=b++d)=(decide (a=b)&&decide (c=d)):=by
 by_cases h1:a=b;subst h1;simp;have:¬(a++c=b++d):=fun e=>h1 (List.append_inj e h).1;simp[h1,this]
theorem take_len{xs:List Int}{m k:Nat}(h:m+k<=xs.length):((xs.drop m).take k).length=k:=by
 rw[qdC,VO];omega
theorem vU{d:Nat}{t:TypeId}{n:Nat}{ag:Bool}(h:kW P d t=some n)(hg:jG P t=some ag):ag=false->n=1:=by
 intro e;subst e;cases d with
 | zero=>simp[kW]at h
 | succ d =>
  simp only[kW]at h;split at h;split at h;split at h;simp only[bM]at h;exact h.symm;cases h;cases h;rename_i hu;simp[jG,hu]at hg;rename_i hu;simp[jG,hu]at hg;cases h
def IK (P : Program) (d : Nat) : Option Nat → Field → Option Nat := fun acc f => match acc, f.name != "_", kW P d f.type, qK P f.type with
 | some m,true,some n,some n'=>match Nat.beq f.offset m&&Nat.beq n n' with|true=>some (m+n)|false=>none
 | _,_,_,_=>none
theorem MC{d:Nat}:∀l:List Field,l.foldl (IK P d) none=none|[]=>rfl|f::l=>by rw[Wl,show IK P d none f=none from rfl];exact MC l
theorem MF{d:Nat}{f:Field}{l:List Field}{m n:Nat}(h:(f::l).foldl (IK P d) (some m)=some n) :
  ∃ k, kW P d f.type = some k ∧ qK P f.type = some k ∧ f.name ≠ "_" ∧ f.offset = m ∧ l.foldl (IK P d) (some (m + k)) = some n := by
 rw[Wl]at h;cases hs:IK P d (some m) f with
 | none=>rw[hs,MC]at h;cases h
 | some q =>
  rw[hs]at h;unfold IK at hs;split at hs;rename_i m' k k' e1 e2 e3 e4;simp only[bM]at e1;subst e1;split at hs;rename_i hb;simp only[fQ]at hb;have h1:=lu hb.1;have h2:=lu hb.2;simp only[bM]at hs;subst hs;subst h2;exact⟨k,e3,e4,by simpa using e2,h1,h⟩;cases hs;cases hs
theorem QN {d : Nat} : ∀ (l : List Field) (m q : Nat), l.foldl (IK P d) (some m) = some q → m ≤ q ∧ ∀ f ∈ l, f.name ≠ "_" ∧ ∃ k, kW P d f.type = some k ∧ qK P f.type = some k ∧ f.offset + k ≤ q
  | [],m,q,h=>by
    simp only[List.foldl_nil,bM]at h;subst h;exact⟨jP _,λf hf=>by simp at hf⟩
  | f::l,m,q,h=>by
    obtain⟨k,h1,h2,h3,h4,h5⟩:=MF h;obtain⟨h6,h7⟩:=QN l (m+k) q h5;refine⟨omY,λg hg=>?_⟩;rcases jV.1 hg with rfl|hg
    exact⟨h3,k,h1,h2,omY⟩;exact h7 g hg
theorem qW{d:Nat}{t:TypeId}{n:Nat}(h:kW P d t=some n):∃ag,jG P t=some ag:=by
 cases d with
 | zero=>simp[kW]at h
 | succ d =>
  simp only[kW]at h;cases hu:P.underlying t with|none=>rw[hu]at h;cases h|some x=>unfold jG;rw[hu];exact⟨_,rfl⟩
theorem J4:∀(d:Nat)(t:TypeId)(n:Nat)(ag:Bool),kW P d t=some n->jG P t=some ag->∀(e:Nat)(xs ys:List Int),xs.length=n->ys.length=n ->
  (Op.equalIn (d+e) t (mkI ag xs) (mkI ag ys)).run P w=.ok (decide (xs=ys)) w
 | 0,t,n,ag,h,_=>by simp[kW]at h
 | d+1,t,n,ag,h,hg=>by
  intro e xs ys hx hy;rw[show d+1+e=(d+e)+1 by omega];have h0:=h;simp only[kW]at h;split at h
  ·rename_i hu;have vk:ag=false:=by simp[jG,hu] at hg;exact hg
   subst vk;have hn:=vU h0 hg rfl;subst hn
   match xs,ys,hx,hy with
   | [x],[y],_,_ =>
    simp only[mkI,qjm];rw[run_equalIn_int w (d+e) t .i64 .i64 x y hu];by_cases hxy:x=y<;>simp[hxy]
  rename_i fs hu;split at h;cases h;rename_i Gn;have vk:ag=true:=by simp[jG,hu]at hg;exact hg
  subst vk;have hf:P.fieldsOf t=fs:=by simp[Program.fieldsOf,hu]
  simp only[mkI,tV];rw[run_equalIn_struct w (d+e) t _ _ (by rw[hf];exact hu) Gn,hf]
  have key:∀(l:List Field)(m q:Nat),l.foldl (IK P d) (some m)=some q->q<=xs.length->q<=ys.length ->
    m<=q/\(Op.eqFields (d+e) (VI xs).toArray (VI ys).toArray l).run P w=.ok (decide ((xs.drop m).take (q-m)=(ys.drop m).take (q-m))) w:=by
   intro l
   induction l with
   | nil =>
    intro m q hq _ _;simp only[List.foldl_nil,bM]at hq;subst hq;exact⟨jP _,by simp[Op.eqFields]⟩
   | cons f l ih =>
    intro m q hq hxl hyl;obtain⟨k,h1,h2,h3,h4,h5⟩:=MF hq;obtain⟨hle,hr⟩:=ih (m+k) q h5 hxl hyl;obtain⟨ag',ve⟩:=qW h1;have hk1:=vU h1 ve;refine⟨omY,?_⟩;have p1:=rF (w:=w) (xs:=xs) (off:=m) ve h2 hk1 omY;have p2:=rF (w:=w) (xs:=ys) (off:=m) ve h2 hk1 omY;have p3:=J4 d f.type k ag' h1 ve e ((xs.drop m).take k) ((ys.drop m).take k) (take_len omY) (take_len omY);rw[show q-m=k+(q-(m+k))by omega,take_split,take_split,zcR (by rw[take_len omY,take_len omY])];simp only[Op.eqFields,h3,ne_eq,not_false_eq_true,Qs,Sem.run_bind,h4,p1,p2,p3,Result.andThen_ok];cases hd:decide (List.take k (List.drop m xs)=List.take k (List.drop m ys))with|false=>simp|true=>simpa using hr
  have:=(key fs.toList 0 n h omY omY).2;rw[this];simp only[qj8,jqX];rw[dqQ omY,dqQ omY];rename_i m0 e0 hu;split at h;rename_i m m' hm KI;split at h;rename_i hb;have hmm:=lu hb;subst hmm;simp only[bM]at h;have vk:ag=true:=by simp[jG,hu]at hg;exact hg
  subst vk;obtain⟨ag',ve⟩:=qW hm;have hk1:=vU hm ve;obtain⟨i,hi,his⟩:∃i,P.info? e0=some i/\i.size=m:=by
   unfold qK at KI;cases hi:P.info? e0 with|none=>rw[hi]at KI;cases KI|some i=>rw[hi]at KI;simp only[Qq,bM]at KI;exact⟨i,rfl,KI⟩
  have hc:P.cellsOf e0=m:=by simp[Program.cellsOf,hi,his]
  simp only[mkI,tV];rw[run_equalIn_array w (d+e) _ _ hu hi,hc,dq7];have key:∀(k s:Nat),(s+k)*m<=xs.length->(s+k)*m<=ys.length->(Op.eqItems (d+e) e0 m (VI xs).toArray (VI ys).toArray (List.range' s k)).run P w=.ok (decide ((xs.drop (s*m)).take (k*m)=(ys.drop (s*m)).take (k*m))) w:=by
   intro k
   induction k with
   | zero=>intro s _ _;simp[Op.eqItems]
   | succ k ih =>
    intro s hxl hyl;have e1:(s+(k+1))*m=s*m+(k+1)*m:=Nat.add_mul _ _ _;have e2:(k+1)*m=m+k*m:=by rw[VQ,jqn]
    have e3:(s+1)*m=s*m+m:=VQ _ _;have hr:=ih (s+1) (by rw[show s+1+k=s+(k+1)by omega];exact hxl) (by rw[show s+1+k=s+(k+1)by omega];exact hyl);have p1:=rF (w:=w) (xs:=xs) (off:=s*m) ve KI hk1 omY;have p2:=rF (w:=w) (xs:=ys) (off:=s*m) ve KI hk1 omY;have p3:=J4 d e0 m ag' hm ve e ((xs.drop (s*m)).take m) ((ys.drop (s*m)).take m) (take_len omY) (take_len omY);rw[e2,take_split,take_split,zcR (by rw[take_len omY,take_len omY])];rw[SG];simp only[Op.eqItems,Sem.run_bind,p1,p2,p3,Result.andThen_ok];rw[e3]at hr;cases hd:decide (List.take m (List.drop (s*m) xs)=List.take m (List.drop (s*m) ys))with|false=>simp|true=>simpa using hr
  have:=key m0 0 (by rw[PK,h];omega) (by rw[PK,h];omega);rw[this];simp only[jqW,qj8,h];rw[dqQ omY,dqQ omY];cases h;cases h;cases h
theorem wZ:∀(d:Nat)(t:TypeId)(n:Nat)(ag em:Bool),kW P d t=some n->jG P t=some ag->∀(e:Nat)(xs:List Int),xs.length=n ->
  (Instr.checkKey em (d+e) t (mkI ag xs)).run P w=.ok () w
 | 0,t,n,ag,em,h,_=>by simp[kW]at h
 | d+1,t,n,ag,em,h,hg=>by
  intro e xs hx;rw[show d+1+e=(d+e)+1 by omega];have h0:=h;simp only[kW]at h;split at h;rename_i hu;have vk:ag=false:=by simp[jG,hu]at hg;exact hg
  subst vk;simp only[mkI,Instr.checkKey,Sem.run_bind,run_underlying hu,Result.andThen_ok,Sem.run_pure];rename_i fs hu;split at h;cases h
  ·rename_i Gn;have vk:ag=true:=by simp[jG,hu] at hg;exact hg
   subst vk;simp only[mkI,tV,Instr.checkKey,Sem.run_bind,run_underlying hu,Result.andThen_ok];rw[<- Array.forIn_toList];have deep:=(QN fs.toList 0 n h).2;clear h h0;generalize fs.toList=L at deep
   induction L with
   | nil=>simp
   | cons f L ih =>
    obtain⟨hn,k,h1,h2,h3⟩:=deep f (by simp);obtain⟨ag',ve⟩:=qW h1;have p1:=rF (w:=w) (xs:=xs) (off:=f.offset) ve h2 (vU h1 ve) omY;have p3:=wZ d f.type k ag' em h1 ve e ((xs.drop f.offset).take k) (take_len omY);simp only[List.forIn_cons,Sem.run_bind,hn,ne_eq,not_false_eq_true,Qs,Result.andThen_ok,p1,p3,Sem.run_pure];exact ih λy hy=>deep y (by simp[hy])
  rename_i m0 e0 hu;split at h;rename_i m m' hm KI;split at h
  ·rename_i hb;have hmm:=lu hb;subst hmm;simp only[bM] at h;have vk:ag=true:=by simp[jG,hu] at hg;exact hg
   subst vk;obtain⟨ag',ve⟩:=qW hm;have hk1:=vU hm ve;simp only[mkI,tV,Instr.checkKey,Sem.run_bind,run_underlying hu,Result.andThen_ok];simp only[Std.Legacy.Range.forIn_eq_forIn_range',Std.Legacy.Range.size,jqX,Nat.add_one_sub_one,Nat.div_one];have deep:∀i∈List.range' 0 m0,i*m+m<=xs.length:=λi hi=>by
    have iF:i<m0:=by simp at hi;exact hi
    have:(i+1)*m<=m0*m:=SI _ iF;rw[VQ]at this;omega
   generalize List.range' 0 m0=is at deep
   induction is with
   | nil=>simp
   | cons i is ih =>
    have h3:=deep i (by simp);have p1:=rF (w:=w) (xs:=xs) (off:=i*m) ve KI hk1 h3;have p3:=wZ d e0 m ag' em hm ve e ((xs.drop (i*m)).take m) (take_len h3);simp only[List.forIn_cons,Sem.run_bind,run_sizeOf KI,Result.andThen_ok,p1,p3,Sem.run_pure];exact ih λy hy=>deep y (by simp[hy])
  cases h;cases h;cases h
theorem zaH(kf:KF)(c:List Int):Instr.sameBits 10000 (fH kf c) (fH kf c)=true:=by
 cases kf with
 | one=>simp[fH,Instr.sameBits]
 | ints =>
  have key:∀(l:List Int)(m:Nat),((VI l).zip (VI l)).all (λ(x,y)=>Instr.sameBits (m+1) x y)=true:=by
   intro l m
   induction l with
   | nil=>rfl
   | cons a l ih =>
    simp only[VI,lM,List.zip_cons_cons,qd4,fQ];exact⟨by simp[Instr.sameBits],ih⟩
  simp only[fH,tV,Instr.sameBits];simp only[qdj,Jv];exact key c 9998
theorem zh{k:TypeId}{kf:KF}{n:Nat}(h:lQ P k=some (kf,n)) :
  (kf=.ints/\kW P 8 k=some n/\jG P k=some true)\/(kf=.one/\kW P 8 k=some n/\jG P k=some false/\n=1):=by
 unfold lQ at h;split at h;rename_i h1 h2;simp only[bM,gq]at h;obtain⟨rfl,rfl⟩:=h;exact .inl ⟨rfl,h1,h2⟩;rename_i h1 h2;split at h;rename_i hb;simp only[bM,gq]at h;obtain⟨rfl,rfl⟩:=h;exact .inr ⟨rfl,h1,h2,lu hb⟩;cases h;cases h
theorem J5{k:TypeId}{kf:KF}{n:Nat}(h:lQ P k=some (kf,n)):kf=.one->n=1:=by
 rintro rfl;rcases zh h with⟨e,_⟩|⟨_,_,_,h⟩
 cases e;exact h
theorem zyL{k:TypeId}{kf:KF}{n:Nat}(h:lQ P k=some (kf,n)){xs ys:List Int}(hx:xs.length=n)(hy:ys.length=n) :
  (Op.equalIn 10000 k (fH kf xs) (fH kf ys)).run P w=.ok (decide (xs=ys)) w:=by
 rcases zh h with⟨rfl,h1,h2⟩|⟨rfl,h1,h2,_⟩
 exact J4 (w:=w) 8 k n true h1 h2 9992 xs ys hx hy;exact J4 (w:=w) 8 k n false h1 h2 9992 xs ys hx hy
theorem QO{k:TypeId}{kf:KF}{n:Nat}(em:Bool)(h:lQ P k=some (kf,n)){xs:List Int}(hx:xs.length=n) :
  (Instr.checkKey em 10000 k (fH kf xs)).run P w=.ok () w:=by
 rcases zh h with⟨rfl,h1,h2⟩|⟨rfl,h1,h2,_⟩
 exact wZ (w:=w) 8 k n true em h1 h2 9992 xs hx;exact wZ (w:=w) 8 k n false em h1 h2 9992 xs hx
theorem zi{kt n:Nat}{ag:KF}(h:lQ P kt=some (ag,n)){c:List Int}(hc:c.length=n):∀(es:List MapEntry)(en:List (List Int×List Int))(i:Nat),
  es.map (·.key)=en.map (λx=>fH ag x.1)->(∀x∈en,x.1.length=n) ->
   ((Instr.findAsking kt (fH ag c) es i).run P w=.ok none w/\∀x∈en,x.1≠c) \/
   ∃(j:Nat)(e:MapEntry)(v:List Int),(Instr.findAsking kt (fH ag c) es i).run P w=.ok (some (i+j,e.val)) w/\es[j]? = some e/\en[j]? = some (c,v)
 | [],[],i,_,_=>.inl ⟨by simp[Instr.findAsking],by simp⟩
 | [],_::_,i,hk,_=>by simp at hk
 | _::_,[],i,hk,_=>by simp at hk
 | e::es,(k,v)::en,i,hk,hl=>by
  simp only[lM,Du]at hk;have q:=zyL (w:=w) h hc (hl _ kH);have q':(Op.equal kt (fH ag c) e.key).run P w=.ok (decide (c=k)) w:=by rw[hk.1];exact q
  by_cases hck:c=k;subst hck;refine .inr ⟨0,e,v,?_,rfl,rfl⟩;simp only[Instr.findAsking,Sem.run_bind,q',Result.andThen_ok,decide_true,Qs,Sem.run_pure,qja];rcases zi h hc es en (i+1) hk.2 (fun x hx=>hl x (jM _ hx))with⟨h1,h2⟩|⟨j,e',v',h1,h2,h3⟩
  refine .inl ⟨?_,fun x hx => ?_⟩;simp only [Instr.findAsking,Sem.run_bind,q',Result.andThen_ok,hck,VS,qdz,qje];exact h1;rcases jV.1 hx with rfl|hx
  exact λe=>hck e.symm;exact h2 x hx;refine .inr ⟨j+1,e',v',?_,by simpa using h2,by simpa using h3⟩;simp only[Instr.findAsking,Sem.run_bind,q',Result.andThen_ok,hck,VS,qdz,qje];rw[h1,show i+1+j=i+(j+1)by omega]
theorem run_findKey{kt n:Nat}{ag:KF}(h:lQ P kt=some (ag,n)){c:List Int}(hc:c.length=n)(es:List MapEntry)(en:List (List Int×List Int))
    (hk : es.map (·.key) = en.map (fun x => fH ag x.1)) (hl : ∀ x ∈ en, x.1.length = n) :
      ((Instr.findKey kt (fH ag c) es).run P w=.ok none w/\∀x∈en,x.1≠c) \/
      ∃(j:Nat)(e:MapEntry)(v:List Int),(Instr.findKey kt (fH ag c) es).run P w=.ok (some (j,e.val)) w/\es[j]? = some e/\en[j]? = some (c,v):=by
  by_cases l9:ag=.one
  · subst l9;have hn:=J5 h rfl;subst hn;have hu:P.underlying kt=some (.int .i64):=by
      obtain⟨h,hg⟩:kW P 8 kt=some 1/\jG P kt=some false:=by
        rcases zh h with⟨e,_⟩|⟨_,h1,h2,_⟩
        cases e;exact⟨h1,h2⟩
      simp only[kW]at h;split at h
      assumption
      rename_i hu;simp[jG,hu]at hg;rename_i hu;simp[jG,hu]at hg;cases h
    match c,hc with
    | [a],_ =>
      have SB:∀x∈es,IsKey (.int .i64) x.key:=by
        intro x hx;have:x.key∈en.map (λx=>fH .one x.1):=hk▸uu.2 ⟨x,hx,rfl⟩;obtain⟨y,_,hy⟩:=uu.1 this;rw[<- hy];exact zcM _
      have hat:∀(j:Nat)(e:MapEntry),es[j]? = some e->∃k v,en[j]? = some ([k],v)/\e.key=.int .i64 k:=by
        intro j e he;have h1:(es.map (·.key))[j]? = some e.key:=by simp[he]
        rw[hk]at h1;simp only[qde,dqP]at h1;obtain⟨⟨k,v⟩,h2,h3⟩:=h1;have hkl:=hl _ (KP h2)
        match k,hkl with|[k0],_=>exact⟨k0,v,h2,h3.symm⟩
      simp only[fH,qjm];rcases findNow_spec (zcM a) es 0 SB with⟨h1,h2⟩|⟨jj,e',h1,h2,h3⟩
      refine .inl ⟨by simp only [Instr.findKey,Sem.run_bind,run_underlying hu,Result.andThen_ok,h1,Sem.run_pure],fun x hx e => ?_⟩;obtain⟨j,hj⟩:=dq0 hx;have hlen:es.length=en.length:=by have:=jZ List.length hk;simpa using this
      have hjl:j<es.length:=by rw[hlen];exact(BP.1 hj).1
      obtain⟨k,v,h4,h5⟩:=hat j es[j] (yC hjl);rw[hj]at h4;simp only[bM]at h4;rw[h4]at e;simp only[Du,jqf]at e;subst e;exact h2 es[j] (VP hjl) h5;obtain⟨k,v,h4,h5⟩:=hat jj e' h2;rw[h3]at h5;simp only[Value.int.injEq,true_and]at h5;subst h5;exact .inr ⟨jj,e',v,by simp only[Instr.findKey,Sem.run_bind,run_underlying hu,Result.andThen_ok,h1,Sem.run_pure,PK],h2,h4⟩
  · have hg:jG P kt=some true:=by
      rcases zh h with⟨_,_,h2⟩|⟨e,_⟩
      exact h2;exact absurd e l9
    have hkv:∀c:List Int,∃l,fH ag c=.agg l:=λc=>by
      cases ag with|one=>exact absurd rfl l9|ints=>exact⟨_,rfl⟩
    match es,en,hk with
    | [],[],_ =>
      refine .inl ⟨?_,by simp⟩;obtain⟨x,hu⟩:∃x,P.underlying kt=some x:=by
        cases hu:P.underlying kt with|none=>simp[jG,hu]at hg|some x=>exact⟨x,rfl⟩
      simp only[Instr.findKey,Sem.run_bind,run_underlying hu,Result.andThen_ok,Instr.findNow,Sem.run_pure]
    | [],_::_,hk=>simp at hk
    | _::_,[],hk=>simp at hk
    | e::es,x::en,hk =>
      have hke:e.key=fH ag x.1:=by simp only[lM,Du]at hk;exact hk.1
      have hf:(Instr.findKey kt (fH ag c) (e::es)).run P w=(Instr.findAsking kt (fH ag c) (e::es)).run P w:=by
        obtain⟨y,hu⟩:∃y,P.underlying kt=some y:=by
          cases hu:P.underlying kt with|none=>simp[jG,hu]at hg|some y=>exact⟨y,rfl⟩
        have hs:Instr.findNow y (fH ag c) (e::es) 0=none:=by
          obtain⟨l1,e1⟩:=hkv c;obtain⟨l2,e2⟩:=hkv x.1;simp only[Instr.findNow,hke,e1,e2];have:Instr.sameNow y (.agg l1) (.agg l2)=none:=by
            cases y<;>rfl
          rw[this]
        simp only[Instr.findKey,Sem.run_bind,run_underlying hu,Result.andThen_ok,hs]
      rw[hf];rcases zi (w:=w) h hc (e::es) (x::en) 0 hk hl with h1|⟨j,e',v,h1,h2,h3⟩
      exact .inl h1;exact .inr ⟨j,e',v,by rw[h1,PK],h2,h3⟩
theorem MG{c:List Int}:∀{en:List (List Int×List Int)},(∀x∈en,x.1≠c)→nZ c en=none
  | [],_=>rfl
  | (k,v)::r,h=>by
    simp only[nZ];rw[eY (h _ kH)];exact MG λx hx=>h x (jM _ hx)
theorem MH {c v : List Int} : ∀ {en : List (List Int × List Int)} {j : Nat}, (en.map (·.1)).Nodup → en[j]? = some (c, v) → nZ c en = some v
  | [],j,_,h=>by simp at h
  | (k,u)::r,j,hn,h=>by
    simp only[lM,qdx]at hn;simp only[nZ];cases j with
    | zero=>simp at h;rw[eU h.1,h.2]
    | succ j =>
      simp only[dqN]at h;rw[eY (λe=>hn.1 (uu.2 ⟨_,KP h,e.symm⟩))];exact MH hn.2 h
end
end Go.Pm
namespace Go.Pm
variable [aH]
open Go.RowKit (Below)
section
variable{P:Program}{Γ:bI}{nt B:Nat}{w0:World}{h0:Fz}{g:Gh}{σ:St}{a:Act}{w:World}{r:Option Nat}{n i:Nat}{Q:Exit->Act->World->Prop}
theorem zpc(k:Option IntKind)(x:Int):jk g (.p (zia k x)) (cellV k x):=by
 cases k with|none=>exact .bool _|some k=>exact .int _ _
theorem ziD(o:Option (List Int)):∀(ks:List (Option IntKind))(i:Nat),RL (jk g) ((zyr o i ks).map .p) (rV o i ks)|[],_=>trivial|k::ks,i=>⟨zpc k _,ziD o ks (i+1)⟩
theorem zyM{yM:Bool}{ks:List (Option IntKind)}{o:Option (List Int)}{d:D1}(h:zib yM ks o=some d):BB g d (mD yM ks o):=by
 have hr:=ziD (g:=g) o ks 0;unfold zib at h;cases yM with
 | true =>
  simp only[bM]at h;rw[<- h];exact⟨_,rfl,hr⟩
 | false =>
  split at h;rename_i l e;cases e
  ·rename_i v _ e;simp only[bM]at h;rw[<- h];rw[e]at hr;cases hc:rV o 0 ks with|nil=>rw[hc]at hr;exact hr.elim|cons x l=>rw[hc]at hr;simp only[mD,hc,qjm];exact hr.1
  cases h
theorem Xa{yM:Bool}{ks:List (Option IntKind)}{o:Option (List Int)}{d:D1}(h:zib yM ks o=some d):dC d=[]:=by
 unfold zib at h;split at h;simp only[bM]at h;rw[<- h];exact oO _;simp only[bM]at h;rw[<- h];rfl;cases h
def zvO(c:Cl)(acc:Option (List (Option IntKind))):Option (List (Option IntKind)):=match c,acc with|.p (.int k (.ofNat 0)),some l=>some (some k::l)|.p (.bool false),some l=>some (none::l)|_,_=>none
theorem Cb:∀(vs:List Value)(cs:List Cl)(ks:List (Option IntKind))(i:Nat),jF vs=some cs→cs.foldr zvO (some [])=some ks→vs=rV none i ks
  | [],cs,ks,i,h1,h2=>by
    simp only[jF,bM]at h1;subst h1;simp only[List.foldr_nil,bM]at h2;subst h2;rfl
  | v::vs,cs,ks,i,h1,h2=>by
    simp only[jF]at h1;split at h1;rename_i x l hx hl;simp only[bM]at h1;subst h1;rw[List.foldr_cons]at h2;unfold zvO at h2;split at h2;rename_i k l' e1 e2;simp only[bM]at h2;subst h2;simp only[Cl.p.injEq]at e1;rw[Cb vs l l' (i+1) hl e2];have:v=.int k 0:=by
      rw[e1]at hx;unfold wS at hx;split at hx<;>simp at hx;obtain⟨rfl,rfl⟩:=hx;rfl
    rw[this];rfl;rename_i l' e1 e2;simp only[bM]at h2;subst h2;simp only[Cl.p.injEq]at e1;rw[Cb vs l l' (i+1) hl e2];have:v=.bool false:=by
      rw[e1]at hx;unfold wS at hx;split at hx<;>simp at hx;subst hx;rfl
    rw[this];rfl;cases h2;cases h1
structure zpd (P : Program) (kt vt : Nat) (ag : KF) (m : Nat) (yM : Bool) (ks : List (Option IntKind)) : Prop where
  key:lQ P kt=some (ag,m)
  zero:∀w,(zeroValue vt).run P w=.ok (mD yM ks none) w
  one:yM=false->ks.length=1
theorem Xb{kt vt:Nat}{ag:KF}{m:Nat}{yM:Bool}{ks:List (Option IntKind)}(h:KY P kt vt=some (ag,m,yM,ks)):zpd P kt vt ag m yM ks:=by
 unfold KY at h;split at h
 ·rename_i ag' m' ks' zG8 h1 h3 h4;have zero:∀z,(P.info? vt).bind (·.zero)=some z->∀w,(zeroValue vt).run P w=.ok z w/\z.cells.toList=rV none 0 ks':=by
   intro z hz w;unfold zh9 at h3;split at h3;rename_i zc hzc;obtain⟨i,v,hi,hv,ho,_⟩:=lW hzc;rw[hi]at hz;simp only[jqs,hv,bM]at hz;subst hz;exact⟨lG hi hv,Cb _ _ _ 0 ho h3⟩;cases h3
  cases hb:(zG8||Nat.beq ks'.length 1)with
  | false=>rw[hb]at h;cases h
  | true =>
   rw[hb]at h;cases hz:(P.info? vt).bind (·.zero)with
   | none=>rw[hz]at h;cases h
   | some z =>
    rw[hz]at h;cases zG8 with
    | true =>
     cases z with
     | agg cs =>
      simp only[bM,gq]at h;obtain⟨rfl,rfl,rfl,rfl⟩:=h;refine⟨h1,λw=>?_,λe=>by cases e⟩;obtain⟨r1,r2⟩:=zero _ hz w;rw[r1];simp only[Value.cells]at r2;simp only[mD,<- r2]
     | _=>cases h
    | false =>
     have hlen:ks'.length=1:=by
      simp only[qjB]at hb;exact lu hb
     have fin:z.cells.toList=[z]->some (ag',m',false,ks')=some (ag,m,yM,ks)->zpd P kt vt ag m yM ks:=by
      intro hcz h;simp only[bM,gq]at h;obtain⟨rfl,rfl,rfl,rfl⟩:=h;refine⟨h1,λw=>?_,λ_=>hlen⟩;obtain⟨r1,r2⟩:=zero _ hz w;rw[r1];rw[hcz]at r2;simp only[mD,<- r2,qjm]
     cases z with|agg cs=>cases h|_=>exact fin rfl h
 cases h
theorem ziE{ag:KF}{m:Nat}{d:DV}{c:List Int}{v:Value}(h:zoM ag m d=some c)(vk:ag=.one->m=1)(hv:rW g d v):v=fH ag c/\c.length=m:=by
 unfold zoM at h;split at h;rename_i cs;split at h;rename_i l hl;split at h;rename_i hb;simp only[bM]at h;subst h;obtain⟨vs,rfl,hr⟩:=hv;exact⟨by rw[zcN hl hr];rfl,lu hb⟩;cases h;cases h;simp only [bM]at h;subst h;cases hv;exact⟨rfl,(vk rfl).symm⟩;cases h
theorem J6:∀(ks:List (Option IntKind))(cs:List Cl)(l:List Int)(vs:List Value)(pre:List Int),vH ks cs=some l→RL (jk g) cs vs→vs=rV (some (pre++l)) pre.length ks
  | [],[],l,[],pre,h,_=>rfl
  | [],[],_,_::_,_,_,hr=>hr.elim
  | [],_::_,l,vs,pre,h,_=>by simp[vH]at h
  | k::ks,[],l,vs,pre,h,_=>by cases k<;>simp[vH]at h
  | k::ks,c::cs,l,[],pre,h,hr=>hr.elim
  | k::ks,c::cs,l,v::vs,pre,h,hr=>by
    unfold vH at h;split at h;rename_i e1 e2;cases e1;rename_i k' ks' k2 x r e1 e2;simp only[Du]at e1 e2;obtain⟨rfl,rfl⟩:=e1;obtain⟨rfl,rfl⟩:=e2;split at h;rename_i hkk;subst hkk;split at h;rename_i l' yK;simp only[bM]at h;subst h;have ih:=J6 ks cs l' vs (pre++[x]) yK hr.2;have h1:=hr.1;cases h1;rw[show pre++[x]++l'=pre++x::l' by simp,show(pre++[x]).length=pre.length+1 by simp]at ih;rw[ih];simp[rV,cellV,AZ];cases h;cases h;rename_i ks' b r e1 e2;simp only[Du]at e1 e2;obtain⟨rfl,rfl⟩:=e1;obtain⟨rfl,rfl⟩:=e2;split at h;rename_i l' yK;simp only[bM]at h;subst h;have h1:=hr.1;cases h1;have ih:∀y:Int,vs=rV (some (pre++y::l')) (pre.length+1) ks:=λy=>by
      have ih:=J6 ks cs l' vs (pre++[y]) yK hr.2;rw[show pre++[y]++l'=pre++y::l' by simp,show(pre++[y]).length=pre.length+1 by simp]at ih;exact ih
    rw[ih (match b with|true=>1|false=>0)];cases b<;>simp[rV,cellV,AZ];cases h;cases h
theorem zpe{yM:Bool}{ks:List (Option IntKind)}{dv:D1}{l:List Int}{v:Value}(h:vH ks dv.cells=some l)(vk:dv.isAgg=yM)(hv:BB g dv v):v=mD yM ks (some l):=by
 subst vk;cases dv with
 | c x =>
  have:=J6 (g:=g) ks [x] l [v] [] h ⟨hv,trivial⟩;simp only[Qr,Wj]at this;simp only[D1.isAgg,mD,<- this,qjm]
 | agg cs =>
  obtain⟨vs,rfl,hr⟩:=hv;have:=J6 (g:=g) ks cs l vs [] h hr;simp only[Qr,Wj]at this;simp only[D1.isAgg,mD,<- this]
theorem zcS {kt vt m : Nat} {ag : KF} {yM : Bool} {ks : List (Option IntKind)} (E : zpd P kt vt ag m yM ks) {es : Array MapEntry} {en : List (List Int × List Int)} (hen : es.toList.map (fun e => (e.key, e.val)) = en.map (fun x => (fH ag x.1, mD yM ks (some x.2))))
    (hl : ∀ x ∈ en, x.1.length = m) (hn : (en.map (·.1)).Nodup) {c : List Int} (hc : c.length = m) :
      ((Instr.findKey kt (fH ag c) es.toList).run P w=.ok none w/\nZ c en=none/\∀x∈en,x.1≠c) \/
      ∃(j:Nat)(e:MapEntry)(v:List Int),(Instr.findKey kt (fH ag c) es.toList).run P w=.ok (some (j,mD yM ks (some v))) w/\es[j]? = some e/\en[j]? = some (c,v)/\e.key=fH ag c/\nZ c en=some v:=by
  have hk:es.toList.map (·.key)=en.map (λx=>fH ag x.1):=by
    have:=jZ (List.map Prod.fst) hen;simpa [qdF,Function.comp_def]using this
  rcases run_findKey (w:=w) E.key hc es.toList en hk hl with⟨h1,h2⟩|⟨j,e,v,h1,h2,h3⟩
  exact .inl ⟨h1,MG h2,h2⟩;have h4:(es.toList.map (fun e=>(e.key,e.val)))[j]? = some (e.key,e.val):=by simp [h2]
  rw[hen]at h4;simp only[qde,h3,Qq,bM,gq]at h4;exact .inr ⟨j,e,v,by rw[h1,<- h4.2],by simpa using h2,h3,h4.1.symm,MH hn h3⟩
theorem Tq{kt vt:Nat}{q:MQ}(h:KY P kt vt=some q):zpd P kt vt q.1 q.2.1 q.2.2.1 q.2.2.2:=by
 obtain⟨ag,m,yM,ks⟩:=q;exact Xb h
def zcT(q:MQ)(ok:Bool)(o:Option (List Int)):Value :=
 match ok with|true=>.tuple #[mD q.2.2.1 q.2.2.2 o,.bool o.isSome]|false=>mD q.2.2.1 q.2.2.2 o
theorem zaI{t kt vt b:Nat}{q:MQ}{ok:Bool}{F:List Int→Option (List Int)}{k:Nat}{es:Array MapEntry}{clock:Nat}(hu:P.underlying t=some (.map kt vt))(E0:KY P kt vt=some q)
    (yx:w.heap[b]? = some (.map es clock)) (hm:moE q k F es clock) {c:List Int} (hc:c.length=q.2.1) :
    (Instr.lookup t (.map (some b)) (fH q.1 c) ok).run P w=.ok (zcT q ok (F c)) w:=by
  obtain⟨en,M⟩:=hm;have E:=Tq E0;have hck:=QO (P:=P) (w:=w) es.isEmpty E.key hc;rw[M.find c hc];rcases zcS (w:=w) E M.ents (λx hx=>(M.len x hx).1) M.nodup hc with⟨h1,h2,_⟩|⟨j,e,v,h1,_,_,_,h2⟩
  rw [h2];simp only[Instr.lookup,Sem.run_bind,run_underlying hu,Result.andThen_ok,MapKept.run_getObj_map yx,Sem.run_pure,hck,h1,E.zero w];cases ok<;>rfl;rw [h2];simp only[Instr.lookup,Sem.run_bind,run_underlying hu,Result.andThen_ok,MapKept.run_getObj_map yx,Sem.run_pure,hck,h1];cases ok<;>rfl
theorem zfk{o:Oper}{t:TypeId}{x y:Operand}{q:MQ}{ok:Bool}{A:aC}{F:List Int→Option (List Int)}{fin:DV→aC}{fp:List (Nat×Bool)}(S:bU P nt B w0 h0 g σ a w)(hd:dH nt o.dst=true)(aY:o.op = .lookup t x y ok)
    (hA:found q (fU σ.env y) ok F fin=A) (hs:A.safe) (l9:q.1=.one->q.2.1=1)
    (Gn:∀d,(fin d).safe->oN (fin d) i o.dst σ (σ.upd i o.dst fp d [] []))
    (df:∀c d,fin d=A->c.length=q.2.1->(Instr.lookup t (a.eval x) (fH q.1 c) ok).run P w=.ok (zcT q ok (F c)) w) :
    jr P nt B w0 h0 r n i o A σ a w Q:=by
  unfold found at hA;split at hA;rename_i c hc;obtain⟨Sz,Bv⟩:=ziE hc l9 (S.ev y);split at hA
  · rename_i d hdv;have hvd:=zyM (g:=g) hdv;have Bo:=Xa hdv;cases ok with
    | true =>
      have hr:=df c _ hA Bv;subst hA;refine dK S hd (by simp[aY]) (d:=.tup [d,.c (.p (.bool (F c).isSome))]) (v:=zcT q true (F c)) (fp:=fp) (Gn _ hs) ?_ ?_ ?_;simp only[execOp,aY,Sz,Sem.run_bind,hr,Result.andThen_ok,Sem.run_pure];exact⟨[_,_],rfl,hvd,.bool _,trivial⟩;intro M hM;rw[show bY (.tup [d,.c (.p (.bool (F c).isSome))])=dC d++([]++[])from rfl,Bo]at hM;simp at hM
    | false =>
      have hr:=df c _ hA Bv;subst hA;refine dK S hd (by simp[aY]) (d:=.one d) (v:=zcT q false (F c)) (fp:=fp) (Gn _ hs) ?_ hvd ?_;simp only[execOp,aY,Sz,Sem.run_bind,hr,Result.andThen_ok,Sem.run_pure];intro M hM;simp[bY,Bo]at hM
  subst hA;exact hs.elim;subst hA;exact hs.elim
theorem zaJ{o:Oper}{t:TypeId}{x y:Operand}{ok:Bool}{A:aC}(S:bU P nt B w0 h0 g σ a w)(hd:dH nt o.dst=true)(aY:o.op = .lookup t x y ok)
    (hA:KZ P t (fU σ.env x) (fU σ.env y) ok (lk σ.ax)=A) (hs:A.safe):jr P nt B w0 h0 r n i o A σ a w Q:=by
  unfold KZ at hA;split at hA;rename_i kt vt L hu hx;split at hA;rename_i q kt' vt' q' k F hE hL;split at hA;rename_i dm;obtain⟨rfl,rfl,rfl⟩:=dm;have E:=Tq hE;obtain⟨yA,_⟩:=iQ S hx;have yA:a.eval x=.map (some (pU (g.sv L))):=yA;obtain⟨es,clock,yx,_,hm⟩:=S.obj L _ hL;exact zfk (fp:=[(L,false)]) S hd aY hA hs (J5 E.key) (λd _=>rfl) λc d _ hc=>by rw[yA];exact zaI hu hE yx hm hc
  subst hA;exact hs.elim;subst hA;exact hs.elim;subst hA;exact hs.elim
theorem QP{c:List Int}(v:List Int):∀{en:List (List Int×List Int)},nZ c en=none→∀c',nZ c' (en++[(c,v)])=if c'=c then some v else nZ c' en
  | [],_,c'=>by
    simp only[Qr,nZ];by_cases h:c=c';subst h;simp;rw[eY h,eY (λe=>h e.symm)]
  | (k,u)::r,hn,c'=>by
    simp only[nZ]at hn;split at hn;cases hn;rename_i hkc;simp only[qdW,nZ];by_cases h:k=c';subst h;rw[eU rfl,eU rfl,eY hkc];rw [eY h,eY h];exact QP v hn c'
theorem QQ {c v v' : List Int} : ∀ {en : List (List Int × List Int)} {j : Nat}, (en.map (·.1)).Nodup → en[j]? = some (c, v) → ∀ c', nZ c' (en.set j (c, v')) = if c' = c then some v' else nZ c' en
  | [],j,_,h,_=>by simp at h
  | (k,u)::r,j,hn,h,c'=>by
    simp only[lM,qdx]at hn;cases j with
    | zero =>
      simp only[qdG,bM,gq]at h;obtain⟨rfl,rfl⟩:=h;simp only[List.set_cons_zero,nZ];by_cases h:k=c';subst h;simp;rw[eY h,eY (λe=>h e.symm),eY h]
    | succ j =>
      simp only[dqN]at h;have hkc:k≠c:=λe=>hn.1 (uu.2 ⟨_,KP h,e.symm⟩);simp only[List.set_cons_succ,nZ];by_cases h2:k=c';subst h2;rw[eU rfl,eU rfl,eY hkc];rw [eY h2,eY h2];exact QQ hn.2 h c'
theorem zcU(c v:List Int)(F:List Int->Option (List Int))(x:List Int):oI c v F x=if x=c then some v else F x:=by
 unfold oI;by_cases h:x=c<;>simp[h]
theorem GI:∀{ks:List (Option IntKind)}{cs:List Cl}{l:List Int},vH ks cs=some l→l.length=ks.length
  | [],[],l,h=>by simp[vH]at h;subst h;rfl
  | [],_::_,l,h=>by simp[vH]at h
  | k::ks,[],l,h=>by cases k<;>simp[vH]at h
  | k::ks,c::cs,l,h=>by
    unfold vH at h;split at h;rename_i e1 e2;cases e1;rename_i k' ks' k2 x r e1 e2;simp only[Du]at e1 e2;obtain⟨rfl,rfl⟩:=e1;obtain⟨rfl,rfl⟩:=e2;split at h;split at h;rename_i l' yK;simp only[bM]at h;subst h;simp[GI yK];cases h;cases h;rename_i ks' b r e1 e2;simp only[Du]at e1 e2;obtain⟨rfl,rfl⟩:=e1;obtain⟨rfl,rfl⟩:=e2;split at h;rename_i l' yK;simp only[bM]at h;subst h;simp[GI yK];cases h;cases h
theorem zfl{t kt vt b:Nat}{q:MQ}{F:List Int→Option (List Int)}{k:Nat}{es:Array MapEntry}{clock:Nat}(hu:P.underlying t=some (.map kt vt))(E0:KY P kt vt=some q)
    (yx:w.heap[b]? = some (.map es clock)) (hm:moE q k F es clock) {c:List Int} (hc:c.length=q.2.1) (l:List Int) (hll:l.length=q.2.2.2.length) :
    ∃es' Dl,(Instr.mapUpdate t (.map (some b)) (fH q.1 c) (mD q.2.2.1 q.2.2.2 (some l))).run P w=.ok () {w with heap:=w.heap.setIfInBounds b (.map es' Dl)}/\moE q (addN (F c) k) (oI c l F) es' Dl:=by
  obtain⟨ag,m,yM,ks⟩:=q;obtain⟨en,h1',h2',hen,hl,hn,hF,jL,hbo,hbn⟩:=hm;simp only at h1' h2' hen hl hn hF hc hll ⊢;have E:=Xb E0;have hck:=QO (P:=P) (w:=w) false E.key hc;rcases zcS (w:=w) E hen (λx hx=>(hl x hx).1) hn hc with⟨h1,h2,h3⟩|⟨j,e,v,h1,h2,h3,h4,h5⟩
  refine⟨es.push {key:=fH ag c,val:=mD yM ks (some l),born:=clock},clock+1,?_,en++[(c,l)],h1',h2',?_,?_,?_,?_,?_,?_,?_⟩;simp only[Instr.mapUpdate,Sem.run_bind,run_underlying hu,Result.andThen_ok,MapKept.run_getObj_map yx,hck,h1,MapKept.run_setObj_map _ yx];rw[jqk,Qn,hen,Qn];rfl;intro x hx;rcases dR.1 hx with hx|hx
  exact hl x hx;simp only[mf]at hx;subst hx;exact⟨hc,hll⟩;rw [Qn,qjO];refine⟨hn,by simp,λa ha b hb e=>?_⟩;simp only[lM,qdY,mf]at hb;obtain⟨x,hx,hxa⟩:=uu.1 ha;exact h3 x hx (by rw[hxa,e,hb]);intro c' hc';rw[zcU,QP l h2,hF c' hc'];rw[hF c hc,h2,jL];simp[addN];intro x hx;rw[jqk]at hx;rcases dR.1 hx with hx|hx
  exact Nat.lt_succ_of_lt (hbo x hx);simp only[mf]at hx;subst hx;exact Nat.lt_succ_self _;rw [jqk,Qn,qjO];refine⟨hbn,by simp,λa ha b hb e=>?_⟩;simp only[lM,qdY,mf]at hb;obtain⟨x,hx,hxa⟩:=uu.1 ha;have:=hbo x hx;omega;have zn9:(es.modify j λe=>{e with key:=fH ag c,val:=mD yM ks (some l)}).toList=es.toList.set j {e with key:=fH ag c,val:=mD yM ks (some l)}:=by
    rw[Array.toList_modify];have h2':es.toList[j]? = some e:=by simpa using h2
    obtain⟨hj,he⟩:=BP.1 h2';apply qdd;intro q;rw[List.getElem?_modify,qjN];by_cases hq:j=q;subst hq;rw[h2'];have rC:j<es.size:=by simpa using hj
    simp[rC];simp[hq]
  have z0G:es.toList.map (λe=>(e.key,e.val))=en.map (λx=>(fH ag x.1,mD yM ks (some x.2))):=hen;refine⟨es.modify j λe=>{e with key:=fH ag c,val:=mD yM ks (some l)},clock,?_,en.set j (c,l),h1',h2',?_,?_,?_,?_,?_,?_,?_⟩;have z07:((es[j]?).map (·.key)).getD (fH ag c)=fH ag c:=by rw [h2];simp [h4]
  have Gn:(Instr.keyThatStays (fH ag c) (fH ag c)).run P w=.ok (fH ag c) w:=by
    simp[Instr.keyThatStays,zaH]
  simp only[Instr.mapUpdate,Sem.run_bind,run_underlying hu,Result.andThen_ok,MapKept.run_getObj_map yx,hck,h1,z07,Gn,MapKept.run_setObj_map _ yx];rw[zn9,jqo,jqo,z0G];intro x hx;rcases qdn hx with hx|rfl
  exact hl x hx;exact⟨hc,hll⟩;rw [jqo];rw[show(en.map (·.1)).set j c=en.map (·.1)from ?_];exact hn;have:(en.map (·.1))[j]? = some c:=by simp [h3]
  obtain⟨hj,he⟩:=BP.1 this;apply qdd;intro q;rw[qjN];by_cases hq:j=q;subst hq;rw[this];simp;simpa using hj;simp[hq];intro c' hc';rw[zcU,QQ hn h3,hF c' hc'];rw[hF c hc,h5,List.length_set,jL];rfl;intro x hx;rw[zn9]at hx;rcases qdn hx with hx|rfl
  exact hbo x hx;exact hbo e (KP (by simpa using h2));rw [zn9,jqo];rw[show(es.toList.map (·.born)).set j e.born=es.toList.map (·.born)from ?_];exact hbn;have:(es.toList.map (·.born))[j]? = some e.born:=by simp [h2]
  obtain⟨hj,he⟩:=BP.1 this;apply qdd;intro q;rw[qjN];by_cases hq:j=q;subst hq;rw[this];simp;simpa using hj;simp[hq]
theorem zfm{o:Oper}{t:TypeId}{x y z:Operand}{A:aC}(S:bU P nt B w0 h0 g σ a w)(hd:dH nt o.dst=true)(aY:o.op = .mapUpdate t x y z)
    (hA:Wv P t (fU σ.env x) (fU σ.env y) (fU σ.env z) (lk σ.ax)=A) (hs:A.safe):jr P nt B w0 h0 r n i o A σ a w Q:=by
  unfold Wv at hA;split at hA;rename_i kt vt L hu hx;split at hA;rename_i q kt' vt' q' k F hE hL;split at hA;rename_i c dv hc hz;split at hA;rename_i l hl;split at hA;rename_i dm;obtain⟨rfl,rfl,rfl,vk⟩:=dm;subst hA;have E:=Tq hE;obtain⟨yA,_⟩:=iQ S hx;have yA:a.eval x=.map (some (pU (g.sv L))):=yA;obtain⟨Sz,Bv⟩:=ziE hc (J5 E.key) (S.ev y);have Iw:a.eval z=mD q'.2.2.1 q'.2.2.2 (some l):=zpe hl vk (by have:=S.ev z;rw[hz]at this;exact this);obtain⟨es,clock,yx,_,hm⟩:=S.obj L _ hL;obtain⟨es',Dl,df,KI⟩:=zfl (P:=P) hu hE yx hm Bv l (GI hl);have iF:=(Wh.1 yx).1;have hB:=(S.own L _ (pU (g.sv L)) hL rfl).1;refine JZ (by simp[aY]) (w':={w with heap:=w.heap.setIfInBounds (pU (g.sv L)) (.map es' Dl)}) ?_ ⟨g,_,rfl,?_⟩;simp only[execOp,aY,yA,Sz,Iw,Sem.run_bind,df,Result.andThen_ok,Sem.run_pure];rw [fZ];have ry:∀b,¬(pU (g.sv L)=b)->(w.heap.setIfInBounds (pU (g.sv L)) (Obj.map es' Dl))[b]? = w.heap[b]?:=λb hb=>by rw[qd9,eY hb]
  have S' := S.write (o' := .mo kt' vt' q' (addN (F c) k) (oI c l F)) (w' := { w with heap := w.heap.setIfInBounds (pU (g.sv L)) (.map es' Dl) }) hL (fun b hb => hb)
    (DR hB (by simp) (λq hq=>ry q λe=>hq e.symm) rfl rfl rfl rfl) (λb hb=>ry b hb)
    ⟨es',Dl,by show(w.heap.setIfInBounds (pU (g.sv L)) _)[pU (g.sv L)]? = _;simp[iF],hE,KI⟩ (λM hM=>by simp[dS]at hM)
  exact S'.put (d:=.junk) hd trivial (λM hM=>by simp[bY,dC,bg]at hM) _;subst hA;exact hs.elim;subst hA;exact hs.elim;subst hA;exact hs.elim;subst hA;exact hs.elim;subst hA;exact hs.elim
theorem bU.newMo(S:bU P nt B w0 h0 g σ a w){t kt vt:Nat}{q:MQ}(ht:lk σ.ax t=none)(hE:KY P kt vt=some q) :
  bU P nt B w0 h0 (g.setSv t (.map (some w.heap.size))) {σ with ax:=(t,.mo kt vt q 0 (λ_=>none))::σ.ax} a (w.alloc (.map #[] 0)):=by
 have jb:∀L o,lk σ.ax L=some o->L≠t:=λL o h e=>by subst e;rw[ht]at h;cases h
 have fG:∀L o,lk σ.ax L=some o->jd g (g.setSv t (.map (some w.heap.size))) L:=λL o h=>⟨rfl,by simp[Gh.setSv,jb L o h],rfl⟩;have hold:∀b,b<w.heap.size->(w.alloc (.map #[] 0)).heap[b]? = w.heap[b]?:=λb hb=>heap_alloc_old w _ b hb;have kJ:∀L o,lk ((t,AO.mo kt vt q 0 (λ_=>none))::σ.ax) L=some o->(L=t/\o=.mo kt vt q 0 (λ_=>none))\/(L≠t/\lk σ.ax L=some o):=by
  intro L o h;rw[aV]at h;split at h;rename_i e;simp at h;exact .inl ⟨e.symm,h.symm⟩;rename_i e;exact .inr ⟨λe'=>e e'.symm,h⟩
 have iH:∀L o b,lk σ.ax L=some o->gY (g.setSv t (.map (some w.heap.size))) L o b->gY g L o b:=λL o b ho bZ=>Eq.mp (jqe (gV (fG L o ho)) _) bZ;refine S.change (g':=g.setSv t (.map (some w.heap.size))) fG (λ_ _ h=>h) ?_ (λb o h=>.inl h) (yg.of ⟨(Below.refl B w).alloc S.bs _,jP _⟩) ?_ ?_ ?_ ?_ ?_;exact S.hw.same λb o h=>hold b (vO S.hw h);intro L o ho;rcases kJ L o ho with⟨rfl,rfl⟩|⟨_,ho⟩
 have E:=Tq hE;exact⟨#[],0,by rw[show pU ((g.setSv L (.map (some w.heap.size))).sv L)=w.heap.size by simp[Gh.setSv,pU]];exact heap_alloc_new w _,hE,[],J5 E.key,E.one,rfl,λx hx=>by simp at hx,qjI,λc _=>rfl,rfl,λe he=>by simp at he,by simp⟩;refine jX (S.obj L o ho) (fG L o ho) (fun M hM => ?_) (fun _ _ h=>h) (fun b bZ=>hold b (iP (S.obj L o ho) bZ));obtain⟨o',kV⟩:=S.clO L o ho M hM;exact fG M o' kV;intro L o b ho bZ;rcases kJ L o ho with⟨rfl,rfl⟩|⟨_,ho⟩
 ·simp [gY,Gh.setSv,pU]at bZ;subst bZ;refine⟨S.bs,?_⟩;cases hh:g.h w.heap.size with|none=>exact hh|some x=>exact absurd (vO S.hw hh) omY
 exact S.own L o b ho (iH L o b ho bZ);intro L o b L' o' ho kV bZ iE;rcases kJ L o ho with⟨rfl,rfl⟩|⟨hn,o9⟩<;>rcases kJ L' o' kV with⟨rfl,rfl⟩|⟨hn',nS⟩
 rfl;simp [gY,Gh.setSv,pU]at bZ;subst bZ;exact absurd (iP (S.obj L' o' nS) (iH _ _ _ nS iE)) omY;simp [gY,Gh.setSv,pU]at iE;subst iE;exact absurd (iP (S.obj L o o9) (iH _ _ _ o9 bZ)) omY;exact S.sep L o b L' o' o9 nS (iH _ _ _ o9 bZ) (iH _ _ _ nS iE);intro L o ho;refine⟨o,?_⟩;rw[aV,eY (λe=>jb L o ho e.symm)];exact ho;intro L o ho M hM;have fin:∀M o,lk σ.ax M=some o->∃o',lk ((t,AO.mo kt vt q 0 (λ_=>none))::σ.ax) M=some o':=λM o h=>⟨o,by rw[aV,eY (λe=>jb M o h e.symm)];exact h⟩;rcases kJ L o ho with⟨rfl,rfl⟩|⟨_,ho⟩
 simp[dS]at hM;obtain⟨o',kV⟩:=S.clO L o ho M hM;exact fin M o' kV
theorem zaK{o:Oper}{t kt vt:TypeId}{q:MQ}{A:aC}(S:bU P nt B w0 h0 g σ a w)(hd:dH nt o.dst=true)(aY:o.op = .makeMap t none)(hE:KY P kt vt=some q)
    (hA:Gu (lk σ.ax) o.dst (.mo kt vt q 0 (λ_=>none)) (λt=>.cl (.mo t))=A) (hs:A.safe):jr P nt B w0 h0 r n i o A σ a w Q:=by
  unfold Gu at hA;split at hA;rename_i L hL;split at hA;rename_i kJ;subst hA;have S':=S.newMo (kt:=kt) (vt:=vt) kJ hE;refine qB (by simp[aY]) (v:=.map (some w.heap.size)) (w':=w.alloc (.map #[] 0)) ?_ ⟨g.setSv L (.map (some w.heap.size)),_,rfl,?_⟩;simp[execOp,aY,Instr.makeMap];rw [fZ];refine S'.put (σ:={σ with ax:=(L,AO.mo kt vt q 0 (λ_=>none))::σ.ax}) hd (d:=.cl (.mo L)) ?_ ?_ _;simp[rW,BB,jk,Gh.setSv,pU];intro M hM;simp[bY,dC,bg]at hM;subst hM;exact⟨_,by rw[aV,eU rfl]⟩;subst hA;exact hs.elim;subst hA;exact hs.elim
end
end Go.Pm
namespace Go.Pm
variable [aH]
open Go.RowKit (Below)
section
variable{P:Program}{Γ:bI}{nt B:Nat}{w0:World}{h0:Fz}{g:Gh}{σ:St}{a:Act}{w:World}{r:Option Nat}{n i:Nat}{Q:Exit->Act->World->Prop}
theorem ziF{h:Fz}{n s l k:Nat}{get:Nat→List PV}{v:Value}(hr:Rep h (.sl n s get) v)(hl:l≤k)(hk:k≤n) :
  ∃a len cap,v=.slice a len cap/\len=n/\len<=cap/\Rep h (.sl (k-l) s (slG get l)) (sliced a l k cap s):=by
 have hu:uC get:=hr.un.rows.2;cases hr with
 | sl0=>exact⟨none,0,0,rfl,rfl,jP _,by
   obtain rfl:k=0:=by omega
   obtain rfl:l=0:=by omega
   exact .sl0 _ _ (wU hu _)⟩
 | sle _ _ a cap=>exact⟨some a,0,cap,rfl,rfl,Ad _,by
   obtain rfl:k=0:=by omega
   obtain rfl:l=0:=by omega
   unfold sliced;split;exact .sle _ _ _ _ (wU hu _);exact .sle _ _ _ _ (wU hu _)⟩
 | sl _ _ _ _ b o cap C ty fr vs hb kK hlen hc hr =>
  refine⟨_,n,cap,rfl,rfl,kK,?_⟩;unfold sliced;by_cases hkl:k-l=0;rw [hkl];split;exact .sle _ _ _ _ (wU hu _);exact .sle _ _ _ _ (wU hu _);rw [eY omY];simp only[Qq,addr_add];refine .sl (k-l) s (slG get l) (wU hu _) b (o+l*s) (cap-l) C ty fr (λi=>vs (i+l)) hb omY (λi hi=>hlen (i+l) omY) (λi j x hi hj=>?_) (λi j x hi hj=>hr (i+l) j x omY hj);have:=hc (i+l) j x omY hj;rw[Nat.add_mul]at this;rw[show o+l*s+i*s+j=o+(i*s+l*s)+j by omega];exact this
theorem Xc(S:bU P nt B w0 h0 g σ a w){x:Option Operand}{j:Option Int}(h:Gt (fU σ.env) x=some j):(j=none/\x.map a.eval=none)\/∃k q,j=some q/\x.map a.eval=some (.int k q):=by
 cases x with
 | none=>simp only[Gt,bM]at h;exact .inl ⟨h.symm,rfl⟩
 | some x =>
  simp only[Gt]at h;split at h;rename_i k q hx;simp only[bM]at h;exact .inr ⟨k,q,h.symm,by rw[Qq,kF S hx]⟩;cases h
theorem zfn{o:Oper}{t:TypeId}{x:Operand}{lo hi:Option Operand}{A:aC}(S:bU P nt B w0 h0 g σ a w)(hd:dH nt o.dst=true)(aY:o.op = .slice t x lo hi none)
    (hA:Dz P t (fU σ.env x) (Gt (fU σ.env) lo) (Gt (fU σ.env) hi)=A) (hs:A.safe):jr P nt B w0 h0 r n i o A σ a w Q:=by
  unfold Dz at hA;split at hA;rename_i e m s get lo' jY hu hx hlo hhi;split at hA;rename_i q hq;split at hA;rename_i hb;have hsq:=lu hb;subst hsq;subst hA;obtain⟨h1,h2,h3⟩:0<=lo'.getD 0/\lo'.getD 0<=jY.getD (m:Int)/\jY.getD (m:Int)<=(m:Int):=hs;have hv:=jI S hx;obtain⟨ad,len,cap,hav,hlen,kK,hr⟩:=ziF (l:=(lo'.getD 0).toNat) (k:=(jY.getD (m:Int)).toNat) hv omY omY;subst hlen;have hue:P.underlying t=some (.slice (P.elem t)):=by simp[Program.elem,hu]
  have Iy:P.elem t=e:=by simp[Program.elem,hu]
  have jL:=run_sizeOf (w:=w) hq;have df:(Instr.slice t (a.eval x) (lo.map a.eval) (hi.map a.eval) none).run P w=.ok (sliced ad (lo'.getD 0).toNat (jY.getD (len:Int)).toNat cap s) w:=by
    rw[hav,run_slice_any w t ad len cap hue,Iy];have hb:(Instr.sliceBounds true len cap (lo.map a.eval) (hi.map a.eval) none).run P w=.ok ((lo'.getD 0).toNat,(jY.getD (len:Int)).toNat,cap) w:=by
      rcases Xc S hlo with⟨rfl,e1⟩|⟨k1,q1,rfl,e1⟩<;>rcases Xc S hhi with⟨rfl,e2⟩|⟨k2,q2,rfl,e2⟩<;>rw[e1,e2]<;>simp only[qdO,Option.getD_none]at h1 h2 h3 ⊢
      simp[Instr.sliceBounds];simp[Instr.sliceBounds,run_sliceBound w k2 q2 cap _ omY omY];simp[Instr.sliceBounds,run_sliceBound w k1 q1 len _ omY omY];simp[Instr.sliceBounds,run_sliceBound w k2 q2 cap _ omY omY,run_sliceBound w k1 q1 q2.toNat _ omY omY]
    rw[hb];simp only[Result.andThen_ok,jL]
  refine dK S hd (by simp[aY]) (d:=.p (.sl (jY.getD (len:Int)-lo'.getD 0).toNat s (slG get (lo'.getD 0).toNat))) (v:=sliced ad (lo'.getD 0).toNat (jY.getD (len:Int)).toNat cap s) (fp:=[]) rfl ?_ ?_ (kN _);simp[execOp,aY,Instr.sliceAt,run_underlying hu,df];rw [show(jY.getD (len:Int)-lo'.getD 0).toNat=(jY.getD (len:Int)).toNat-(lo'.getD 0).toNat by omega];exact hr;subst hA;exact hs.elim;subst hA;exact hs.elim;subst hA;exact hs.elim
end
end Go.Pm
namespace Go.Pm
variable [aH]
open Go.RowKit (Below)
section
variable{P:Program}{Γ:bI}{nt B:Nat}{w0:World}{h0:Fz}{g:Gh}{σ:St}{a:Act}{w:World}{r:Option Nat}{n i:Nat}{Q:Exit->Act->World->Prop}
theorem bU.newObj(S:bU P nt B w0 h0 g σ a w){t:Nat}{o:AO}{g':Gh}{w':World}(ht:lk σ.ax t=none)(hh:g'.h=g.h)(hs:∀M,M≠t→jd g g' M)
    (hb:LD B w w') (hold:∀b,b<w.heap.size->w'.heap[b]? = w.heap[b]?) (hv:∀b,gY g' t o b->w.heap.size<=b) (Bo:dS o=[]) (hr:Pz P g' w' B t o) :
    bU P nt B w0 h0 g' {σ with ax:=(t,o)::σ.ax} a w':=by
  have jb:∀L o,lk σ.ax L=some o->L≠t:=λL o h e=>by subst e;rw[ht]at h;cases h
  have fG:∀L o,lk σ.ax L=some o->jd g g' L:=λL o h=>hs L (jb L o h);have kJ:∀L x,lk ((t,o)::σ.ax) L=some x->(L=t/\x=o)\/(L≠t/\lk σ.ax L=some x):=by
    intro L x h;rw[aV]at h;split at h;rename_i e;simp at h;exact .inl ⟨e.symm,h.symm⟩;rename_i e;exact .inr ⟨λe'=>e e'.symm,h⟩
  have iH:∀L o b,lk σ.ax L=some o->gY g' L o b->gY g L o b:=λL o b ho bZ=>Eq.mp (jqe (gV (fG L o ho)) _) bZ;have hle:ku g.h g'.h:=by rw[hh];exact λ_ _ h=>h
  refine S.change (g':=g') fG hle ?_ (λb o h=>by rw[hh]at h;exact .inl h) (.of hb) ?_ ?_ ?_ ?_ ?_;rw[hh];exact S.hw.same λb o h=>hold b (vO S.hw h);intro L x hx;rcases kJ L x hx with⟨rfl,rfl⟩|⟨_,hx⟩
  exact hr;refine jX (S.obj L x hx) (fG L x hx) (fun M hM => ?_) hle (fun b bZ=>hold b (iP (S.obj L x hx) bZ));obtain⟨o',kV⟩:=S.clO L x hx M hM;exact fG M o' kV;intro L x b' hx bZ;rcases kJ L x hx with⟨rfl,rfl⟩|⟨_,hx⟩
  · have h1:=hv b' bZ;refine⟨Gj S.bs h1,?_⟩;rw[hh];cases hq:g.h b' with|none=>rfl|some x=>exact absurd (vO S.hw hq) omY
  rw[hh];exact S.own L x b' hx (iH L x b' hx bZ);intro L x b' L' x' hx yP bZ iE;rcases kJ L x hx with⟨rfl,rfl⟩|⟨hn,Qj⟩<;>rcases kJ L' x' yP with⟨rfl,rfl⟩|⟨hn',zaC⟩
  rfl;have:=hv b' bZ;exact absurd (iP (S.obj L' x' zaC) (iH _ _ _ zaC iE)) omY;have:=hv b' iE;exact absurd (iP (S.obj L x Qj) (iH _ _ _ Qj bZ)) omY;exact S.sep L x b' L' x' Qj zaC (iH _ _ _ Qj bZ) (iH _ _ _ zaC iE);intro L o ho;refine⟨o,?_⟩;rw[aV,eY (λe=>jb L o ho e.symm)];exact ho;intro L x hx M hM;rcases kJ L x hx with⟨rfl,rfl⟩|⟨_,hx⟩
  rw[Bo]at hM;simp at hM;obtain⟨o',kV⟩:=S.clO L x hx M hM;exact⟨o',by rw[aV,eY (λe=>jb M o' kV e.symm)];exact kV⟩
theorem QR{z:Array Value}{s m i:Nat}(hz:z.size=s)(hi:i<m):((madeCells z (m*s)).toList.drop (i*s)).take s=z.toList:=by
 have hii:i*s+s<=m*s:=by have:=SI s (qdt hi);rw[VQ]at this;exact this
 apply qdd;intro j;rw[JR];split;rename_i hj;rw[qdl];have:(madeCells z (m*s)).toList[i*s+j]? = some z[(i*s+j)%z.size]!:=by
  simp only[madeCells,qju,qde];rw[Array.toList_range,qjh omY];rfl
 rw[this,hz,qdN i s,jqy,jqt hj];have rC:j<z.size:=by omega
 simp[rC];rename_i hj;rw[dq2 (by simp;omega)]
theorem PW{o:Oper}{t:TypeId}{x y:Operand}{A:aC}(S:bU P nt B w0 h0 g σ a w)(hd:dH nt o.dst=true)(aY:o.op = .makeSlice t x y)
    (hA:tK P Γ t (fU σ.env x) (fU σ.env y) o.dst (lk σ.ax)=A) (hs:A.safe):jr P nt B w0 h0 r n i o A σ a w Q:=by
  unfold tK at hA;split at hA
  · rename_i e k1 j k2 j2 dst hu hx hy Iu;split at hA
    · rename_i ie z hi hz iq;obtain⟨i',zv,hi2,Iw,hov,hlen⟩:=lW hz;rw[hi] at hi2;simp only[bM] at hi2;subst hi2;have Bl:zv.cells.size=ie.size:=by have:=(kR (g:=g) _ _ hov).length;simp at this;omega
      have yA:=kF S hx;have Sz:=kF S hy
      have made:∀(hs:0<=j/\j=j2/\j<=1000000)(Ac:ie.bytes<=1000000),∃w',(execOp a.eval o).run P w=.ok (.value (.slice (some ⟨w.heap.size,0,none⟩) j.toNat j.toNat)) w' /\
          w'.ownsRow B e ie.size (.slice (some ⟨w.heap.size,0,none⟩) j.toNat j.toNat) j.toNat (madeCells zv.cells (j.toNat*ie.size)).toList/\LD B w w'/\∀b,b<w.heap.size->w'.heap[b]? = w.heap[b]?:=by
        intro hs Ac;obtain⟨h0,rfl,h1⟩:=hs;have hj:j=((j.toNat:Nat):Int):=by omega
        have hmul:ie.bytes*j.toNat<=281474976710656:=Gj (jqJ Ac (show j.toNat<=1000000 by omega)) (by decide);obtain⟨w',hr,jh,hg⟩:=run_make_full (P:=P) w B t e ie zv ie.size hu hi Iw rfl k1 k2 j.toNat hmul (by simp only[maxLen];omega) S.bs;refine⟨w',?_,jh,⟨⟨hg.os,hg.tape,hg.output,hg.size,λk hk=>hg.block k (qdw hk S.bs) (by simp)⟩,LC (gW _ _ _ _ hr)⟩,λb hb=>hg.block b hb (by simp)⟩;rw[<- hj]at hr;simp only[execOp,aY,yA,Sz,Sem.run_bind,hr,Result.andThen_ok,Sem.run_pure]
      split at hA
      · split at hA
        · rename_i e2 hue;split at hA
          · rename_i i2 z2 zG9 zOd dm;simp only[fQ,VT] at dm;have hs1:=lu dm.1;split at hA
            · rename_i l2 hl2 V7;have ziG:0 < i2.size:=qjP (qdZ V7);subst hA;obtain⟨w',df,jh,sV,hold⟩:=made hs dm.2;obtain⟨i3,zv2,hi3,zSb,zSc,z4s⟩:=lW zOd;rw[zG9] at hi3;simp only[bM] at hi3;subst hi3;have zyO:zv2.cells.size=i2.size:=by have:=(kR (g:=g) _ _ zSc).length;simp at this;omega
              have mO:(g.setVv dst (.slice (some ⟨w.heap.size,0,none⟩) j.toNat j.toNat) (λ_=>.slice none 0 0)).sv dst=.slice (some ⟨w.heap.size,0,none⟩) j.toNat j.toNat:=by simp[Gh.setVv]
              have hiv:(g.setVv dst (.slice (some ⟨w.heap.size,0,none⟩) j.toNat j.toNat) (λ_=>.slice none 0 0)).iv dst=λ_=>.slice none 0 0:=by simp[Gh.setVv]
              have hz1:zv.cells.toList=[.slice none 0 0]:=by
                match hl:zv.cells.toList,hov with
                | [],h=>simp[jF]at h
                | [v],h =>
                  simp only[jF]at h;split at h;rename_i x' l' h1 h2;simp only[bM]at h2;subst h2;simp only[bM,Du,Cl.p.injEq,jqf]at h;subst h;unfold wS at h1;split at h1<;>simp at h1;rfl;cases h
                | v::u::l,h =>
                  simp only[jF]at h;split at h;rename_i x' l' h1 h2;simp only[bM,Du]at h;obtain⟨_,rfl⟩:=h;split at h2;simp at h2;cases h2;cases h
              have S2 := S.newObj (t := dst) (o := .vv e ie.bytes e2 i2.size i2.bytes j.toNat (fun _ => 0) (fun _ _ => l2)) (g' := g.setVv dst (.slice (some ⟨w.heap.size, 0, none⟩) j.toNat j.toNat) (fun _ => .slice none 0 0)) (w' := w')
                iq rfl (λM hM=>⟨rfl,by simp[Gh.setVv,hM],by simp[Gh.setVv,hM]⟩) sV hold (λb hb=>by
                  rcases hb with hb|⟨i,_,hb⟩
                  rw[mO]at hb;simp only[Value.ownBlock,bM]at hb;omega;rw[hiv]at hb;cases hb) rfl (by
                refine⟨⟨λ_ _ _ _=>JX zOd hl2,ziG⟩,⟨ie,zv,hi,hs1,rfl,Iw,by rw[Bl,hs1]⟩,⟨i2,zv2,zG9,rfl,rfl,zSb,zyO⟩,?_,λi jY=>?_,λi k _ h=>?_⟩
                rotate_left
                rw[hiv];exact⟨rfl,λ_=>rfl,[],World.ownsRow_nil _ _ _ _,λ_ h=>absurd h (Wi _)⟩;rw[hiv]at h;cases h;rw[mO,hiv];rw[hs1]at jh;have:(madeCells zv.cells (j.toNat*1)).toList=(List.range j.toNat).map λ_=>Value.slice none 0 0:=by
                  apply qdd;intro q;by_cases hq:q<j.toNat;have h1:=QR (z:=zv.cells) (s:=1) (by rw [Bl,hs1]) hq;have h2:=jZ (λl=>l[0]?) h1;simp only[JR,qdl]at h2;rw[eU (by decide)]at h2;simp only[Nat.mul_one,qja]at h2;rw[Nat.mul_one,h2,hz1];simp[hq];rw[dq2 (by simp[madeCells];omega),dq2 (by simp;omega)]
                rw[this]at jh;exact jh)
              refine qB (by simp[aY]) df ⟨g.setVv dst (.slice (some ⟨w.heap.size,0,none⟩) j.toNat j.toNat) (λ_=>.slice none 0 0),_,rfl,?_⟩;rw[fZ];refine S2.put (v:=.slice (some ⟨w.heap.size,0,none⟩) j.toNat j.toNat) hd (d:=.cl (.vec dst)) ⟨mO.symm,rfl⟩ ?_ _;intro M hM;simp[bY,dC,bg]at hM;subst hM;exact⟨_,by rw[aV,eU rfl]⟩
            subst hA;exact hs.elim
          subst hA;exact hs.elim
        subst hA;exact hs.elim
      split at hA;rename_i l hl;split at hA;rename_i dm;simp only[fQ,VT]at dm;subst hA;obtain⟨w',df,jh,sV,hold⟩:=made hs dm.2;have mO:(g.setSv dst (.slice (some ⟨w.heap.size,0,none⟩) j.toNat j.toNat)).sv dst=.slice (some ⟨w.heap.size,0,none⟩) j.toNat j.toNat:=by simp[Gh.setSv]
      have oz:=kR (g:=g) _ _ hov;rw[oP hl]at oz;have oz:=RL.map_left.1 oz
      have S2 := S.newVec (t := dst) (w' := w') (e := e) (s := ie.size) (b := ie.bytes) (n := j.toNat) (get := fun _ => Ba P e l) (v := .slice (some ⟨w.heap.size, 0, none⟩) j.toNat j.toNat) iq sV hold
        (λb hb=>by simp[Value.ownBlock]at hb;omega) ⟨⟨Ll (yV (vJ oz)),omY⟩,⟨ie,zv,hi,rfl,rfl,Iw,Bl⟩,_,by rw[mO];exact jh,λi jY=>by rw[QR Bl jY];exact vJ oz⟩
      refine qB (by simp[aY]) df ⟨g.setSv dst (.slice (some ⟨w.heap.size,0,none⟩) j.toNat j.toNat),_,rfl,?_⟩;rw[fZ];refine S2.put (v:=.slice (some ⟨w.heap.size,0,none⟩) j.toNat j.toNat) hd (d:=.cl (.vec dst)) ⟨mO.symm,rfl⟩ ?_ _;intro M hM;simp[bY,dC,bg]at hM;subst hM;exact⟨_,by rw[aV,eU rfl]⟩;subst hA;exact hs.elim;subst hA;exact hs.elim
    subst hA;exact hs.elim
  subst hA;exact hs.elim
end
end Go.Pm
namespace Go.Pm
variable [aH]
open Go.RowKit (Below)
section
variable{P:Program}{Γ:bI}{nt B:Nat}{w0:World}{h0:Fz}{g:Gh}{σ:St}{a:Act}{w:World}{r:Option Nat}{n i:Nat}{Q:Exit->Act->World->Prop}
theorem MI{h:Fz}{x:PA}{v:Value}(hx:oC h x v):BB ⟨h,g.bk,g.sv,g.iv⟩ (JU x) v:=by
 cases x with
 | one p=>exact hx
 | agg cs =>
  obtain⟨vs,rfl,hr⟩:=hx;exact⟨vs,rfl,RL.map_left.2 hr⟩
theorem Tt{h:Fz}{rs:List PA}{v:Value}(hr:qV h rs v):rW ⟨h,g.bk,g.sv,g.iv⟩ (resD rs) v:=by
 have tup:∀l:List PA,(∃vs:List Value,v=.tuple vs.toArray/\RL (oC h) l vs)->rW ⟨h,g.bk,g.sv,g.iv⟩ (.tup (l.map JU)) v:=by
  rintro l ⟨vs,hv,hr2⟩;exact⟨vs,hv,RL.map_left.2 (RL.mono hr2 λ_ _ h=>MI h)⟩
 match rs,hr with|[],hr=>exact tup _ hr|[x],hr=>exact MI hr|x::y::l,hr=>exact tup _ hr
theorem xe(x:PA):dC (JU x)=[]:=by
 cases x with|one p=>rfl|agg cs=>exact oO cs
theorem DU(rs:List PA):bY (resD rs)=[]:=by
 have tup:∀l:List PA,bY (.tup (l.map JU))=[]:=by
  intro l
  induction l with|nil=>rfl|cons x l ih=>simp only[lM,bY,oG,xe,Qr]at ih ⊢;exact ih
 match rs with|[]=>exact tup _|[x]=>exact xe x|x::y::l=>exact tup _
theorem eF{f:FuncId}{args:Array Value}(h:dw P f):(callFunc f args).run P w=.ok (.enter f args) w:=by
 obtain⟨fn,h1,h2,h3⟩:=h;have h2':fn.body.isNone=false:=by simpa using h2
 simp only[callFunc,Sem.run_bind,run_program,Result.andThen_ok,h1,h3,h2',qdz,qje,Sem.run_pure]
theorem DW(S:bU P nt B w0 h0 g σ a w):∀(l:List Operand),RL (rW g) (l.map (fU σ.env)) (l.map a.eval)|[]=>trivial|x::r=>⟨S.ev x,DW S r⟩
theorem zaL{h:Fz}{l:List PV}{vs:List Value}(hr:RL (Rep h) l vs):RL (oC h) (l.map .one) vs:=RL.map_left.2 hr
theorem MJ{h:Fz}{l:List PV}{vs:List Value}(h1:l.length=vs.length)(h2:∀(j:Nat)(x:PV)(v:Value),l[j]? = some x->vs[j]? = some v->Rep h x v):RL (Rep h) l vs:=RL.of_get h1 h2
theorem bU.swap(S:bU P nt B w0 h0 g σ a w){u:List (Nat×AO)}{kl K:List Nat}{g':Gh}{w':World}(hle:ku g.h g'.h)(KJ:Hw g'.h w')(ut:∀M,g'.bk M=g.bk M)(hs:∀M,M∉kl→jd g g' M)
    (hkl:∀L∈kl,lk u L≠none) (hX:zaA g.h K w w') (hK:∀b∈K,∃L o o',lk u L=some o/\lk σ.ax L=some o'/\gY g L o' b)
    (hv:∀L o,lk u L=some o->Pz P g' w' B L o) (bZ:∀L o b,lk u L=some o->gY g' L o b->(b∈K\/w.heap.size<=b)/\g'.h b=none)
    (JP:∀L o b L' o',lk u L=some o->lk u L'=some o'->gY g' L o b->gY g' L' o' b->L=L')
    (Bo:∀L o,lk u L=some o->∀M∈dS o,∃o',lk σ.ax M=some o') (hnK:∀b o,g'.h b=some o->g.h b=some o\/w.heap.size<=b\/b∈K) (log:List (Nat×Nat×Nat)) :
    bU P nt B w0 h0 g' ⟨kills (gU kl) σ.env,u++kills (fE kl) σ.ax,log⟩ a w':=by
  have kJ:∀M x,lk (u++kills (fE kl) σ.ax) M=some x->lk u M=some x\/(lk u M=none/\M∉kl/\∃o,lk σ.ax M=some o/\x=fE kl o):=by
    intro M x h;rw[gZ]at h;cases hM:lk u M with
    | some y=>rw[hM]at h;exact .inl h
    | none =>
      rw[hM]at h;simp only[]at h;rw[pV]at h;obtain⟨o,ho,rfl⟩:=dqP.1 h;exact .inr ⟨rfl,λhk=>hkl M hk hM,o,ho,rfl⟩
  have yJ:∀M o,lk σ.ax M=some o->∃x,lk (u++kills (fE kl) σ.ax) M=some x:=by
    intro M o h;rw[gZ];cases lk u M with|some y=>exact⟨y,rfl⟩|none=>simp only[];rw[pV,h];exact⟨_,rfl⟩
  have Md:∀M o,M∉kl->gY g' M (fE kl o)=gY g M o:=by
    intro M o jb;have:=hs M jb;funext k;cases o<;>simp[fE,gY,this.1,this.2.1,this.2.2]
  have hKB:∀b∈K,B<=b/\g.h b=none:=λb hb=>by
    obtain⟨L,_,o',_,h2,h3⟩:=hK b hb;exact S.own L o' b h2 h3
  have F9:∀M o k,lk u M=none->lk σ.ax M=some o->gY g M o k->k∉K:=λM o k h1 h2 h3 hk=>by
    obtain⟨L,x,o',h4,h5,h6⟩:=hK k hk;rw[S.sep M o k L o' h2 h5 h3 h6,h4]at h1;cases h1
  have hold:∀M o k,lk u M=none->lk σ.ax M=some o->gY g M o k->w'.heap[k]? = w.heap[k]?:=λM o k h1 h2 h3 =>
    hX.block k (iP (S.obj M o h2) h3) (F9 M o k h1 h2 h3)
  refine⟨S.dfr.mono hle,S.size,?_,?_,?_,?_,KJ,λb o h=>hle _ _ (S.le0 b o h),?_,S.below.trans ⟨hX.os,hX.tape,hX.output,hX.size,hX.drawn,λk hk=>hX.block k (qdw hk S.bs) (λhkK=>by have:=(hKB k hkK).1;omega)⟩,Gj S.bs hX.size,?_,?_⟩;intro t d ht;rw[pV]at ht;obtain⟨d',gG,rfl⟩:=dqP.1 ht;exact zcQ hle ut hs (S.env t d' gG);intro M x hx;rcases kJ M x hx with hx|⟨hn,jb,o,ho,rfl⟩
  exact hv M x hx
  · have Z7:∀k,gY g M o k→w'.heap[k]? = w.heap[k]? := fun k hk=>hold M o k hn ho hk;have hr:=S.obj M o ho;have hsM:=hs M jb;cases o with
    | box ty cs =>
      obtain⟨C,hC,hr⟩:=hr;exact⟨C,by rw[ut M,Z7 _ rfl];exact hC,DT hle ut hs hr⟩
    | _=>exact jX (o:=fE kl _) hr hsM (λL hL=>by simp[dS,fE]at hL) hle Z7
  intro M x k hx hk;rcases kJ M x hx with hx|⟨hn,jb,o,ho,rfl⟩
  obtain⟨h1,h2⟩:=bZ M x k hx hk;exact⟨h1.elim (λh=>(hKB k h).1) (λh=>Gj S.bs h),h2⟩
  · rw [Md M o jb]at hk;obtain⟨h1,h2⟩:=S.own M o k ho hk;refine⟨h1,?_⟩;cases hh:g'.h k with
    | none=>rfl
    | some y =>
      rcases hnK k y hh with h3|h3|h3
      rw[h2]at h3;cases h3;exact absurd (iP (S.obj M o ho) hk) omY;exact(F9 M o k hn ho hk h3).elim
  intro M x k M' x' hx yP hk jO;have SA:∀M o L y,lk u M=none->lk σ.ax M=some o->gY g M o k->lk u L=some y->gY g' L y k->False:=by
    intro M o L y hn ho hk hy jO;rcases(bZ L y k hy jO).1 with h|h
    exact F9 M o k hn ho hk h;exact absurd (iP (S.obj M o ho) hk) omY
  rcases kJ M x hx with hx|⟨hn,jb,o,ho,rfl⟩<;>rcases kJ M' x' yP with yP|⟨hn',zhz,o2,o9,rfl⟩
  exact JP M x k M' x' hx yP hk jO;rw [Md M' o2 zhz]at jO;exact(SA M' o2 M x hn' o9 jO hx hk).elim;rw [Md M o jb]at hk;exact(SA M o M' x' hn ho hk yP jO).elim;rw [Md M o jb]at hk;rw [Md M' o2 zhz]at jO;exact S.sep M o k M' o2 ho o9 hk jO;intro b o h;rcases hnK b o h with h|h|h
  exact S.hn b o h;exact .inr (Gj S.bs h);exact .inr (hKB b h).1;intro t d ht M hM;rw[pV]at ht;obtain⟨d',gG,rfl⟩:=dqP.1 ht;obtain⟨o,ho⟩:=S.clE t d' gG M (QL M hM);exact yJ M o ho;intro M x hx N hN;rcases kJ M x hx with hx|⟨hn,jb,o,ho,rfl⟩
  obtain⟨o',kV⟩:=Bo M x hx N hN;exact yJ N o' kV;obtain⟨o2,o9⟩:=S.clO M o ho N (QM N hN);exact yJ N o2 o9
theorem bU.frozen0(S:bU P nt B w0 h0 g σ a w):fJ g (lk σ.ax) [] g.h :=
 ⟨λ_ _ h=>h,λ_ _ _ _ _ _ _ h=>by simp at h,λL s n get h=>(S.obj L _ h).1,λ_ _ _ _ _ _ _ _ _ _ h=>by simp at h,
  λ_ _ _ _ _ _ _ _ h=>by simp at h,λL l h=>S.obj L _ h,λb hb o ho=>by rw[hb]at ho;cases ho⟩
def kO(g:Gh)(L:Nat):AO→List Nat|.box _ _=>[g.bk L]|.vec _ _ _ _ _=>(g.sv L).ownBlock.toList|.mo _ _ _ _ _=>[pU (g.sv L)]|_=>[]
theorem Tu{L:Nat}{o:AO}{b:Nat}(h:b∈kO g L o):gY g L o b:=by
 cases o with|box ty cs=>simp only[kO,mf]at h;exact h.symm|vec e s b' n get=>simpa [kO,gY]using h|mo kt vt q n F=>simp only[kO,mf]at h;exact h.symm|_=>simp[kO]at h
theorem ziH(L:Nat)(o:AO):(kO g L o).Nodup:=by
 cases o with|vec e s b' n get=>simp only[kO];cases(g.sv L).ownBlock<;>simp|_=>simp[kO]
def Xd:AO→Prop|.box _ _=>True|.vec _ _ _ _ _=>True|.mo _ _ _ _ _=>True|_=>False
theorem GK{L:Nat}{o:AO}{b:Nat}(ho:Xd o)(h:gY g L o b):b∈kO g L o:=by
 cases o with|box ty cs=>simp only[kO,mf];exact h.symm|vec e s b' n get=>simpa [kO,gY]using h|mo kt vt q n F=>simp only[kO,mf];exact h.symm|_=>exact ho.elim
def kB(g:Gh)(ob:Nat->Option AO)(L:Nat):List Nat:=match ob L with|some o=>kO g L o|none=>[]
theorem ML{α:Type}{f:α→List Nat}:∀{l:List α},l.Nodup→(∀x∈l,(f x).Nodup)→(∀x y b,x∈l→y∈l→b∈f x→b∈f y→x=y)→(l.flatMap f).Nodup
  | [],_,_,_=>by simp
  | x::l,hn,h1,h2=>by
    rw[oG,qjO];obtain⟨hx,hl⟩:=qdx.1 hn;refine⟨h1 x kH,ML hl (λy hy=>h1 y (jM _ hy)) (λy z b hy hz=>h2 y z b (jM _ hy) (jM _ hz)),?_⟩;intro b hb c hc e;subst e;obtain⟨y,hy,hby⟩:=mg.1 hc;exact hx (by rw[h2 x y b kH (jM _ hy) hb hby];exact hy)
theorem GL{α:Type}{f:α→List Nat}:∀{l:List α},(l.flatMap f).Nodup→∀x y b,x∈l→y∈l→b∈f x→b∈f y→x=y
  | [],_,_,_,_,hx,_,_,_=>by simp at hx
  | z::l,hn,x,y,b,hx,hy,h1,h2=>by
    rw[oG,qjO]at hn;obtain⟨_,hl,hd⟩:=hn;rcases jV.1 hx with ex|yP<;>rcases jV.1 hy with ey|hy'
    rw[ex,ey];rw[ex]at h1;exact(hd b h1 b (mg.2 ⟨y,hy',h2⟩) rfl).elim;rw[ey]at h2;exact(hd b h2 b (mg.2 ⟨x,yP,h1⟩) rfl).elim;exact GL hl x y b yP hy' h1 h2
theorem ni:∀{l:List Nat},lS l=true→l.Nodup
  | [],_=>qjI
  | x::l,h=>by
    simp only[lS,fQ,JS]at h;exact qdx.2 ⟨by simpa using h.1,ni h.2⟩
def zaM [dD](g:Gh)(sf:lD):Prop:=∀f np ls,sf=some (f,np,ls)->dD.f=f/\dD.np=np/\dD.bs=ls.map g.bk
theorem zcV:∀{caps:List uw}{ls:List Nat}{cv:List Value},Lh caps ls=true→RL (JA g) caps cv→cv=(ls.map g.bk).map yD
  | [],[],[],_,_=>rfl
  | [],[],_::_,_,h=>h.elim
  | [],_::_,_,h,_=>by cases h
  | .v _::_,[],_,h,_=>by cases h
  | .v _::_,_::_,_,h,_=>by cases h
  | .b _::_,[],_,h,_=>by cases h
  | .b _::_,_::_,[],_,h=>h.elim
  | .b L::caps,M::ls,v::cv,h,hr=>by
    simp only[Lh,fQ]at h;have e:=lu h.1;subst e;rw[lM,lM,<- zcV h.2 hr.2];have:=hr.1;simp only[JA]at this;rw[this];rfl
theorem Xe:∀{caps:List uw}{ls:List Nat},Lh caps ls=true→RL (JA g) caps ((ls.map g.bk).map yD)
  | [],[],_=>trivial
  | [],_::_,h=>by cases h
  | .v _::_,[],h=>by cases h
  | .v _::_,_::_,h=>by cases h
  | .b _::_,[],h=>by cases h
  | .b L::caps,M::ls,h=>by
    simp only[Lh,fQ]at h;have e:=lu h.1;subst e;exact⟨rfl,Xe h.2⟩
theorem Xf{sf:lD}{f:FuncId}{caps:List uw}{x:XC}(h:zyv sf f caps=some x):∃np ls,sf=some (f,np,ls)/\Lh caps ls=true/\x=.slf f np ls.length:=by
 unfold zyv at h;split at h;rename_i f' np ls;split at h;rename_i hc;simp only[fQ]at hc;have e:=lu hc.1;subst e;simp only[bM]at h;exact⟨np,ls,rfl,hc.2,h.symm⟩;cases h;cases h
theorem zcW [dD]{sf:lD}(VL:zaM g sf)(S:bU P nt B w0 h0 g σ a w):∀{cells:List Cl}{cs:List XC}{ms:List Nat}{vs:List Value},iY sf (lk σ.ax) cells=some (cs,ms)->RL (jk g) cells vs ->
  RL (xcR P g.h w B) cs vs/\vM cs vs=ms.flatMap (kB g (lk σ.ax))/\∀M∈ms,∃o,lk σ.ax M=some o/\Xd o
 | [],cs,ms,[],h,_=>by
  simp only[iY,bM,gq]at h;obtain⟨rfl,rfl⟩:=h;exact⟨trivial,rfl,λM hM=>by simp at hM⟩
 | [],_,_,_::_,_,hr=>hr.elim
 | _::_,_,_,[],_,hr=>hr.elim
 | c::cells,cs,ms,v::vs,h,hr=>by
  simp only[iY]at h;split at h;rename_i l ms' h1;obtain⟨i1,i2,i3⟩:=zcW VL S h1 hr.2;split at h;rename_i p;simp only[bM,gq]at h;obtain⟨rfl,rfl⟩:=h;exact⟨⟨hr.1,i1⟩,by simp only[vM,xcK,Qr];exact i2,i3⟩;rename_i M;split at h;rename_i e s b n get hM;simp only[bM,gq]at h;obtain⟨rfl,rfl⟩:=h;obtain⟨hp,hi,hx⟩:=S.obj M _ hM;have hv:v=g.sv M:=hr.1.1;refine⟨⟨⟨hr.1.2,hp,hi,by rw[hv];exact hx⟩,i1⟩,?_,λK hK=>?_⟩;simp only [vM,xcK,oG,i2,hv];rw[show kB g (lk σ.ax) M=(g.sv M).ownBlock.toList by simp only[kB,hM,kO]];rcases jV.1 hK with e|hK
  rw[e];exact⟨_,hM,trivial⟩;exact i3 K hK;cases h;rename_i M;split at h;rename_i kt vt q n F hM;simp only[bM,gq]at h;obtain⟨rfl,rfl⟩:=h;obtain⟨es,clock,hh,hx⟩:=S.obj M _ hM;have hv:v=.map (some (pU (g.sv M))):=hr.1;refine⟨⟨⟨_,es,clock,hv,hh,hx⟩,i1⟩,?_,λK hK=>?_⟩;simp only [vM,xcK,oG,i2,hv];rw[show kB g (lk σ.ax) M=[pU (g.sv M)]by simp only[kB,hM,kO]];rfl;rcases jV.1 hK with e|hK
  rw[e];exact⟨_,hM,trivial⟩;exact i3 K hK;cases h;split at h;rename_i x hx;simp only[bM,gq]at h;obtain⟨rfl,rfl⟩:=h;obtain⟨np,ls,e1,e2,rfl⟩:=Xf hx;obtain⟨q1,q2,q3⟩:=VL _ _ _ e1;obtain⟨cv,hv,hcv⟩:=hr.1;refine⟨⟨⟨q1.symm,q2.symm,by rw[q3,VM],by rw[hv,zcV e2 hcv,<- q1,<- q3];rfl⟩,i1⟩,by simp only[vM,xcK,Qr];exact i2,i3⟩;cases h;cases h;cases h
def isB(ob:Nat->Option AO)(L:Nat):Prop:=∃o,ob L=some o/\Xd o
theorem ziI [dD]{sf:lD}(S:bU P nt B w0 h0 g σ a w)(VL:zaM g sf){d:DV}{x:XA}{ls ms:List Nat}{v:Value}(h:Bd sf (lk σ.ax) d=some (x,ls,ms))(hr:rW g d v) :
  Af P g.h w B x v/\WF w x v=ls.flatMap (kB g (lk σ.ax))/\∀L∈ls,isB (lk σ.ax) L:=by
 have data:tu (lk σ.ax) d=some (x,ls,ms)->Af P g.h w B x v/\WF w x v=ls.flatMap (kB g (lk σ.ax))/\∀L∈ls,isB (lk σ.ax) L:=by
  intro h;unfold tu at h;split at h;rename_i y hy;simp only[bM,gq]at h;obtain⟨rfl,rfl,rfl⟩:=h;exact⟨S.frozen0.repD hy (λ_ h=>h) hr,rfl,λL hL=>by simp at hL⟩;cases h
 unfold Bd at h;split at h;rename_i L;split at h;rename_i ty cells hL;split at h;rename_i cs ms' hc;simp only[bM,gq]at h;obtain⟨rfl,rfl,rfl⟩:=h;obtain⟨C,hC,VJ⟩:=S.obj L _ hL;obtain⟨i1,i2,i3⟩:=zcW VL S hc VJ;have hv:v=.pointer (some ⟨g.bk L,0,none⟩):=hr;subst hv;refine⟨⟨_,C,rfl,hC,i1⟩,?_,λK hK=>?_⟩;simp only [WF,hC,oG,i2];rw[show kB g (lk σ.ax) L=[g.bk L]by simp only[kB,hL,kO]];rfl;rcases jV.1 hK with e|hK
 rw[e];exact⟨_,hL,trivial⟩;exact i3 K hK;cases h;exact data h;exact data h
theorem zcX [dD]{sf:lD}(S:bU P nt B w0 h0 g σ a w)(VL:zaM g sf):∀{ds:List DV}{xs:List XA}{ls ms:List Nat}{vs:List Value},kD sf (lk σ.ax) ds=some (xs,ls,ms)->RL (rW g) ds vs ->
  RL (Af P g.h w B) xs vs/\nO w xs vs=ls.flatMap (kB g (lk σ.ax))/\∀L∈ls,isB (lk σ.ax) L
 | [],xs,ls,ms,[],h,_=>by
  simp only[kD,bM,gq]at h;obtain⟨rfl,rfl,rfl⟩:=h;exact⟨trivial,rfl,λL hL=>by simp at hL⟩
 | [],_,_,_,_::_,_,hr=>hr.elim
 | _::_,_,_,_,[],_,hr=>hr.elim
 | d::ds,xs,ls,ms,v::vs,h,hr=>by
  simp only[kD]at h;split at h;rename_i x bl m1 xs' bls m2 h1 h2;simp only[bM,gq]at h;obtain⟨rfl,rfl,rfl⟩:=h;obtain⟨i1,i2,i3⟩:=ziI S VL h1 hr.1;obtain⟨j1,j2,j3⟩:=zcX S VL h2 hr.2;refine⟨⟨i1,j1⟩,by simp only[nO,i2,j2,qdT],λL hL=>?_⟩;rcases dR.1 hL with h|h
  exact i3 L h;exact j3 L h;cases h
theorem IL(S:bU P nt B w0 h0 g σ a w){ls:List Nat}(hn:ls.Nodup):(ls.flatMap (kB g (lk σ.ax))).Nodup:=by
 refine ML hn (λL _=>?_) λL L' b _ _ h1 h2=>?_;unfold kB;split;exact ziH L _;exact qjI;unfold kB at h1 h2;split at h1;rename_i o ho;split at h2;rename_i o' kV;exact S.sep L o b L' o' ho kV (Tu h1) (Tu h2);simp at h2;simp at h1
def cN:List Cl→List Value→List (Nat×Value)|.vec M::cs,v::vs=>(M,v)::cN cs vs|.mo M::cs,v::vs=>(M,v)::cN cs vs|_::cs,_::vs=>cN cs vs|_,_=>[]
def aN(w:World)(ob:Nat->Option AO)(d:DV)(v:Value):List (Nat×Value) :=
 match d,v with
 | .one (.c (.ptr L 0)),.pointer (some a)=>match ob L,w.heap[a.block]? with|some (.box _ cells),some (.cells C _ _)=>cN cells C.toList|_,_=>[]
 | _,_=>[]
def asN(w:World)(ob:Nat→Option AO):List DV→List Value→List (Nat×Value)|d::ds,v::vs=>aN w ob d v++asN w ob ds vs|_,_=>[]
theorem pW{sf:lD}{ob:Nat->Option AO}{L:Nat}:Bd sf ob (.one (.c (.ptr L 0)))=match ob L with
  | some (.box ty cells)=>match iY sf ob cells with|some (cs,ms)=>some (.box ty cs,L::ms,ms)|none=>none
  | _=>tu ob (.one (.c (.ptr L 0))):=rfl
section put
variable [dD]{sf:lD}{h':Fz}{w':World}{g':Gh}(hh:g'.h=h')(ut:∀M,g'.bk M=g.bk M)(VL:zaM g' sf)
include hh VL
theorem DX:∀{cells l:List Cl}{ys cs:List XC}{u:List (Nat×AO)}{ls:List Nat}{vs:List Value},iw cells ys=some (l,u)->iY sf (lk σ.ax) cells=some (cs,ls)->RL (xcR P h' w' B) ys vs->(∀x∈cN cells vs,g'.sv x.1=x.2) ->
  RL (jk g') l vs/\(∀x∈u,Xd x.2/\dS x.2=[]/\Pz P g' w' B x.1 x.2)/\vM ys vs=u.flatMap (λx=>kO g' x.1 x.2)/\u.map (·.1)=ls/\(cN cells vs).map (·.1)=ls/\∀M∈l.flatMap bg,M∈cells.flatMap bg
 | [],l,[],cs,u,ls,vs,h,h2,hr,_=>by
  simp only[iw,bM,gq]at h;obtain⟨rfl,rfl⟩:=h;simp only[iY,bM,gq]at h2;obtain⟨rfl,rfl⟩:=h2;cases vs with|nil=>exact⟨trivial,λx hx=>by simp at hx,rfl,rfl,rfl,λM hM=>hM⟩|cons=>exact hr.elim
 | c::cells,l,y::ys,cs,u,ls,[],h,h2,hr,_=>hr.elim
 | c::cells,l,y::ys,cs,u,ls,v::vs,h,h2,hr,mO=>by
  unfold iw at h;split at h;rename_i e;simp at e;rename_i p zcq q qx e1 e2;simp only[Du]at e1 e2;obtain⟨rfl,rfl⟩:=e1;obtain⟨rfl,rfl⟩:=e2;split at h;rename_i l1 u1 hp;simp only[bM,gq]at h;obtain⟨rfl,rfl⟩:=h;simp only[iY]at h2;split at h2;rename_i c1 m1 hc;simp only[bM,gq]at h2;obtain⟨rfl,rfl⟩:=h2;obtain⟨i1,i2,i3,i4,i5,i6⟩:=DX hp hc hr.2 (λx hx=>mO x hx);refine⟨⟨by have:=hr.1;show Rep g'.h q v;rw[hh];exact this,i1⟩,i2,by simp only[vM,xcK,Qr];exact i3,i4,i5,λM hM=>?_⟩;simp only[oG,bg,Qr]at hM ⊢;exact i6 M hM;cases h2;cases h;rename_i M zcq e s b n get qx e1 e2;simp only[Du]at e1 e2;obtain⟨rfl,rfl⟩:=e1;obtain⟨rfl,rfl⟩:=e2;split at h;rename_i l1 u1 hp;simp only[bM,gq]at h;obtain⟨rfl,rfl⟩:=h;simp only[iY]at h2;split at h2;rename_i c1 m1 hc;split at h2;simp only [bM,gq]at h2;obtain⟨rfl,rfl⟩:=h2;obtain⟨i1,i2,i3,i4,i5,i6⟩:=DX hp hc hr.2 (λx hx=>mO x (jM _ hx));have hv:g'.sv M=v:=mO (M,v) kH;obtain⟨h1,hp1,hi1,hx1⟩:=hr.1;refine⟨⟨⟨hv.symm,h1⟩,i1⟩,λx hx=>?_,?_,by simp[i4],by simp[cN,i5],λK hK=>?_⟩;rcases jV.1 hx with e|hx
  subst e;refine⟨trivial,rfl,hp1,hi1,?_⟩;show Be g'.h w' B e s (g'.sv M) n get;rw[hv,hh];exact hx1;exact i2 x hx;simp only[vM,xcK,oG,kO,hv,i3];simp only [oG,dR]at hK ⊢;exact hK.imp_right (i6 K);cases h2;cases h2;cases h;rename_i M zcq kt vt q n F qx e1 e2;simp only[Du]at e1 e2;obtain⟨rfl,rfl⟩:=e1;obtain⟨rfl,rfl⟩:=e2;split at h;rename_i l1 u1 hp;simp only[bM,gq]at h;obtain⟨rfl,rfl⟩:=h;simp only[iY]at h2;split at h2;rename_i c1 m1 hc;split at h2;simp only [bM,gq]at h2;obtain⟨rfl,rfl⟩:=h2;obtain⟨i1,i2,i3,i4,i5,i6⟩:=DX hp hc hr.2 (λx hx=>mO x (jM _ hx));have hv:g'.sv M=v:=mO (M,v) kH;obtain⟨b,es,clock,h1,hh1,hx1⟩:=hr.1;subst h1;have hb:pU (g'.sv M)=b:=by rw[hv];rfl
  refine⟨⟨by show Value.map (some b)=.map (some (pU (g'.sv M)));rw[hb],i1⟩,λx hx=>?_,?_,by simp[i4],by simp[cN,i5],λK hK=>?_⟩;rcases jV.1 hx with e|hx
  subst e;exact⟨trivial,rfl,es,clock,by rw[hb];exact hh1,hx1⟩;exact i2 x hx;simp only[vM,xcK,oG,kO,hb,i3];rfl;simp only [oG,dR]at hK ⊢;exact hK.imp_right (i6 K);cases h2;cases h2;cases h;rename_i f caps zcq f2 np2 n2 qx e1 e2;simp only[Du]at e1 e2;obtain⟨rfl,rfl⟩:=e1;obtain⟨rfl,rfl⟩:=e2;split at h;rename_i l1 u1 hp;simp only[bM,gq]at h;obtain⟨rfl,rfl⟩:=h;simp only[iY]at h2;split at h2;rename_i c1 m1 hc;split at h2;rename_i x hx;simp only[bM,gq]at h2;obtain⟨rfl,rfl⟩:=h2;obtain⟨i1,i2,i3,i4,i5,i6⟩:=DX hp hc hr.2 (λx hx=>mO x hx);obtain⟨np,ls,e1,e2,rfl⟩:=Xf hx;obtain⟨q1,q2,q3⟩:=VL _ _ _ e1;obtain⟨_,_,_,hv⟩:=hr.1;refine⟨⟨⟨(ls.map g'.bk).map yD,by rw[hv,<- q1,<- q3];rfl,Xe e2⟩,i1⟩,i2,by simp only[vM,xcK,Qr];exact i3,i4,i5,λM hM=>?_⟩;simp only[oG,dR]at hM ⊢;exact hM.imp_right (i6 M);cases h2;cases h2;cases h;cases h
 | [],_,_::_,_,_,_,_,h,_,_,_=>by simp[iw]at h
 | _::_,_,[],_,_,_,_,h,_,_,_=>by simp[iw]at h
include ut
theorem zyQ(S:bU P nt B w0 h0 g σ a w){d:DV}{x y:XA}{u:List (Nat×AO)}{ls ms:List Nat}{v:Value}(h:Jy (lk σ.ax) d y=some u)(h2:Bd sf (lk σ.ax) d=some (x,ls,ms))(hd:rW g d v)(hr:Af P h' w' B y v)
    (mO:∀x∈aN w' (lk σ.ax) d v,g'.sv x.1=x.2) :
    (∀x∈u,Xd x.2/\(∀M∈dS x.2,∃o',lk σ.ax M=some o')/\Pz P g' w' B x.1 x.2)/\WF w' y v=u.flatMap (λx=>kO g' x.1 x.2)/\u.map (·.1)=ls/\(aN w' (lk σ.ax) d v).map (·.1)=ms:=by
  have data:tu (lk σ.ax) d=some (x,ls,ms)->ls=[]/\ms=[]:=by
    intro h;unfold tu at h;split at h;simp only[bM,gq]at h;exact⟨h.2.1.symm,h.2.2.symm⟩;cases h
  unfold Jy at h;split at h;rename_i L;split at h;rename_i ty' cells hL;rw[pW,hL]at h2;dsimp only at h2;split at h2;rename_i cs ms' hc;simp only[bM,gq]at h2;obtain⟨rfl,rfl,rfl⟩:=h2;split at h;rename_i ty Jt;split at h;rename_i l u' hty hp;simp only[bM]at h;subst h;have hty:=lu hty;subst hty;obtain⟨k,C,rfl,hC,oz⟩:=hr;have hk:k=g.bk L:=by
    have hd:Value.pointer (some ⟨k,0,none⟩)=.pointer (some ⟨g.bk L,0,none⟩):=hd;simpa using hd
  subst hk;simp only[aN,hL,hC]at mO ⊢;obtain⟨i1,i2,i3,i4,i5,i6⟩:=DX (P:=P) (B:=B) hh VL hp hc oz mO;refine⟨λx hx=>?_,?_,by simp[i4],i5⟩;rcases jV.1 hx with e|hx
  subst e;refine⟨trivial,λM hM=>S.clO L _ hL M (i6 M hM),C,?_,i1⟩;show w'.heap[g'.bk L]? = _;rw[ut];exact hC;obtain⟨j1,j2,j3⟩:=i2 x hx;exact⟨j1,λM hM=>by rw[j2]at hM;simp at hM,j3⟩;simp only[WF,hC,oG,kO,ut,i3];rfl;cases h;cases h;cases h2;rename_i wR;have hx:tu (lk σ.ax) (.one (.c (.ptr L 0)))=some (x,ls,ms):=by
    rw[pW]at h2;cases hL:lk σ.ax L with
    | none=>rw[hL]at h2;exact h2
    | some o =>
      rw[hL]at h2;cases o with|box ty cells=>exact absurd hL (wR _ _)|_=>exact h2
  obtain⟨rfl,rfl⟩:=data hx;split at h;simp only [bM]at h;subst h;refine⟨λx hx=>by simp at hx,rfl,rfl,?_⟩;have e:aN w' (lk σ.ax) (.one (.c (.ptr L 0))) v=[]:=by
    cases v with
    | pointer p=>cases p with
      | none=>rfl
      | some ad =>
        simp only[aN];cases hL:lk σ.ax L with
        | none=>rfl
        | some o =>
          cases o with|box ty cells=>exact(wR _ _ hL).elim|_=>rfl
    | _=>rfl
  rw[e];rfl;cases h;rename_i wR;have hx:tu (lk σ.ax) d=some (x,ls,ms):=by
    unfold Bd at h2;split at h2;exact(wR _ rfl).elim;exact h2
  obtain⟨rfl,rfl⟩:=data hx;split at h;simp only [bM]at h;subst h;refine⟨λx hx=>by simp at hx,rfl,rfl,?_⟩;have e:aN w' (lk σ.ax) d v=[]:=by
    unfold aN;split;exact(wR _ rfl).elim;rfl
  rw[e];rfl;cases h
theorem zcY(S:bU P nt B w0 h0 g σ a w):∀{ds:List DV}{xs ys:List XA}{u:List (Nat×AO)}{ls ms:List Nat}{vs:List Value},jW (lk σ.ax) ds ys=some u->kD sf (lk σ.ax) ds=some (xs,ls,ms)->RL (rW g) ds vs->RL (Af P h' w' B) ys vs ->
  (∀x∈asN w' (lk σ.ax) ds vs,g'.sv x.1=x.2) ->
  (∀x∈u,Xd x.2/\(∀M∈dS x.2,∃o',lk σ.ax M=some o')/\Pz P g' w' B x.1 x.2)/\nO w' ys vs=u.flatMap (λx=>kO g' x.1 x.2)/\u.map (·.1)=ls/\(asN w' (lk σ.ax) ds vs).map (·.1)=ms
 | [],xs,[],u,ls,ms,vs,h,h2,hd,hr,_=>by
  simp only[jW,bM]at h;subst h;simp only[kD,bM,gq]at h2;obtain⟨rfl,rfl,rfl⟩:=h2;cases vs with|nil=>exact⟨λx hx=>by simp at hx,rfl,rfl,rfl⟩|cons=>exact hr.elim
 | d::ds,xs,y::ys,u,ls,ms,[],h,h2,hd,hr,_=>hr.elim
 | d::ds,xs,y::ys,u,ls,ms,v::vs,h,h2,hd,hr,mO=>by
  simp only[jW]at h;split at h;rename_i u1 u2 e1 e2;simp only[bM]at h;subst h;simp only[kD]at h2;split at h2;rename_i x bl m1 xs' bls m2 h3 h4;simp only[bM,gq]at h2;obtain⟨rfl,rfl,rfl⟩:=h2;obtain⟨i1,i2,i3,i4⟩:=zcY S e2 h4 hd.2 hr.2 (λx hx=>mO x (dR.2 (.inr hx)));obtain⟨j1,j2,j3,j4⟩:=zyQ hh ut VL S e1 h3 hd.1 hr.1 (λx hx=>mO x (dR.2 (.inl hx)));exact⟨λx hx=>(dR.1 hx).elim (j1 x) (i1 x),by simp only[nO,i2,j2,qdT],by simp[i3,j3],by simp[asN,i4,j4]⟩;cases h2;cases h
 | [],_,_::_,_,_,_,_,h,_,_,_,_=>by simp[jW]at h
 | _::_,_,[],_,_,_,_,h,_,_,_,_=>by simp[jW]at h
end put
theorem GM {α : Type} : ∀ {l : List (Nat × α)} {k : Nat} {x : α}, (l.map (·.1)).Nodup → (k, x) ∈ l → lk l k = some x
  | [],_,_,_,h=>by simp at h
  | (j,y)::l,k,x,hn,h=>by
    rw[lM,qdx]at hn;rw[aV];rcases jV.1 h with e|h'
    simp only[gq]at e;rw[eU e.1.symm,e.2];rw [eY (fun e=>hn.1 (by rw [e];exact uu.2 ⟨_,h',rfl⟩))];exact GM hn.2 h'
theorem Ag{α:Type}{l:List (Nat×α)}{k:Nat}(h:k∈l.map (·.1)):∃x,lk l k=some x:=by
 cases hk:lk l k with
 | some x=>exact⟨x,rfl⟩
 | none =>
  obtain⟨⟨j,x⟩,hx,rfl⟩:=uu.1 h;exact(Tf hk x hx).elim
theorem ziJ{sf:lD}{ob:Nat->Option AO}{d:DV}{x:XA}{ls ms:List Nat}(h:Bd sf ob d=some (x,ls,ms)):∀M∈ms,M∈ls:=by
 have data:tu ob d=some (x,ls,ms)->∀M∈ms,M∈ls:=by
  intro h;unfold tu at h;split at h;simp only[bM,gq]at h;rw[<- h.2.2];exact λM hM=>by simp at hM
  cases h
 unfold Bd at h;split at h;split at h;split at h;simp only[bM,gq]at h;rw[<- h.2.1,<- h.2.2];exact λM hM=>jM _ hM;cases h;exact data h;exact data h
theorem QS{sf:lD}{ob:Nat→Option AO}:∀{ds:List DV}{xs:List XA}{ls ms:List Nat},kD sf ob ds=some (xs,ls,ms)→∀M∈ms,M∈ls
  | [],xs,ls,ms,h=>by
    simp only[kD,bM,gq]at h;rw[<- h.2.2];exact λM hM=>by simp at hM
  | d::ds,xs,ls,ms,h=>by
    simp only[kD]at h;split at h;rename_i x bl m1 xs' bls m2 h1 h2;simp only[bM,gq]at h;obtain⟨rfl,rfl,rfl⟩:=h;intro M hM;exact dR.2 ((dR.1 hM).imp (ziJ h1 M) (QS h2 M));cases h
theorem Cc(x:Cl):gu [] x=x:=by cases x<;>rfl
theorem IM(x:D1):fV [] x=x:=by
 cases x with|c y=>simp only[fV,Cc]|agg cs=>simp only[fV,show gu []=id from funext Cc,qjC]
theorem zaN(x:DV):gU [] x=x:=by
 cases x with|one y=>simp only[gU,IM]|tup ds=>simp only[gU,show fV []=id from funext IM,qjC]
theorem zaO(x:AO):fE [] x=x:=by
 cases x with|box ty cs=>simp only[fE,show gu []=id from funext Cc,qjC]|_=>rfl
theorem MM{α:Type}{f:α→α}(hf:∀x,f x=x):∀l:List (Nat×α),kills f l=l|[]=>rfl|(k,x)::l=>by simp only[kills,hf x,MM hf l]
theorem Tv{dst:Option Nat}{fp:List (Nat×Bool)}{d:DV}{u:List (Nat×AO)}{ms:List Nat} :
  σ.upd i dst fp d u ms=⟨zaB dst d (kills (gU ms) σ.env),u++kills (fE ms) σ.ax,σ.log⟩:=by
 cases ms with|nil=>rw[fZ,MM zaN,MM zaO]|cons L r=>cases dst<;>rfl
theorem zcZ [dD] {sf : lD} {ob : Nat → Option AO} {h' : Fz} {w' : World} : ∀ {cells : List Cl} {l : List Cl} {ys cs : List XC} {u : List (Nat × AO)} {ms : List Nat} {vs : List Value}, iw cells ys = some (l, u) → iY sf ob cells = some (cs, ms) → RL (xcR P h' w' B) ys vs → (cN cells vs).map (·.1) = ms
  | [],l,ys,cs,u,ms,vs,h,h2,hr=>by
    simp only[iY,bM,gq]at h2;rw[<- h2.2];cases vs<;>rfl
  | c::cells,l,[],cs,u,ms,vs,h,h2,hr=>by simp[iw]at h
  | c::cells,l,y::ys,cs,u,ms,[],h,h2,hr=>hr.elim
  | c::cells,l,y::ys,cs,u,ms,v::vs,h,h2,hr=>by
    have hx:∃l1 u1,iw cells ys=some (l1,u1):=by
      unfold iw at h;split at h;rename_i e;simp at e;rename_i e1 e2;simp only[Du]at e1 e2;obtain⟨rfl,rfl⟩:=e1;obtain⟨rfl,rfl⟩:=e2;split at h;rename_i hp;exact⟨_,_,hp⟩;cases h;rename_i e1 e2;simp only[Du]at e1 e2;obtain⟨rfl,rfl⟩:=e1;obtain⟨rfl,rfl⟩:=e2;split at h;rename_i hp;exact⟨_,_,hp⟩;cases h;rename_i e1 e2;simp only[Du]at e1 e2;obtain⟨rfl,rfl⟩:=e1;obtain⟨rfl,rfl⟩:=e2;split at h;rename_i hp;exact⟨_,_,hp⟩;cases h;rename_i e1 e2;simp only[Du]at e1 e2;obtain⟨rfl,rfl⟩:=e1;obtain⟨rfl,rfl⟩:=e2;split at h;rename_i hp;exact⟨_,_,hp⟩;cases h;cases h
    obtain⟨l1,u1,hp⟩:=hx;simp only[iY]at h2;split at h2;rename_i c1 m1 hc;have ih:=zcZ hp hc hr.2;split at h2;simp only[bM,gq]at h2;rw[<- h2.2];exact ih;split at h2;simp only[bM,gq]at h2;rw[<- h2.2];simp only[cN,lM,ih];cases h2;split at h2;simp only[bM,gq]at h2;rw[<- h2.2];simp only[cN,lM,ih];cases h2;split at h2;simp only[bM,gq]at h2;rw[<- h2.2];exact ih;cases h2;cases h2;cases h2
theorem zpf [dD]{sf:lD}{ob:Nat->Option AO}{h':Fz}{w':World}{d:DV}{x y:XA}{u:List (Nat×AO)}{ls ms:List Nat}{v:Value}(h:Jy ob d y=some u)(h2:Bd sf ob d=some (x,ls,ms))(hr:Af P h' w' B y v):(aN w' ob d v).map (·.1)=ms:=by
 have data:tu ob d=some (x,ls,ms)->ms=[]:=by
  intro h;unfold tu at h;split at h;simp only[bM,gq]at h;exact h.2.2.symm;cases h
 unfold Jy at h;split at h;rename_i L;split at h;rename_i ty' cells hL;rw[pW,hL]at h2;dsimp only at h2;split at h2;rename_i cs ms' hc;simp only[bM,gq]at h2;obtain⟨rfl,rfl,rfl⟩:=h2;split at h;split at h;rename_i l u' hty hp;obtain⟨k,C,rfl,hC,oz⟩:=hr;simp only[aN,hL,hC];exact zcZ hp hc oz;cases h;cases h;cases h2;rename_i wR;have hx:tu ob (.one (.c (.ptr L 0)))=some (x,ls,ms):=by
  rw[pW]at h2;cases hL:ob L with
  | none=>rw[hL]at h2;exact h2
  | some o =>
   rw[hL]at h2;cases o with|box ty cells=>exact absurd hL (wR _ _)|_=>exact h2
 rw[data hx];have e:aN w' ob (.one (.c (.ptr L 0))) v=[]:=by
  cases v with
  | pointer p=>cases p with
   | none=>rfl
   | some ad =>
    simp only[aN];cases hL:ob L with
    | none=>rfl
    | some o =>
     cases o with|box ty cells=>exact absurd hL (wR _ _)|_=>rfl
  | _=>rfl
 rw[e];rfl;rename_i wR;have hx:tu ob d=some (x,ls,ms):=by
  unfold Bd at h2;split at h2;exact(wR _ rfl).elim;exact h2
 rw[data hx];have e:aN w' ob d v=[]:=by
  unfold aN;split;exact(wR _ rfl).elim;rfl
 rw[e];rfl
theorem Xg [dD] {sf : lD} {ob : Nat → Option AO} {h' : Fz} {w' : World} : ∀ {ds : List DV} {xs ys : List XA} {u : List (Nat × AO)} {ls ms : List Nat} {vs : List Value}, jW ob ds ys = some u → kD sf ob ds = some (xs, ls, ms) → RL (Af P h' w' B) ys vs → (asN w' ob ds vs).map (·.1) = ms
  | [],xs,ys,u,ls,ms,vs,h,h2,hr=>by
    simp only[kD,bM,gq]at h2;rw[<- h2.2.2];cases vs<;>rfl
  | d::ds,xs,[],u,ls,ms,vs,h,h2,hr=>by simp[jW]at h
  | d::ds,xs,y::ys,u,ls,ms,[],h,h2,hr=>hr.elim
  | d::ds,xs,y::ys,u,ls,ms,v::vs,h,h2,hr=>by
    simp only[jW]at h;split at h;rename_i u1 u2 e1 e2;simp only[kD]at h2;split at h2;rename_i x bl m1 xs' bls m2 h3 h4;simp only[bM,gq]at h2;rw[<- h2.2.2];simp only[asN,Qn,zpf e1 h3 hr.1,Xg e2 h4 hr.2];cases h2;cases h
theorem zc0:∀{caps:List uw}{ls:List Nat}{cv:List Value},Wx caps=some ls→RL (JA g) caps cv→∀(k L:Nat),ls[k]? = some L→cv[k]? = some (yD (g.bk L))
  | [],ls,cv,h,hr,k,L,hk=>by simp only[Wx,bM]at h;subst h;simp at hk
  | .v _::_,ls,cv,h,hr,k,L,hk=>by cases h
  | .b M::caps,ls,[],h,hr,k,L,hk=>hr.elim
  | .b M::caps,ls,v::cv,h,hr,k,L,hk=>by
    simp only[Wx]at h;split at h
    · rename_i l hl;simp only[bM]at h;subst h;cases k with
      | zero =>
        simp only[qdG,bM]at hk ⊢;subst hk;exact hr.1
      | succ k =>
        rw[dqN]at hk ⊢;exact zc0 hl hr.2 k L hk
    cases h
theorem ziK{gf np:Nat}{caps:List uw}{cv pre:List Value}(hr:RL (JA g) caps cv)(hp:pre.length=np):∀f np' ls,zeY gf np caps=some (f,np',ls)->∀(k L:Nat),ls[k]? = some L->(pre++cv)[np'+k]? = some (yD (g.bk L)):=by
 intro f np' ls h k L hk;unfold zeY at h;split at h;rename_i l hl;simp only[bM,gq]at h;obtain⟨rfl,rfl,rfl⟩:=h;rw[List.getElem?_append_right omY,show np+k-pre.length=k by omega];exact zc0 hl hr k L hk;cases h
theorem QT:∀{cells l:List Cl}{ys:List XC}{u:List (Nat×AO)},iw cells ys=some (l,u)→l.length=cells.length∧(∀x∈u,lF x.2=false)∧∀f caps,l=[.clo f caps]→cells=[.clo f caps]
  | [],l,ys,u,h=>by
    cases ys with
    | nil =>
      simp only[iw,bM,gq]at h;obtain⟨rfl,rfl⟩:=h;exact⟨rfl,λx hx=>by simp at hx,λf caps e=>by cases e⟩
    | cons y ys=>simp[iw]at h
  | c::cells,l,ys,u,h=>by
    cases ys with
    | nil=>cases c<;>simp[iw]at h
    | cons y ys =>
      have ih:=λl' u' h'=>@QT cells l' ys u' h'
      have vc:∀(M:Nat)(o:AO)(l':List Cl)(u':List (Nat×AO))(c':Cl),lF o=false->(∀f caps,c' ≠ .clo f caps)->iw cells ys=some (l',u') ->
          (c'::l').length=(c::cells).length/\(∀x∈(M,o)::u',lF x.2=false)/\∀f caps,c'::l'=[.clo f caps]->c::cells=[.clo f caps]:=λM o l' u' c' ho hc h'=>by
        obtain⟨i1,i2,i3⟩:=ih l' u' h';refine⟨by simp[i1],λx hx=>?_,λf caps e=>(hc f caps (List.cons.inj e).1).elim⟩;rcases jV.1 hx with rfl|hx
        exact ho;exact i2 x hx
      cases c with
      | p v =>
        cases y with
        | p v' =>
          simp only[iw]at h;split at h;rename_i l' u' h';simp only[bM,gq]at h;obtain⟨rfl,rfl⟩:=h;obtain⟨i1,i2,i3⟩:=ih l' u' h';exact⟨by simp[i1],i2,λf caps e=>by cases e⟩;cases h
        | _=>simp[iw]at h
      | vec M =>
        cases y with
        | vec e s b n get =>
          simp only[iw]at h;split at h;rename_i l' u' h';simp only[bM,gq]at h;obtain⟨rfl,rfl⟩:=h;exact vc M _ l' u' _ rfl (λ_ _ e=>by cases e) h';cases h
        | _=>simp[iw]at h
      | mo M =>
        cases y with
        | mo kt vt q n F =>
          simp only[iw]at h;split at h;rename_i l' u' h';simp only[bM,gq]at h;obtain⟨rfl,rfl⟩:=h;exact vc M _ l' u' _ rfl (λ_ _ e=>by cases e) h';cases h
        | _=>simp[iw]at h
      | clo f0 z2j =>
        cases y with
        | slf f2 np2 n2 =>
          simp only[iw]at h;split at h;rename_i l' u' h';simp only[bM,gq]at h;obtain⟨rfl,rfl⟩:=h;obtain⟨i1,i2,i3⟩:=ih l' u' h';refine⟨by simp[i1],i2,λf caps e=>?_⟩;obtain⟨e3,e4⟩:=List.cons.inj e;subst e4;rw[e3,qdD i1.symm];cases h
        | _=>simp[iw]at h
      | _=>cases y<;>simp[iw]at h
theorem QU{ob:Nat→Option AO}:∀{ds:List DV}{ys:List XA}{u:List (Nat×AO)},jW ob ds ys=some u→∀x∈u,lF x.2=true→ob x.1=some x.2
  | [],[],u,h=>by simp only[jW,bM]at h;subst h;intro x hx;simp at hx
  | [],_::_,_,h=>by simp[jW]at h
  | _::_,[],_,h=>by simp[jW]at h
  | d::ds,y::ys,u,h=>by
    simp only[jW]at h;split at h;rename_i u1 u2 e1 e2;simp only[bM]at h;subst h;intro x hx hc;rcases dR.1 hx with hx|hx
    unfold Jy at e1;split at e1;split at e1;rename_i L ty' cells hL;split at e1;rename_i ty cs;split at e1;rename_i l u' hty Qk;simp only[bM]at e1;subst e1;obtain⟨_,h1,h2⟩:=QT Qk;rcases jV.1 hx with rfl|hx
    have ht:=lu hty;subst ht;unfold lF at hc;split at hc;rename_i ty2 f caps e3;simp only[AO.box.injEq]at e3;obtain⟨rfl,rfl⟩:=e3;rw[hL,h2 f caps rfl];cases hc;rw[h1 x hx]at hc;cases hc;cases e1;cases e1;split at e1;simp only[bM]at e1;subst e1;simp at hx;cases e1;split at e1;simp only[bM]at e1;subst e1;simp at hx;cases e1;exact QU e2 x hx hc;cases h
theorem zfo{ms:List Nat}{o:AO}(h:lF o=true):fE ms o=o:=by
 unfold lF at h;split at h;rfl;cases h
theorem ziM{α:Type}{f:α->α}{l:List (Nat×α)}{n:Nat}:lk (kills f l) n=(lk l n).map f:=by
 induction l with
 | nil=>rfl
 | cons x l ih =>
  obtain⟨k,a⟩:=x;rw[kills,aV,aV,ih];split<;>rfl
theorem QV : ∀ {u rest : List (Nat × AO)}, (u.map (·.1)).Nodup → (∀ x ∈ u, lF x.2 = true → lk rest x.1 = some x.2) → ∀ L : Nat, lk ((u.filter fun x => !lF x.2) ++ rest) L = lk (u ++ rest) L
  | [],_,_,_,_=>rfl
  | (k,o)::u,rest,hn,h,L=>by
    rw[lM,qdx]at hn;have ih:=QV hn.2 (λy hy=>h y (jM _ hy)) L;cases hc:lF o with
    | false =>
      rw[List.filter_cons_of_pos (by simp[hc]),qdW,qdW,aV,aV,ih]
    | true =>
      rw[List.filter_cons_of_neg (by simp[hc]),qdW,aV,ih];split
      · rename_i e;subst e;have h0:=h (k,o) kH hc;rw[gZ];cases hu:lk u k with|none=>exact h0|some o2=>exact(hn.1 (uu.2 ⟨_,fK hu,rfl⟩)).elim
      rfl
theorem bU.objs_congr(S:bU P nt B w0 h0 g σ a w){l:List (Nat×AO)}(h:∀L,lk l L=lk σ.ax L):bU P nt B w0 h0 g {σ with ax:=l} a w :=
 ⟨S.dfr,S.size,S.env,λL o ho=>S.obj L o (by rw[<- h];exact ho),λL o b ho=>S.own L o b (by rw[<- h];exact ho),
  λL o b L' o' ho kV=>S.sep L o b L' o' (by rw[<- h];exact ho) (by rw[<- h];exact kV),S.hw,S.le0,S.hn,S.below,S.bs,
  λt d ht L hL=>by rw[h];exact S.clE t d ht L hL,λL o ho M hM=>by rw[h];exact S.clO L o (by rw[<- h];exact ho) M hM⟩
theorem Xh{sf:lD}{gf:FuncId}{C:MK}{ds:List DV}{vals:List Value}(BN:jw P Γ)(S:bU P nt B w0 h0 g σ a w)
    (hC:Γ.mt gf=some C) (Qm:RL (rW g) ds vals)
    (kK:∀f np ls,sf=some (f,np,ls)->∀(k L:Nat),ls[k]? = some L->vals[np+k]? = some (yD (g.bk L)))
    {xs ys:List XA} {ls ms:List Nat} {rs:List PA} {u:List (Nat×AO)} (has:kD sf (lk σ.ax) ds=some (xs,ls,ms)) (hCx:(C xs).o=some (rs,ys)) (Qk:jW (lk σ.ax) ds ys=some u)
    (dm:(lS ls&&Nat.ble ms.length 1&&ms.all λM=>((u.filter λx=>!lF x.2).map (·.1)).contains M)=true) (d:Option Nat) :
    dw P gf/\Calls P gf vals.toArray w λe w'=>∃g',PS g'.h rs e/\bU P nt B w0 h0 g' ⟨kills (gU ms) σ.env,u.filter (λx=>!lF x.2)++kills (fE ms) σ.ax,σ.log⟩ a w':=by
  letI:dD:=match sf with|some (f,np,ls)=>⟨f,np,ls.map g.bk⟩|none=>⟨0,0,[]⟩
  have VL:zaM g sf:=λf np ls e=>by subst e;exact⟨rfl,rfl,rfl⟩
  have mO:∀k b,(dD.bs)[k]? = some b->vals[dD.np+k]? = some (yD b):=by
    cases sf with
    | none=>intro k b hk;have hk:([]:List Nat)[k]? = some b:=hk;simp at hk
    | some y =>
      obtain⟨f,np,ls⟩:=y;intro k b hk;have hk:(ls.map g.bk)[k]? = some b:=hk;rw[qde]at hk;obtain⟨L,hL,rfl⟩:=dqP.1 hk;exact kK f np ls rfl k L hL
  have zn2:=dm;simp only[fQ,VT]at zn2;have dm:=zn2.1;obtain⟨x1,x2,x3⟩:=zcX S VL has Qm;have hkb:∀b∈nO w xs vals,∃L∈ls,∃o',lk σ.ax L=some o'/\gY g L o' b:=λb hb=>by
    rw[x2]at hb;obtain⟨L,hL,hb⟩:=mg.1 hb;unfold kB at hb;split at hb;rename_i o' kV;exact⟨L,hL,o',kV,Tu hb⟩;simp at hb
  obtain⟨fM,xg⟩:=BN.mt gf C hC xs ys rs hCx w g.h B vals x1 mO (by rw[x2];exact IL S (ni dm.1)) (λb hb=>by
    obtain⟨L,_,o',h1,h2⟩:=hkb b hb;exact S.own L o' b h1 h2) S.hw S.bs
  refine⟨fM,xg.mono ?_⟩;rintro e w' ⟨h',qm,hys,zOa,jh,hle,KJ,hn',hX⟩;let nv:=asN w' (lk σ.ax) ds vals;let g':Gh:=⟨h',g.bk,λM=>match lk nv M with|some x=>x|none=>g.sv M,g.iv⟩;have zSe:ms.Nodup:=by
    match ms,dm.2 with|[],_=>exact qjI|[x],_=>simp|_::_::_,h=>simp at h
  have SB:nv.map (·.1)=ms:=Xg Qk has hys;obtain⟨p1,p2,p3,p4⟩:=zcY (P:=P) (B:=B) (g:=g) (h':=h') (w':=w') (g':=g') rfl (λ_=>rfl) (λf np ls e=>VL f np ls e) S Qk has Qm hys (λx hx=>by
    have:=GM (l:=nv) (by rw[SB];exact zSe) (show(x.1,x.2)∈nv from hx);show(match lk nv x.1 with|some x=>x|none=>g.sv x.1)=x.2;rw[this])
  have hul:∀L∈ls,∃o',lk u L=some o':=λL hL=>Ag (by rw[p3];exact hL);have S1:=S.swap (u:=u) (kl:=ms) (K:=nO w xs vals) (g':=g') hle KJ (λ_=>rfl) (λM hM=>⟨rfl,by
      show(match lk nv M with|some x=>x|none=>g.sv M)=g.sv M;cases hk:lk nv M with|none=>rfl|some x=>exact(hM (by rw[<- SB];exact uu.2 ⟨_,fK hk,rfl⟩)).elim,rfl⟩)
    (λL hL=>by obtain⟨x,hx⟩:=hul L (QS has L hL);rw[hx];simp) hX
    (λb hb=>by obtain⟨L,hL,o',h1,h2⟩:=hkb b hb;obtain⟨x,hx⟩:=hul L hL;exact⟨L,x,o',hx,h1,h2⟩)
    (λL x hx=>(p1 _ (fK hx)).2.2)
    (λL x b hx hb=>jh b (by rw[p2];exact mg.2 ⟨_,fK hx,GK (p1 _ (fK hx)).1 hb⟩))
    (λL x b L' x' hx yP hb mP=>by
      rw[p2]at zOa;have:=GL zOa (L,x) (L',x') b (fK hx) (fK yP) (GK (p1 _ (fK hx)).1 hb) (GK (p1 _ (fK yP)).1 mP);exact jZ Prod.fst this)
    (λL x hx=>(p1 _ (fK hx)).2.1) (λb o h=>hn' b o h) σ.log
  refine⟨g',qm,S1.objs_congr λL=>QV (by rw[p3];exact ni dm.1) (λx hx hc=>?_) L⟩;rw[ziM,QU Qk x hx hc];exact jZ some (zfo hc)
theorem zc1{sf:lD}{o:Oper}{A:aC}{gf:FuncId}{C:MK}{ds:List DV}{vals:List Value}(BN:jw P Γ)(S:bU P nt B w0 h0 g σ a w)(hd:dH nt o.dst=true)(Aa:∀c,o.op ≠ .defer c)
    (hC:Γ.mt gf=some C) (df:dw P gf->(execOp a.eval o).run P w=.ok (.enter gf vals.toArray) w) (Qm:RL (rW g) ds vals)
    (kK:∀f np ls,sf=some (f,np,ls)->∀(k L:Nat),ls[k]? = some L->vals[np+k]? = some (yD (g.bk L)))
    (hA:uA C sf ds (lk σ.ax)=A) (hs:A.safe):jr P nt B w0 h0 r n i o A σ a w Q:=by
  unfold uA at hA;split at hA;rename_i xs ls ms has;split at hA;rename_i rs ys hCx;split at hA;rename_i hpm;unfold qL at hA;split at hA;rename_i u Qk;split at hA;rename_i dm;subst hA;obtain⟨fM,xg⟩:=Xh BN S hC Qm kK has hCx Qk dm none;refine rX Aa (w':=w) (f:=gf) (args:=vals.toArray) (df fM) (xg.mono ?_);rintro e w' ⟨g',qm,S1⟩;unfold PS at qm;rw[hpm]at qm;obtain⟨v,rfl,o6⟩:=qm;refine⟨v,rfl,g',_,rfl,?_⟩;rw[Tv];exact S1.put (v:=v) (d:=resD rs) hd (Tt (g:=g') o6) (λL hL=>by rw[DU]at hL;simp at hL) σ.log;subst hA;exact hs.elim;subst hA;exact hs.elim;subst hA;exact hs.elim;subst hA;exact hs.elim;subst hA;exact hs.elim
end
end Go.Pm
namespace Go.Pm
variable [aH]
open Go.RowKit (Below)
section
variable{P:Program}{Γ:bI}{nt B:Nat}{w0:World}{h0:Fz}{g:Gh}{σ:St}{a:Act}{w:World}{r:Option Nat}{n i:Nat}{Q:Exit->Act->World->Prop}
def zpg(d:DV):List Cl:=match d with | .one (.c c)=>[c]|_=>[.junk]
theorem DY (S : bU P nt B w0 h0 g σ a w) : ∀ (l : List Operand), RL (jk g) (l.flatMap fun x => zpg (fU σ.env x)) (l.map a.eval)
  | []=>trivial
  | x::r=>by
    have h:=S.ev x;simp only[oG,lM];unfold zpg;cases he:fU σ.env x with
    | one d =>
      cases d with|c c=>rw[he]at h;exact⟨h,DY S r⟩|agg cs=>exact⟨trivial,DY S r⟩
    | tup ds=>exact⟨trivial,DY S r⟩
theorem MN{h:Fz}{l:List PV}{vs:List Value}(hr:RL (Rep h) l vs):l.length=vs.length/\∀(j:Nat)(x:PV)(v:Value),l[j]? = some x->vs[j]? = some v->Rep h x v :=
 ⟨hr.length,λj x v hx hv=>by obtain⟨u,hu,ZY⟩:=hr.get j x hx;rw[hu]at hv;simp only[bM]at hv;rw[<- hv];exact ZY⟩
theorem zc2(S:bU P nt B w0 h0 g σ a w):∀(l:List Operand){cs:List uw},DD (fU σ.env) l=some cs→RL (JA g) cs (l.map a.eval)∧∀L∈lN cs,∃o,lk σ.ax L=some o
  | [],cs,h=>by simp only[DD,bM]at h;subst h;exact⟨trivial,λL hL=>by simp[lN]at hL⟩
  | x::l,cs,h=>by
    simp only[DD]at h;split at h;rename_i c Jt hc hl;simp only[bM]at h;subst h;obtain⟨i1,i2⟩:=zc2 S l hl;have hx:=S.ev x;have hxl:=S.evLab x;unfold zGR at hc;split at hc;rename_i v he;simp only[bM]at hc;subst hc;rw[he]at hx;exact⟨⟨hx,i1⟩,i2⟩;rename_i L he;simp only[bM]at hc;subst hc;rw[he]at hx hxl;refine⟨⟨hx,i1⟩,λM hM=>?_⟩;simp only[lN,jV]at hM;rcases hM with rfl|hM
    exact hxl M (by simp[bY,dC,bg]);exact i2 M hM;cases hc;cases h
theorem Tz:∀{cs:List uw}{vs:List Value},RL (JA g) cs vs→RL (rW g) (cs.map capD) vs|[],[],_=>trivial|[],_::_,h=>h.elim|_::_,[],h=>h.elim|.v _::_,_::_,h=>⟨h.1,Tz h.2⟩|.b _::_,_::_,h=>⟨h.1,Tz h.2⟩
theorem zfp{ev:Operand->DV}{fs ls:List Operand}{l:List PV}(h:Qv ev fs ls=some l):∃x cs,fs=[x]/\ls=[]/\ev x=.one (.agg cs)/\kC cs=some l:=by
 unfold Qv at h;split at h;rename_i x;split at h;rename_i cs hx;exact⟨x,cs,rfl,rfl,hx,h⟩;cases h;cases h
theorem TA{o:Oper}{f:FuncId}{first caps:Array Operand}{A:aC}(S:bU P nt B w0 h0 g σ a w)(hd:dH nt o.dst=true)(aY:o.op = .makeFunc (.func f) first caps)
    (hA:act P Γ o (fU σ.env) (lk σ.ax)=A) (hs:A.safe):jr P nt B w0 h0 r n i o A σ a w Q:=by
  simp only[act,aMf,aY]at hA;have e:∀l:Array Operand,l.map a.eval=(l.toList.map a.eval).toArray:=λl=>by cases l;simp
  split at hA;split at hA;rename_i cs hf hc;subst hA;obtain⟨i1,i2⟩:=zc2 S caps.toList hc;refine qB (by simp[aY]) (v:=.func (.func f) #[] (caps.toList.map a.eval).toArray) (w':=w) ?_ ⟨g,_,rfl,?_⟩;simp only[execOp,aY,Instr.makeFunc,Sem.run_bind,Sem.run_pure,Result.andThen_ok,e,hf,qdY];rw [fZ];exact S.put (d:=.cl (.clo f cs)) hd ⟨_,rfl,i1⟩ (λL hL=>i2 L (by simpa [bY,dC,bg]using hL)) _;subst hA;exact hs.elim;split at hA;rename_i l hb;subst hA;obtain⟨x,cs,e1,e2,hx,hl⟩:=zfp hb;have h1:=S.ev x;rw[hx]at h1;obtain⟨vs,hv,hr⟩:=h1;rw[oP hl]at hr;have hr:RL (λ(x:PV) y=>jk g (.p x) y) l vs:=RL.map_left.1 hr;have hr:RL (Rep g.h) l vs:=hr.mono λ_ _ h=>h;have r1:=MN hr;refine qB (by simp[aY]) (v:=.func (.func f) #[.agg vs.toArray] #[]) (w':=w) ?_ ⟨g,_,rfl,?_⟩;simp only[execOp,aY,Instr.makeFunc,Sem.run_bind,Sem.run_pure,Result.andThen_ok,e,e1,e2,lM,qdY,hv];rw [fZ];exact S.put (d:=.p (.fna f l)) hd (Rep.fna f l vs r1.1 r1.2) (kN _) _;split at hA;rename_i l u l' u' h1 h2;subst hA;have h1:uy (lk σ.ax) (first.toList.flatMap λx=>zpg (fU σ.env x))=some (l,u):=h1;have h2:uy (lk σ.ax) (caps.toList.flatMap λx=>zpg (fU σ.env x))=some (l',u'):=h2;obtain⟨h',S1,F⟩:=S.freeze ((JY h1).append (JY h2));have r1:=MN (F.repL h1 (λy hy=>dR.2 (.inl hy)) (DY S first.toList));have r2:=MN (F.repL h2 (λy hy=>dR.2 (.inr hy)) (DY S caps.toList));have hv:Rep h' (.fn f l l') (.func (.func f) (first.toList.map a.eval).toArray (caps.toList.map a.eval).toArray):=.fn f l l' _ _ r1.1 r2.1 r1.2 r2.2;refine qB (by simp[aY]) (v:=.func (.func f) (first.toList.map a.eval).toArray (caps.toList.map a.eval).toArray) (w':=w) ?_ ⟨⟨h',g.bk,g.sv,g.iv⟩,_,rfl,?_⟩;simp only[execOp,aY,Instr.makeFunc,Sem.run_bind,Sem.run_pure,Result.andThen_ok,e];rw [fZ];exact S1.put (d:=.p (.fn f l l')) hd hv (λL hL=>by simp[bY,dC,bg]at hL) _;subst hA;exact hs.elim
theorem J7{h h':Fz}{p:PV}{v:Value}(hs:jS p=true)(hr:Rep h' p v):Rep h p v:=by
 cases hr with|bool b=>exact .bool b|int k n=>exact .int k n|_=>cases hs
theorem DZ{h h':Fz}:∀{l:List PV}{vs:List Value},l.all jS=true→RL (Rep h') l vs→RL (Rep h) l vs
  | [],[],_,_=>trivial
  | [],_::_,_,hr=>hr.elim
  | _::_,[],_,hr=>hr.elim
  | p::l,v::vs,hs,hr=>by
    simp only[qd4,fQ]at hs;exact⟨J7 hs.1 hr.1,DZ hs.2 hr.2⟩
theorem zc3{h h':Fz}{x:PA}{v:Value}(hs:zh5 x=true)(hr:oC h' x v):oC h x v:=by
 cases x with
 | one p=>exact J7 hs hr
 | agg cs =>
  obtain⟨vs,rfl,hr⟩:=hr;exact⟨vs,rfl,DZ hs hr⟩
theorem MO{h h':Fz}:∀{l:List PA}{vs:List Value},l.all zh5=true→RL (oC h') l vs→RL (oC h) l vs
  | [],[],_,_=>trivial
  | [],_::_,_,hr=>hr.elim
  | _::_,[],_,hr=>hr.elim
  | p::l,v::vs,hs,hr=>by
    simp only[qd4,fQ]at hs;exact⟨zc3 hs.1 hr.1,MO hs.2 hr.2⟩
theorem ziN{h h':Fz}{rs:List PA}{v:Value}(hs:Wq rs=true)(hr:qV h' rs v):qV h rs v:=by
 match rs,hs,hr with
 | [],_,⟨vs,e,r⟩=>exact⟨vs,e,MO rfl r⟩
 | [x],hs,hr =>
  simp only[Wq,qd4,List.all_nil,qjT]at hs;exact zc3 hs hr
 | x::y::l,hs,⟨vs,e,r⟩=>exact⟨vs,e,MO hs r⟩
def zk(h h' h2:Fz):Fz:=λb=>match h b,h' b with|none,some _=>none|_,_=>h2 b
theorem Xi{h h' h2:Fz}(h1:ku h h')(h3:ku h' h2):ku h (zk h h' h2):=λb o hb=>by
 show(match h b,h' b with|none,some _=>none|_,_=>h2 b)=some o;rw[hb];exact h3 b o (h1 b o hb)
theorem GN{h h' h2:Fz}:ku (zk h h' h2) h2:=λb o hb=>by
 have hb:(match h b,h' b with|none,some _=>none|_,_=>h2 b)=some o:=hb;split at hb;cases hb;exact hb
theorem QX{h h' h2:Fz}{n:Nat}(h1:ku h h')(hn:∀b o,h2 b=some o->h' b=some o\/n<=b)(b:Nat)(o:WC)(hb:zk h h' h2 b=some o):h b=some o\/n<=b:=by
 have V7:=GN b o hb;have hb:(match h b,h' b with|none,some _=>none|_,_=>h2 b)=some o:=hb;rcases hn b o V7 with h4|h4
 ·cases e:h b with
  | none=>rw[e,h4]at hb;cases hb
  | some x =>
   have:=h1 b x e;rw[h4]at this;exact .inl this.symm
 exact .inr h4
theorem zaP{h h' h2:Fz}{k:Nat}(hk:h2 k=none):zk h h' h2 k=none:=by
 show(match h k,h' k with|none,some _=>none|_,_=>h2 k)=none;split;rfl;exact hk
theorem zc4:∀{l:List PV}{o:Nat}{x y:PV},zh6 l=true→l[o]? = some x→l[o+1]? = some y→jS x=true→jS y=true→False
  | [],o,x,y,_,hx,_,_,_=>by simp at hx
  | [a],0,x,y,_,_,hy,_,_=>by simp at hy
  | [a],o+1,x,y,_,hx,_,_,_=>by simp at hx
  | a::b::r,0,x,y,h,hx,hy,h1,h2=>by
    simp at hx hy;subst hx hy;simp[zh6,h1,h2]at h
  | a::b::r,o+1,x,y,h,hx,hy,h1,h2=>by
    simp only[zh6,fQ]at h;exact zc4 (l:=b::r) h.2 (by simpa using hx) (by simpa using hy) h1 h2
theorem MP{h h':Fz}{p q:PV}{v:Value}(hs:jS p=true)(hp:Rep h p v)(hq:Rep h' q v):jS q=true:=by
 cases hp with
 | bool b=>cases hq with|bool=>rfl
 | int k n=>cases hq with|int=>rfl
 | _=>cases hs
theorem Xj{u:mQ}(h:zcz u=true):∀x∈u,∃l,x.2=.fbox l/\∀v∈l,jS v=false:=by
 intro y hy;unfold zcz at h;split at h;rcases jV.1 hy with rfl|hy
 refine⟨_,rfl,fun v hv => ?_⟩;have:=yL.1 h v hv;simpa using this;rcases jV.1 hy with rfl|hy
 exact⟨_,rfl,λv hv=>by simp only[mf]at hv;subst hv;rfl⟩;simp at hy;cases h
theorem QY{g:Gh}{ob:Nat→Option AO}{u:mQ}{h' h2:Fz}(F:fJ g ob u h')(hu:fF ob u)(wR:∀x∈u,∃l,x.2 = .fbox l∧∀v∈l,jS v=false)(hle:ku h' h2){p:PV}(ha:Anch p) :
  ∀{v:Value},Rep h2 p v->Rep (zk g.h h' h2) p v:=by
 induction ha with
 | scal v h=>intro x hr;exact J7 h hr
 | nils=>intro x hr;cases hr;exact .nils
 | sl n s get h Iy ih =>
  intro x hr;cases hr with
  | sl0 _ _ Js=>exact .sl0 _ _ Js
  | sle _ _ a cap Js=>exact .sle _ _ a cap Js
  | sl _ _ _ Js b o cap C ty fr vs hb kK hlen hc hr =>
   cases n with
   | zero=>exact .sle _ _ _ _ Js
   | succ m =>
   refine .sl _ _ _ Js b o cap C ty fr vs ?_ kK hlen hc λi j x hi hx=>ih i x (KP hx) (hr i j x hi hx);show(match g.h b,h' b with|none,some _=>none|_,_=>h2 b)=_;cases e1:g.h b with
   | some y=>exact hb
   | none =>
    cases e2:h' b with
    | none=>exact hb
    | some y =>
     exfalso;have hy:y=.fz (.cells C ty fr):=by
      have:=hle b y e2;rw[hb]at this;exact(SH this).symm
     subst hy;obtain⟨L,x,o',hm,hL,hk⟩:=F.new b e1 _ e2;obtain⟨l0,hl0,hns⟩:=wR _ hm;simp only at hl0;subst hl0;rcases hu _ hm with⟨e,s,b',n,get',_,e3⟩|⟨ty',cells,l,us,e4,e3,e5,e6⟩|⟨te,bb,e,s,b',n,ln,get',_,e3⟩
     cases e3;simp only at e3 e4;cases e3;rw[hL]at e4;simp only[bM]at e4;subst e4;obtain⟨C',ZZ,oz⟩:=F.box L ty' cells l0 us hL e5 e6 hm;have hk:g.bk L=b:=hk;subst hk;rw[e2]at ZZ;simp only[bM,WC.fz.injEq,Obj.cells.injEq]at ZZ;obtain⟨rfl,rfl,rfl⟩:=ZZ;obtain⟨j,x0,hx0,hs0⟩:=h 0;have c0:=hc 0 j x0 omY hx0;have hl:=oz.length;have iF:o+0*s+j<l0.length:=by
      have:=(Wh.1 c0).1;simp only[qjg]at hl;omega
     obtain⟨v0,hv0,r0⟩:=oz.get _ _ (yC iF);have hv0:C[o+0*s+j]? = some v0:=by simpa using hv0
     rw[hv0]at c0;simp only[bM]at c0;subst c0;have:=MP hs0 (hr 0 j x0 omY hx0) r0;rw[hns _ (VP iF)]at this;cases this;cases e3
theorem D5{x y:PV}(h:Sm x y):jS x=jS y:=by cases h<;>rfl
theorem ziO:∀{d:Nat}{x y:PV},Sm x y->Bz d x=true->Bz d y=true:=by
 intro d
 induction d with
 | zero=>intro x y _ h;cases h
 | succ d ih =>
  intro x y hs h;have hs2:=D5 hs;cases hs with
  | sl n m s g g' hl hg =>
   have hr:=(Sm.rows (.sl n m s g g' hl hg)).2 0 0;simp only[Bz,fQ,qdX,yL]at h ⊢;obtain⟨⟨x,hx,hxs⟩,h2⟩:=h;obtain⟨j,hj⟩:=dq0 hx;obtain⟨y,hy,r⟩:=RL.get hr j x hj;refine⟨⟨y,KP hy,by rw[<- D5 r];exact hxs⟩,λz hz=>?_⟩;obtain⟨k,hk⟩:=dq0 hz;obtain⟨u,hu,r⟩:=RL.get' hr k z hk;exact ih r (h2 u (KP hu))
  | int k a b=>rfl
  | bool a b=>rfl
  | fp l l' o hl hg=>exact h
  | atom p hp=>exact h
theorem Xk{d:Nat}{g:Nat->List PV}(hu:uC g)(h:(g 0).all (Bz d)=true){i:Nat}{x:PV}(hx:x∈g i):Bz d x=true:=by
 obtain⟨j,hj⟩:=dq0 hx;obtain⟨y,hy,r⟩:=RL.get' (hu 0 i) j x hj;exact ziO r (yL.1 h y (KP hy))
theorem Xl:∀{d:Nat}{x:PV},Bz d x=true->Sm x x->Anch x:=by
 intro d
 induction d with
 | zero=>intro x h;cases h
 | succ d ih =>
  intro x h hs;unfold Bz at h;split at h;exact .nils;rename_i n s g;rw[fQ]at h;have hu:uC g:=hs.rows.2;refine .sl _ _ _ (λi=>?_) λi y hy=>?_;obtain⟨x,hx,hxs⟩:=qdX.1 h.1;obtain⟨j,hj⟩:=dq0 hx;obtain⟨y,hy,r⟩:=RL.get (hu 0 i) j x hj;exact⟨j,y,hy,by rw[<- D5 r];exact hxs⟩;refine ih (Xk hu h.2 hy) ?_;obtain⟨j,hj⟩:=dq0 hy;obtain⟨z,hz,r⟩:=RL.get (hu i i) j y hj;rw[hj]at hz;cases hz;exact r;exact .scal _ h
theorem zyS{l m:List PV}(h:RS l m)(hs:sc2 l=true):sc2 m=true:=by
 simp only[sc2,fQ,yL,VT]at hs ⊢;refine⟨λx hx=>?_,by rw[<- h.length];exact hs.2⟩;obtain⟨j,hj⟩:=dq0 hx;obtain⟨y,hy,r⟩:=RL.get' h j x hj;rw[<- D5 r];exact hs.1 y (KP hy)
theorem ziP{l m:List PV}(h:RS l m)(hs:l.all jS=true):m.all jS=true:=by
 rw[yL]at hs ⊢;intro x hx;obtain⟨j,hj⟩:=dq0 hx;obtain⟨y,hy,r⟩:=RL.get' h j x hj;rw[<- D5 r];exact hs y (KP hy)
theorem bU.borrow(S:bU P nt B w0 h0 g σ a w){u:mQ}{h' h2 hx:Fz}{w':World}(F:fJ g (lk σ.ax) u h')(hb:yg h' w.heap.size w w')(Z7:Hw h2 w')
    (h1:ku g.h hx) (h3:ku hx h2) (h4:∀b o,hx b=some o->g.h b=some o\/w.heap.size<=b):bU P nt B w0 h0 ⟨hx,g.bk,g.sv,g.iv⟩ σ a w' :=
  S.world h1 (λb x mP=>Z7 b x (h3 b x mP)) h4 ⟨hb.os,hb.tape,hb.output,hb.size,hb.drawn,λk hk=>hb.block k hk⟩
theorem ownsRow_base{w:World}{base B e s n:Nat}{v:Value}{xs:List Value}(h:w.ownsRow base e s v n xs)(hB:∀k,base<=k->v.ownBlock=some k->B<=k):w.ownsRow B e s v n xs:=by
 refine⟨h.1,?_⟩;rcases h.2 with hn|⟨k,cap,cur,rfl,hk,rest⟩
 exact .inl hn;exact .inr ⟨k,cap,cur,rfl,hB k hk rfl,rest⟩
theorem zc5{args:Array Operand}{ev:Operand->DV}{p:DV}(h:args.toList.map ev=[p]):∃x,args = #[x]/\ev x=p:=by
 match hl:args.toList,h with
 | [x],h =>
  simp at h;exact⟨x,by rw[<- qdp (xs:=args),hl],h⟩
 | [],h=>simp at h
 | _::_::_,h=>simp at h
theorem zph{e m s:Nat}{get:Nat->List PV}{args:Array Operand}(S:bU P nt B w0 h0 g σ a w)(h:zyu P e (args.toList.map (fU σ.env))=some (m,s,get)):∃x,args = #[x]/\Rep g.h (.sl m s get) (a.eval x):=by
 generalize hl:args.toList.map (fU σ.env)=l at h;unfold zyu at h;split at h;cases h;obtain⟨x,rfl,hx⟩:=zc5 hl;exact⟨x,rfl,jI S hx⟩;split at h;rename_i z hz;split at h;rename_i k hk;cases h;obtain⟨x,rfl,hx⟩:=zc5 hl;have:=jI S hx;refine⟨x,rfl,?_⟩;generalize a.eval x=v at this;cases this;exact .sl0 _ _ λ_ _=>JX hz hk;cases h;cases h;cases h
theorem Xm{α:Type}:∀{l m:List α}{x:α},Le l=some (m,x)→l=m++[x]
  | [],m,x,h=>by cases h
  | d::r,m,x,h=>by
    simp only[Le]at h;split at h;rename_i l' y e;cases h;rw[Xm e];rfl
    · rename_i e;cases h;cases r with
      | nil=>rfl
      | cons y r =>
        simp only[Le]at e;split at e<;>cases e
theorem QZ{f:Operand->DV}{args:Array Operand}{ds:List DV}{d:DV}(h:Le (args.toList.map f)=some (ds,d)):∃(xs:List Operand)(x:Operand),args.toList=xs++[x]/\ds=xs.map f/\f x=d:=by
 obtain⟨xs,ys,e1,e2,e3⟩:=List.map_eq_append_iff.1 (Xm h)
 match ys,e3 with
 | [x],e3 =>
  simp only[lM,qdY,Du,jqf]at e3;exact⟨xs,x,e1,e2.symm,e3⟩
theorem Xn{f:Operand->Value}{args:Array Operand}{xs:List Operand}{x:Operand}(h:args.toList=xs++[x]):(#[]++Array.map f args ++ #[])=(xs.map f++[f x]).toArray:=by
 have e:args=(xs++[x]).toArray:=by rw[<- h]
 subst e;simp
theorem ziQ{o:Oper}{f:Operand}{args:Array Operand}{ts:Array TypeId}{A:aC}{gf:FuncId}{e s b:Nat}{F:List PA→Nat→(Nat→List PV)→ae (Nat×(Nat→List PV))}(gp:gI P gf (.grow e s b F))(S:bU P nt B w0 h0 g σ a w)(hd:dH nt o.dst=true)
    (aY:o.op=.call {callee:=.value f,args,argTypes:=ts}) (Pv:a.eval f=.func (.func gf) #[] #[])
    (hA:kL P Γ o (.grow e s b F) (args.toList.map (fU σ.env)) (lk σ.ax)=A) (hs:A.safe):jr P nt B w0 h0 r n i o A σ a w Q:=by
  unfold kL at hA;simp only at hA;split at hA;rename_i ds L Px;obtain⟨xs,x,gJ,rfl,hx⟩:=QZ Px;split at hA;rename_i az e' s' b' n get has hL;split at hA;rename_i m get' hF;split at hA;rename_i dm;obtain⟨rfl,rfl,rfl⟩:=dm;subst hA;obtain⟨⟨yA,l9⟩,_⟩:=iQ S hx;obtain⟨iL,nN,ys,hys,hr⟩:=S.obj L _ hL;have hav:=S.frozen0.repDs has (λy hy=>hy) (DW S xs);obtain⟨fM,df⟩:=gp w g.h B az (xs.map a.eval) (g.sv L) n get m get' hF hav (by rw[<- yA];exact l9) iL nN ⟨ys,hys,hr⟩ (λk hk=>S.own L _ k hL hk) S.hw S.bs;refine rX (by simp[aY]) (w':=w) (f:=gf) (args:=(xs.map a.eval++[g.sv L]).toArray) ?_ (df.mono ?_);simp only [execOp,aY,resolve,Pv,Deferred.ofValue,Sem.run_bind,Sem.run_pure,Result.andThen_ok,invoke];rw[show(#[]++Array.map a.eval args ++ #[])=(xs.map a.eval++[g.sv L]).toArray by rw[<- yA];exact Xn gJ];exact eF fM;rintro r0 w' ⟨h2,v',rfl,Xo,hug,⟨zs,Bl,hrz⟩,hblk,hle,Z7,hn2,hX⟩;let g':Gh:=⟨h2,g.bk,λM=>if M=L then v' else g.sv M,g.iv⟩;have mO:g'.sv L=v':=eU rfl;have ziR:∀M x,lk [(L,AO.vec e' s' b' m get')] M=some x->M=L/\x=.vec e' s' b' m get':=λM x h=>by
    rw[aV]at h;split at h;rename_i e;exact⟨e.symm,(SH h).symm⟩;cases h
  have S1 := S.swap (u := [(L, .vec e' s' b' m get')]) (kl := [L]) (K := (g.sv L).ownBlock.toList) (g' := g') hle Z7 (fun _ => rfl)
    (λM hM=>⟨rfl,eY λe=>hM (by rw[e];exact mf.2 rfl),rfl⟩)
    (λM hM=>by rw[mf.1 hM,aV,eU rfl];simp) hX
    (λk hk=>⟨L,_,_,by rw[aV,eU rfl],hL,(show(g.sv L).ownBlock=some k by simpa using hk)⟩)
    (λM x hx=>by obtain⟨rfl,rfl⟩:=ziR M x hx;exact⟨⟨hug,iL.2⟩,nN,zs,by rw[mO];exact Bl,hrz⟩)
    (λM x k hx hk=>by obtain⟨rfl,rfl⟩:=ziR M x hx;exact hblk k (by rw[<- mO];exact hk))
    (λM x k M' x' hx yP _ _=>by rw[(ziR M x hx).1,(ziR M' x' yP).1])
    (λM x hx N hN=>by obtain⟨rfl,rfl⟩:=ziR M x hx;simp[dS]at hN) (λk y hk=>hn2 k y hk) σ.log
  refine⟨v',rfl,g',_,rfl,?_⟩;rw[Tv];refine S1.put (v:=v') hd (d:=.cl (.vec L)) ⟨mO.symm,Xo⟩ (λM hM=>?_) σ.log;simp[bY,dC,bg]at hM;subst hM;exact⟨_,by rw[jqY,aV,eU rfl]⟩;subst hA;exact hs.elim;subst hA;exact hs.elim;subst hA;exact hs.elim;rename_i ds Px;obtain⟨xs,x,gJ,rfl,hx⟩:=QZ Px;split at hA;rename_i az dst has Iu;split at hA;rename_i ie z iq hi hz;split at hA;rename_i l hl;split at hA;rename_i m get' hF;split at hA;rename_i dm;obtain⟨jL,rfl,iL⟩:=dm;subst hA;obtain⟨zv,Iw,Bl⟩:=je hz hi;have yA:a.eval x=.slice none 0 0:=by
    have:=jI S hx;generalize a.eval x=v at this;cases this;rfl
  have hnb:(a.eval x).ownBlock=none:=by rw[yA];rfl
  have hav:=S.frozen0.repDs has (λy hy=>hy) (DW S xs);have nN:∃i z,P.info? e=some i/\i.size=s/\i.bytes=ie.bytes/\i.zero=some z/\z.cells.size=s:=⟨ie,zv,hi,jL,rfl,Iw,by rw[Bl,jL]⟩;obtain⟨fM,df⟩:=gp w g.h B az (xs.map a.eval) (a.eval x) 0 (λ_=>l) m get' hF hav (by rw[yA];rfl) ⟨Ll (JX hz hl),iL⟩ nN ⟨[],by rw[yA];exact World.ownsRow_nil w B e s,λi hi=>absurd hi omY⟩ (λk hk=>by rw[hnb]at hk;cases hk) S.hw S.bs;refine rX (by simp[aY]) (w':=w) (f:=gf) (args:=(xs.map a.eval++[a.eval x]).toArray) ?_ (df.mono ?_);simp only [execOp,aY,resolve,Pv,Deferred.ofValue,Sem.run_bind,Sem.run_pure,Result.andThen_ok,invoke];rw[Xn gJ];exact eF fM;rintro r0 w' ⟨h2,v',rfl,Xo,hug,⟨zs,zyO,hrz⟩,hblk,hle,Z7,hn2,hX⟩;have ut:∀k,v'.ownBlock=some k->w.heap.size<=k/\h2 k=none:=λk hk=>by
    obtain⟨h3,h4⟩:=hblk k hk;exact⟨h3.elim (λh=>by rw[hnb]at h;simp at h) id,h4⟩
  have S2:=S.world hle Z7 (λk y hk=>by
    rcases hn2 k y hk with h|h|h
    exact .inl h;exact .inr h;rw[hnb]at h;simp at h) ⟨hX.os,hX.tape,hX.output,hX.size,hX.drawn,λk hk=>hX.block k hk (by rw[hnb];simp)⟩
  have S3:=S2.adopt (t:=dst) (v:=v') (e:=e) (s:=s) (b:=ie.bytes) (n:=m) (get:=get') iq (λk hk=>⟨Gj S.bs (ut k hk).1,(ut k hk).2,λL o ho bZ=>by
      have iE:gY g L o k:=bZ;have:=iP (S.obj L o ho) iE;have:=(ut k hk).1;omega⟩) (by
    refine⟨⟨hug,iL⟩,nN,zs,?_,hrz⟩;rw[show((⟨h2,g.bk,g.sv,g.iv⟩:Gh).setSv dst v').sv dst=v' by simp[Gh.setSv]];exact zyO)
  refine⟨v',rfl,(⟨h2,g.bk,g.sv,g.iv⟩:Gh).setSv dst v',_,rfl,?_⟩;rw[fZ];refine S3.put (v:=v') hd (d:=.cl (.vec dst)) ⟨by simp[Gh.setSv],Xo⟩ ?_ _;intro L hL;simp[bY,dC,bg]at hL;subst hL;exact⟨_,by rw[aV,eU rfl]⟩;subst hA;exact hs.elim;subst hA;exact hs.elim;subst hA;exact hs.elim;subst hA;exact hs.elim;subst hA;exact hs.elim;subst hA;exact hs.elim
theorem zpi{o:Oper}{f:Operand}{args:Array Operand}{ts:Array TypeId}{A:aC}{gf:FuncId}(BN:jw P Γ)(S:bU P nt B w0 h0 g σ a w)(hd:dH nt o.dst=true)
    (aY:o.op=.call {callee:=.value f,args,argTypes:=ts}) (Pv:a.eval f=.func (.func gf) #[] #[])
    (hA:kL P Γ o (Γ.own gf) (args.toList.map (fU σ.env)) (lk σ.ax)=A) (hs:A.safe):jr P nt B w0 h0 r n i o A σ a w Q:=by
  have enter:∀x,args = #[x]->dw P gf->(execOp a.eval o).run P w=.ok (.enter gf #[a.eval x]) w:=by
    rintro x rfl fM;simp only[execOp,aY,resolve,Pv,Deferred.ofValue,Sem.run_bind,Sem.run_pure,Result.andThen_ok,invoke];rw[show(#[]++Array.map a.eval #[x] ++ #[]) = #[a.eval x]by simp];exact eF fM
  have gp:=BN.own gf;unfold kL at hA;split at hA;subst hA;exact hs.elim;rename_i e s b hk;rw[hk]at gp;split at hA;rename_i L hf caps gJ;obtain⟨x,y,rfl,hx,hy⟩:=LW gJ;obtain⟨⟨yA,l9⟩,_⟩:=iQ S hx;split at hA;rename_i e' s' b' m get ag hL vk;split at hA
  · rename_i dm;obtain⟨rfl,rfl,rfl⟩:=dm;subst hA;have pM:zys m (λi j=>(Lc (Γ.cfn hf) caps ag get i j).isSome) (oJ (Γ.cfn hf) caps ag get):=hs;obtain⟨iL,nN,xs,hxs,hr⟩:=S.obj L _ hL;have jh:∀k,(g.sv L).ownBlock=some k->g.h k=none:=λk hk=>(S.own L _ k hL hk).2;have uo:=jI S hy;generalize Sz:a.eval y=yv at uo;cases uo with
    | fn _ _ _ fv cv l1 l2 hf1 F6 =>
      have e1:fv=[]:=qdD l1.symm;subst e1;obtain⟨ii,zz,hi1,hi2,_⟩:=nN;obtain⟨fM,df⟩:=gp w g.h B (g.sv L) m get hf caps cv ag (Γ.cfn hf) (BN.cmp hf) (MJ l2 F6) vk ⟨ii,hi1,hi2⟩ iL.2 ⟨xs,hxs,hr⟩ (by rw[<- yA];exact l9) S.hw jh S.bs pM;refine rX (by simp[aY]) (w':=w) (f:=gf) (args:=#[a.eval x,a.eval y]) ?_ ?_;simp only [execOp,aY,resolve,Pv,Deferred.ofValue,Sem.run_bind,Sem.run_pure,Result.andThen_ok,invoke];rw[show(#[]++Array.map a.eval #[x,y] ++ #[]) = #[a.eval x,a.eval y]by simp];exact eF fM;rw [yA,Sz];refine df.mono ?_;rintro r0 w' ⟨rfl,⟨xs',zSf,vG⟩,hg⟩;refine⟨.tuple #[],rfl,g,_,rfl,?_⟩;rw[fZ];have hold:∀k,k<w.heap.size->¬(g.sv L).ownBlock=some k->w'.heap[k]? = w.heap[k]?:=λk hk jb=>hg.block k hk (λe=>jb e.symm)
      have S' := S.write2 (o' := .vec e' s' b' m (Ld m (oJ (Γ.cfn hf) caps ag get) get)) hL (fun b hb => hb) ⟨⟨hg.os, hg.tape, hg.output, hg.size, fun k hk => hold k (qdw hk S.bs) (fun e => by have := (S.own L _ k hL e).1; omega)⟩, hg.drawn⟩
        hold ⟨⟨wU iL.1 _,iL.2⟩,⟨ii,zz,hi1,hi2,by assumption⟩,xs',zSf,vG⟩ (λM hM=>by simp[dS]at hM)
      exact S'.put (d:=.tup []) hd ⟨[],rfl,trivial⟩ (λL hL=>by simp[bY]at hL) _
  subst hA;exact hs.elim;subst hA;exact hs.elim;subst hA;exact hs.elim;rename_i e s b hk;rw[hk]at gp;split at hA;rename_i m s' get dst gJ Iu;obtain⟨x,rfl,hx⟩:=zph S gJ;split at hA;rename_i ie z iq hi hz;split at hA;rename_i dm;obtain⟨rfl,jL,rfl,iL⟩:=dm;subst hA;have pM:m*ie.bytes<=140737488355328/\m<=9223372036854775807:=hs;obtain⟨zv,Iw,Bl⟩:=je hz hi;obtain⟨fM,df⟩:=gp w g.h (a.eval x) m get hx S.hw pM.1 pM.2;refine rX (by simp[aY]) (w':=w) (f:=gf) (args:=#[a.eval x]) (enter x rfl fM) (df.mono ?_);rintro r0 w' ⟨h',v',rfl,l9,⟨xs,hxs,hr⟩,hnh,hb,hle,KJ,hn'⟩;refine⟨v',rfl,?_⟩;have S2:=S.world hle KJ hn' hb;have ut:∀k,v'.ownBlock=some k->w.heap.size<=k:=λk hk=>(hxs.lt k hk).1;have S3:=S2.adopt (t:=dst) (v:=v') (e:=e) (s:=s') (b:=ie.bytes) (n:=m) (get:=get) iq (λk hk=>⟨Gj S.bs (ut k hk),hnh k hk,λL o ho bZ=>by
      have iE:gY g L o k:=bZ;have:=iP (S.obj L o ho) iE;have:=ut k hk;omega⟩) (by
    refine⟨⟨hx.un.rows.2,iL⟩,⟨ie,zv,hi,jL,rfl,Iw,by rw[Bl,jL]⟩,xs,?_,hr⟩;rw[show((⟨h',g.bk,g.sv,g.iv⟩:Gh).setSv dst v').sv dst=v' by simp[Gh.setSv]];exact ownsRow_base hxs λk hk _=>Gj S.bs hk)
  refine⟨(⟨h',g.bk,g.sv,g.iv⟩:Gh).setSv dst v',_,rfl,?_⟩;rw[fZ];refine S3.put (v:=v') hd (d:=.cl (.vec dst)) ⟨by simp[Gh.setSv],l9⟩ ?_ _;intro L hL;simp[bY,dC,bg]at hL;subst hL;exact⟨_,by rw[aV,eU rfl]⟩;subst hA;exact hs.elim;subst hA;exact hs.elim;subst hA;exact hs.elim;rename_i e s b F hk;rw[hk]at gp;split at hA;rename_i az u dst has Iu;split at hA;rename_i n get rs ie z hF iq hi hz;split at hA
  · rename_i dm;obtain⟨jL,rfl,iL,zHc,zHd⟩:=dm;subst hA;obtain⟨zv,Iw,Bl⟩:=je hz hi;obtain⟨h',S1,F'⟩:=S.freeze (yZ has);have gJ:=F'.repDs has (λy hy=>hy) (DW S args.toList);obtain⟨fM,df⟩:=gp w h' az (args.toList.map a.eval) n get rs hF gJ S1.hw;refine rX (by simp[aY]) (w':=w) (f:=gf) (args:=(args.toList.map a.eval).toArray) ?_ (df.mono ?_);simp only [execOp,aY,resolve,Pv,Deferred.ofValue,Sem.run_bind,Sem.run_pure,Result.andThen_ok,invoke];rw[show(#[]++Array.map a.eval args ++ #[])=(args.toList.map a.eval).toArray by cases args;simp];exact eF fM;rintro r0 w' ⟨h2,v',xs,rfl,hxr,l9,hug,⟨ys,hys,hr⟩,hnh,hb,hle,Z7,hn2⟩;have hlr:∀i,i<n->RL (Rep (zk g.h h' h2)) (get i) ((ys.drop (i*s)).take s):=λi hi=>by
      cases u with
      | nil =>
        refine(hr i hi).mono λ_ _ h=>Rep.mono (λb o hbo=>?_) h;show(match g.h b,h' b with|none,some _=>none|_,_=>h2 b)=some o;cases e1:g.h b with
        | some y=>exact hbo
        | none =>
          cases e2:h' b with
          | none=>exact hbo
          | some y =>
            obtain⟨L,x,o',hm,_⟩:=F'.new b e1 _ e2;simp at hm
      | cons x l =>
        have h3:=zHc;unfold zie at h3;split at h3;rename_i e;cases e;split at h3;rename_i e;exact(hr i hi).mono_mem λp v hp h=>QY F' (yZ has) (Xj e) hle (Xl (Xk hug h3 hp) (by
          obtain⟨j,hj⟩:=dq0 hp;obtain⟨z,hz,r⟩:=RL.get (hug i i) j p hj;rw[hj]at hz;cases hz;exact r)) h
        exact DZ (ziP (hug 0 i) h3) (hr i hi)
    have S2:=S.borrow F' hb Z7 (Xi F'.le hle) GN (QX F'.le hn2);have ut:∀k,v'.ownBlock=some k->w.heap.size<=k:=λk hk=>(hys.lt k hk).1;have S3:=S2.adopt (t:=dst) (v:=v') (e:=e) (s:=s) (b:=ie.bytes) (n:=n) (get:=get) iq (λk hk=>⟨Gj S.bs (ut k hk),zaP (hnh k hk),λL o ho bZ=>by
        have iE:gY g L o k:=bZ;have:=iP (S.obj L o ho) iE;have:=ut k hk;omega⟩) (by
      refine⟨⟨hug,iL⟩,⟨ie,zv,hi,jL,rfl,Iw,by rw[Bl,jL]⟩,ys,?_,hlr⟩;rw[show((⟨zk g.h h' h2,g.bk,g.sv,g.iv⟩:Gh).setSv dst v').sv dst=v' by simp[Gh.setSv]];exact ownsRow_base hys λk hk _=>Gj S.bs hk)
    refine⟨WE v' xs rs,rfl,(⟨zk g.h h' h2,g.bk,g.sv,g.iv⟩:Gh).setSv dst v',_,rfl,?_⟩;rw[fZ];have hvx:RL (Rep (zk g.h h' h2)) rs xs:=DZ zHd hxr;cases rs with
    | nil =>
      refine S3.put (v:=v') hd (d:=.cl (.vec dst)) ⟨by simp[Gh.setSv],l9⟩ ?_ _;intro L hL;simp[bY,dC,bg]at hL;subst hL;exact⟨_,by rw[aV,eU rfl]⟩
    | cons x l =>
      refine S3.put (v:=.tuple (v'::xs).toArray) hd (d:=.tup (.c (.vec dst)::(x::l).map λv=>.c (.p v))) ⟨v'::xs,rfl,⟨by simp[Gh.setSv],l9⟩,?_⟩ ?_ _;refine RL.map_left.2 (hvx.mono λ_ _ h=>h);intro L hL;have SE:L=dst:=by
        simp only[bY,oG,dR,mg,uu]at hL;rcases hL with hL|⟨d,⟨v,_,rfl⟩,hL⟩
        simpa [dC,bg]using hL;simp[dC,bg]at hL
      subst SE;exact⟨_,by rw[aV,eU rfl]⟩
  subst hA;exact hs.elim;subst hA;exact hs.elim;subst hA;exact hs.elim;rename_i e s b F hk;rw[hk]at gp;exact ziQ (Γ:=Γ) gp S hd aY Pv hA hs
theorem zpj{g:Gh}{ob:Nat→Option AO}{u:mQ}{h' h2:Fz}{n s:Nat}{get:Nat→List PV}{v:Value}(F:fJ g ob u h')(hu:fF ob u)(wR:u.all zvH=true)(hle:ku h' h2)(hg:∀i,sc2 (get i)=true)
    (hr:Rep h2 (.sl n s get) v):Rep (zk g.h h' h2) (.sl n s get) v:=by
  cases hr with
  | sl0 _ _ Js=>exact .sl0 _ _ Js
  | sle _ _ a cap Js=>exact .sle _ _ a cap Js
  | sl _ _ _ Js b o cap C ty fr vs hb kK hlen hc hr =>
    cases n with
    | zero=>exact .sle _ _ _ _ Js
    | succ m =>
    have hsc:∀i j x,(get i)[j]? = some x->jS x=true:=λi j x hx=>by
      have:=hg i;simp only[sc2,fQ,yL]at this;exact this.1 x (KP hx)
    refine .sl _ _ _ Js b o cap C ty fr vs ?_ kK hlen hc λi j x hi hx=>J7 (hsc i j x hx) (hr i j x hi hx);show(match g.h b,h' b with|none,some _=>none|_,_=>h2 b)=_;cases e1:g.h b with
    | some y=>exact hb
    | none =>
      cases e2:h' b with
      | none=>exact hb
      | some y =>
        exfalso;have hy:y=.fz (.cells C ty fr):=by
          have:=hle b y e2;rw[hb]at this;exact(SH this).symm
        subst hy;obtain⟨L,x,o',hm,hL,hk⟩:=F.new b e1 _ e2;have hna:=yL.1 wR _ hm;have z4l:2<=(get 0).length:=by
          have:=hg 0;simp only[sc2,fQ,VT]at this;exact this.2
        rcases hu _ hm with⟨e,s,b',n,get',_,e3⟩|⟨ty',cells,l,us,e4,e3,e5,e6⟩|⟨te,bb,e,s,b',n,ln,get',_,e3⟩
        simp only at e3;subst e3;cases hna;simp only at e3 e4;subst e3;rw[hL]at e4;simp only[bM]at e4;subst e4;obtain⟨C',ZZ,oz⟩:=F.box L ty' cells l us hL e5 e6 hm;have hk:g.bk L=b:=hk;subst hk;rw[e2]at ZZ;simp only[bM,WC.fz.injEq,Obj.cells.injEq]at ZZ;obtain⟨rfl,rfl,rfl⟩:=ZZ;obtain⟨x0,hx0⟩:∃x,(get 0)[0]? = some x:=⟨_,yC omY⟩;obtain⟨x1,hx1⟩:∃x,(get 0)[1]? = some x:=⟨_,yC omY⟩;have c0:=hc 0 0 x0 omY hx0;have c1:=hc 0 1 x1 omY hx1;simp only[jqW,qja]at c0 c1;have hl:=oz.length;have l0:o<l.length:=by
          have:=(Wh.1 c0).1;simp at hl;omega
        have l1:o+1<l.length:=by
          have:=(Wh.1 c1).1;simp at hl;omega
        obtain⟨v0,hv0,r0⟩:=oz.get o _ (yC l0);obtain⟨v1,hv1,r1⟩:=oz.get (o+1) _ (yC l1);have hv0:C[o]? = some v0:=by simpa using hv0
        have hv1:C[o+1]? = some v1:=by simpa using hv1
        rw[hv0]at c0;rw[hv1]at c1;simp only[bM]at c0 c1;subst c0 c1;exact zc4 hna (yC l0) (yC l1) (MP (hsc 0 0 x0 hx0) (hr 0 0 x0 omY hx0) r0) (MP (hsc 0 1 x1 hx1) (hr 0 1 x1 omY hx1) r1);simp only at e3;subst e3;cases hna
theorem ziS{g:Gh}{ob:Nat->Option AO}{u:mQ}{h' h2:Fz}{r:List PA}{v:Value}(F:fJ g ob u h')(hu:fF ob u)(hl:Ws u r=true)(hle:ku h' h2)(hr:qV h2 r v):qV (zk g.h h' h2) r v:=by
 unfold Ws at hl;split at hl
 ·rename_i n s get x us;have Js:Sm (.sl n s get) (.sl n s get):=Rep.un (h:=h2) (v:=v) hr;have hug:uC get:=Js.rows.2;cases hg:sc2 (get 0)with
  | true =>
   simp only[hg]at hl;exact zpj (n:=n) (s:=s) (get:=get) (v:=v) F hu hl hle (λi=>zyS (hug 0 i) hg) hr
  | false =>
   simp only[hg,fQ]at hl;exact QY F hu (λy hy=>Xj hl.1 y hy) hle (Xl hl.2 Js) hr
 cases hl
theorem Xp{o:Oper}{gf:FuncId}{args:Array Operand}{az pre post:List PA}{pv qv:List Value}{u:mQ}{A:aC}(gp:jw P Γ)(S:bU P nt B w0 h0 g σ a w)(hd:dH nt o.dst=true)
    (Aa:∀c,o.op ≠ .defer c) (z0X:RL (oC g.h) pre pv) (zOp:RL (oC g.h) post qv) (has:iG (lk σ.ax) (args.toList.map (fU σ.env))=some (az,u))
    (zHe:dw P gf->(execOp a.eval o).run P w=.ok (.enter gf (pv++args.toList.map a.eval++qv).toArray) w) {jl:List Nat} {rs:List PA}
    (hC:(Γ.fn gf (pre++az++post)).o=some rs) (hA:lI jl u rs=A):jr P nt B w0 h0 r n i o A σ a w Q:=by
    obtain⟨h',S1,F⟩:=S.freeze (yZ has);have gJ:=F.repDs has (λy hy=>hy) (DW S args.toList);have up:∀{l:List PA}{vs:List Value},RL (oC g.h) l vs->RL (oC h') l vs:=λhr=>hr.mono λx v hx=>by
      cases x with
      | one p=>exact Rep.mono F.le hx
      | agg cs=>obtain⟨ws,e,hr⟩:=hx;exact⟨ws,e,hr.mono λ_ _ h=>h.mono F.le⟩
    have BN:RL (oC h') (pre++az++post) (pv++args.toList.map a.eval++qv):=((up z0X).append gJ).append (up zOp);obtain⟨fM,df⟩:=gp.fn gf (pre++az++post) rs hC w h' _ BN S1.hw;refine rX Aa (w':=w) (f:=gf) (args:=(pv++args.toList.map a.eval++qv).toArray) (zHe fM) (df.mono ?_);rintro e w' ⟨h2,v,rfl,o6,hb,hle,Z7,hn2⟩;refine⟨v,rfl,?_⟩;have fin:∀{g':Gh},bU P nt B w0 h0 g' σ a w'->qV g'.h rs v->∃g'' σ',σ'=σ.upd i o.dst (rd jl) (resD rs) [] []/\bU P nt B w0 h0 g'' σ' (a.put o.dst v) w':=λS2 hr =>
      ⟨_,_,rfl,by rw[fZ];exact S2.put (v:=v) (d:=resD rs) hd (Tt hr) (λL hL=>by rw[DU]at hL;simp at hL) σ.log⟩
    subst hA;unfold lI;cases hsc:Wq rs with
    | true=>exact fin (S.borrow F hb Z7 (λ_ _ h=>h) (λb x hx=>hle b x (F.le b x hx)) (λ_ _ h=>.inl h)) (ziN hsc o6)
    | false =>
      cases hl:Ws u rs with
      | true=>exact fin (S.borrow F hb Z7 (Xi F.le hle) GN (QX F.le hn2)) (ziS F (yZ has) hl hle o6)
      | false =>
        exact⟨⟨h2,g.bk,g.sv,g.iv⟩,_,rfl,by
          rw[fZ];exact(S1.world hle Z7 hn2 hb).put (v:=v) (d:=resD rs) hd (Tt (g:=g) o6) (λL hL=>by rw[DU]at hL;simp at hL) σ.log⟩
theorem ziT{o:Oper}{f:Operand}{args:Array Operand}{ts:Array TypeId}{A:aC}(gp:jw P Γ)(S:bU P nt B w0 h0 g σ a w)(hd:dH nt o.dst=true)
    (aY:o.op=.call {callee:=.value f,args,argTypes:=ts})
    (hA:act P Γ o (fU σ.env) (lk σ.ax)=A) (hs:A.safe):jr P nt B w0 h0 r n i o A σ a w Q:=by
  simp only[act,aCl,aY]at hA;split at hA;rename_i gf caps hf;split at hA;rename_i C hC;obtain⟨cv,Pv,kK⟩:=(iQ S hf).1;refine zc1 (vals:=args.toList.map a.eval++cv) gp S hd (by simp[aY]) hC (λfM=>?_) ((DW S args.toList).append (Tz kK)) (ziK kK (by simp)) hA hs;simp only[execOp,aY,resolve,Pv,Deferred.ofValue,Sem.run_bind,Sem.run_pure,Result.andThen_ok,invoke];rw[show(#[]++Array.map a.eval args++cv.toArray)=(args.toList.map a.eval++cv).toArray by cases args;simp];exact eF fM;subst hA;exact hs.elim;rename_i gf first caps hf
  split at hA
  · rename_i C hC;have uo:=jI S hf;generalize Pv:a.eval f=fvv at uo;cases uo with
    | fn _ _ _ fv cv l1 l2 hf1 F6 =>
      have hp:∀{l:List PV}{vs:List Value},RL (Rep g.h) l vs->RL (rW g) (l.map λv=>DV.p v) vs:=λhr=>RL.map_left.2 hr;refine zc1 (vals:=fv++args.toList.map a.eval++cv) gp S hd (by simp[aY]) hC (λfM=>?_) (((hp (MJ l1 hf1)).append (DW S args.toList)).append (hp (MJ l2 F6))) (λ_ _ _ e=>by cases e) hA hs;simp only[execOp,aY,resolve,Pv,Deferred.ofValue,Sem.run_bind,Sem.run_pure,Result.andThen_ok,invoke];rw[show(fv.toArray++Array.map a.eval args++cv.toArray)=(fv++args.toList.map a.eval++cv).toArray by cases args;simp];exact eF fM
  split at hA;split at hA
  · have uo:=jI S hf;generalize Pv:a.eval f=fvv at uo;cases uo with
    | fn _ _ _ fv cv l1 l2 hf1 F6 =>
      have e1:fv=[]:=qdD l1.symm;have e2:cv=[]:=qdD l2.symm;subst e1 e2;exact zpi gp S hd aY Pv hA hs
  subst hA;exact hs.elim;split at hA
  · rename_i az u has;have uo:=jI S hf;generalize Pv:a.eval f=fvv at uo;cases uo with
    | fn _ _ _ fv cv l1 l2 hf1 F6 =>
      split at hA;rename_i rs hrs;refine Xp gp S hd (by simp[aY]) (zaL (MJ l1 hf1)) (zaL (MJ l2 F6)) has (λfM=>?_) hrs hA;simp only[execOp,aY,resolve,Pv,Deferred.ofValue,Sem.run_bind,Sem.run_pure,Result.andThen_ok,invoke];rw[show(fv.toArray++Array.map a.eval args++cv.toArray)=(fv++args.toList.map a.eval++cv).toArray by cases args;simp];exact eF fM;subst hA;exact hs.elim
  subst hA;exact hs.elim;rename_i gf cells hf;split at hA
  · rename_i az u has;have uo:=jI S hf;generalize Pv:a.eval f=fvv at uo;cases uo with
    | fna _ _ vs l1 hf1 =>
      split at hA;rename_i rs hrs;refine Xp (pre:=[.agg cells]) (post:=[]) (pv:=[.agg vs.toArray]) (qv:=[]) gp S hd (by simp[aY]) ⟨⟨vs,rfl,MJ l1 hf1⟩,trivial⟩ trivial has (λfM=>?_) (by simpa using hrs) hA;simp only[execOp,aY,resolve,Pv,Deferred.ofValue,Sem.run_bind,Sem.run_pure,Result.andThen_ok,invoke];rw[show(#[Value.agg vs.toArray]++Array.map a.eval args ++ #[])=([Value.agg vs.toArray]++args.toList.map a.eval++[]).toArray by cases args;simp];exact eF fM;subst hA;exact hs.elim
  subst hA;exact hs.elim;subst hA;exact hs.elim
theorem GR{o:Oper}{A:aC}(gp:jw P Γ)(S:bU P nt B w0 h0 g σ a w)(hd:dH nt o.dst=true)(hA:act P Γ o (fU σ.env) (lk σ.ax)=A)(hs:A.safe) :
  jr P nt B w0 h0 r n i o A σ a w Q:=by
 have tH:=hA;cases aY:o.op with
 | move x=>simp only[act,aCl,aY]at hA;subst hA;exact WS S hd (.inl aY)
 | assign x=>simp only[act,aCl,aY]at hA;subst hA;exact WS S hd (.inr aY)
 | pick c x y =>
  simp only[act,aPk,aY]at hA;split at hA;rename_i t hc;subst hA;exact zin S hd aY hc;subst hA;exact hs.elim
 | alloc e =>
  simp only[act,aAl,aY]at hA;split at hA;rename_i z hz;exact zfd S hd aY hz hA hs;subst hA;exact hs.elim
 | box e x =>
  simp only[act,aBx,aY]at hA;split at hA;rename_i d m hx hm;split at hA;rename_i dm;simp only[fQ]at dm;exact zo2 S hd aY hx dm.2 hA hs;subst hA;exact hs.elim;subst hA;exact hs.elim
 | build t parts =>
  simp only[act,aBd,aY]at hA;split at hA;rename_i z hf hz;split at hA;rename_i l hl;subst hA;refine zfe S hd aY hf hz hl (λL hL=>?_);rcases LV _ _ _ hl L hL with h|⟨x,_,h⟩
  rw[QH hz]at h;simp at h;exact S.evLab x.2 L h;subst hA;exact hs.elim;subst hA;exact hs.elim
 | buildSlice t m parts=>exact L9 S hd aY tH hs
 | load t x=>exact zio S hd aY tH hs
 | store t x y=>exact zfj S hd aY tH hs
 | nilCheck x=>exact Tn S hd aY tH hs
 | binOp op t x y t'=>exact zfh S hd aY tH hs
 | unOp op t x=>exact ziq S hd aY tH hs
 | convert t1 t2 x=>exact WV S hd aY tH hs
 | fieldAddr t x f=>exact PT S hd aY tH hs
 | indexAddr t x y=>exact PU S hd aY tH hs
 | extract x k=>exact WW S hd aY tH hs
 | index t x y=>exact zff S hd aY tH hs
 | field t x f=>exact zfg S hd aY tH hs
 | slice t x lo hi mx =>
  cases mx with|none=>simp only[act,aY]at hA;exact zfn S hd aY hA hs|some m=>simp only[act,aY]at hA;subst hA;exact hs.elim
 | lookup t x y k =>
  simp only[act,aY]at hA;exact zaJ S hd aY hA hs
 | mapUpdate t x y z =>
  simp only[act,aY]at hA;exact zfm S hd aY hA hs
 | makeMap t x =>
  cases x with
  | none =>
   simp only[act,aMm,aY]at hA;split at hA;split at hA;split at hA;rename_i hE;exact zaK S hd aY hE hA hs;subst hA;exact hs.elim;subst hA;exact hs.elim;subst hA;exact hs.elim
  | some x=>simp only[act,aMm,aY]at hA;subst hA;exact hs.elim
 | makeSlice t x y=>simp only[act,aY]at hA;exact PW S hd aY hA hs
 | makeFunc fn first caps =>
  cases fn with|func f=>exact TA S hd aY tH hs|_=>simp only[act,aMf,aY]at hA;subst hA;exact hs.elim
 | call c =>
  obtain⟨callee,args,ts⟩:=c;cases callee with
  | value f=>exact ziT gp S hd aY tH hs
  | invoke x m=>simp only[act,aY]at hA;subst hA;exact hs.elim
  | builtin b =>
   cases b with|len=>exact zo3 S hd aY tH hs|max=>exact zo4 S hd aY tH hs|min=>exact zo5 S hd aY tH hs|append=>exact zaF S hd aY tH hs|_=>simp only[act,aY]at hA;subst hA;exact hs.elim
 | _=>simp only[act,aY]at hA;subst hA;exact hs.elim
end
end Go.Pm
namespace Go.Pm
variable [aH]
open Go.RowKit (Below)
theorem lH{α:Type}{f:α→α}{l:List (Nat×α)}:∀{ks:List Nat}{t:Nat}{x:α},lk (yc f l ks) t=some x→∃y,lk l t=some y∧x=f y∧t∈ks
  | [],t,x,h=>by simp[yc,lk]at h
  | k::ks,t,x,h=>by
    simp only[yc]at h;split at h;rename_i d hd;rw[aV]at h;split at h;rename_i e;simp only[bM]at h;subst e;exact⟨d,hd,h.symm,kH⟩;obtain⟨y,h1,h2,h3⟩:=lH h;exact⟨y,h1,h2,jM _ h3⟩;obtain⟨y,h1,h2,h3⟩:=lH h;exact⟨y,h1,h2,jM _ h3⟩
theorem qX{α:Type}{f:α→α}{l:List (Nat×α)}:∀{ks:List Nat}{t:Nat}{y:α},lk l t=some y→t∈ks→lk (yc f l ks) t=some (f y)
  | [],t,y,_,ht=>by simp at ht
  | k::ks,t,y,h,ht=>by
    simp only[yc];by_cases hk:k=t;subst hk;rw[h];rw[aV,eU rfl];have ht':t∈ks:=(jV.1 ht).elim (fun h=>absurd h.symm hk) fun h=>h;split;rw[aV,eY hk];exact qX h ht';exact qX h ht'
section
variable{P:Program}{Γ:bI}{nt B:Nat}{w0:World}{h0:Fz}{g:Gh}{σ:St}{a:Act}{w:World}{r:Option Nat}{n i:Nat}{Q:Exit->Act->World->Prop}
theorem Q3{c:Cl}{x:Value}(h:jk g c x):jk g (tN c) x:=by
 cases c<;>exact h
theorem Ce:∀{cs:List Cl}{vs:List Value},RL (jk g) cs vs→RL (jk g) (cs.map tN) vs|[],[],_=>trivial|[],_::_,h=>h.elim|_::_,[],h=>h.elim|_::_,_::_,h=>⟨Q3 h.1,Ce h.2⟩
theorem MR{d:D1}{x:Value}(h:BB g d x):BB g (yS d) x:=by
 cases d with
 | c y=>exact Q3 h
 | agg cs=>obtain⟨vs,rfl,hr⟩:=h;exact⟨vs,rfl,Ce hr⟩
theorem IP:∀{cs:List D1}{vs:List Value},RL (BB g) cs vs→RL (BB g) (cs.map yS) vs|[],[],_=>trivial|[],_::_,h=>h.elim|_::_,[],h=>h.elim|_::_,_::_,h=>⟨MR h.1,IP h.2⟩
theorem ziU{d:DV}{x:Value}(h:rW g d x):rW g (SS d) x:=by
 cases d with
 | one y=>exact MR h
 | tup ds=>obtain⟨vs,rfl,hr⟩:=h;exact⟨vs,rfl,IP hr⟩
theorem IQ{c:Cl}:∀M∈bg (tN c),M∈bg c:=by
 cases c<;>first|exact λ_ h=>h|(intro M h;simp[tN,bg]at h)
theorem IR{cs:List Cl}:∀M∈(cs.map tN).flatMap bg,M∈cs.flatMap bg:=by
 intro M hM;simp only[mg,uu]at hM ⊢;obtain⟨_,⟨c,hc,rfl⟩,hM⟩:=hM;exact⟨c,hc,IQ M hM⟩
theorem D6{d:D1}:∀M∈dC (yS d),M∈dC d:=by
 cases d with|c y=>exact IQ|agg cs=>exact IR
theorem zaQ{d:DV}:∀M∈bY (SS d),M∈bY d:=by
 cases d with
 | one y=>exact D6
 | tup ds =>
  intro M hM;simp only[SS,bY,mg,uu]at hM ⊢;obtain⟨_,⟨d,hd,rfl⟩,hM⟩:=hM;exact⟨d,hd,D6 M hM⟩
theorem Xq{o:AO}:∀M∈dS (JV o),M∈dS o:=by
 cases o with|box ty cs=>exact IR|_=>exact λ_ h=>h
theorem zfq{B L:Nat}{o:AO}(h:Pz P g w B L o):Pz P g w B L (JV o):=by
 cases o with
 | box ty cs=>obtain⟨C,hC,hr⟩:=h;exact⟨C,hC,Ce hr⟩
 | _=>exact h
theorem IU{L:Nat}{o:AO}:gY g L (JV o)=gY g L o:=by cases o<;>rfl
theorem bU.env'(S:bU P nt B w0 h0 g σ a w){t:Nat}{d:DV}(hv:rW g d (a.tmps.getD t undef))(hl:∀L∈bY d,∃o,lk σ.ax L=some o) :
  bU P nt B w0 h0 g {σ with env:=(t,d)::σ.env} a w:=by
 refine⟨S.dfr,S.size,?_,S.obj,S.own,S.sep,S.hw,S.le0,S.hn,S.below,S.bs,?_,S.clO⟩;intro u e hu;simp only[aV]at hu;split at hu;rename_i h;simp only[bM]at hu;subst hu;rw[<- h];exact hv;exact S.env u e hu;intro u e hu;simp only[aV]at hu;split at hu;simp only[bM]at hu;subst hu;exact hl;exact S.clE u e hu
theorem J8{P:Program}{e:TypeId}:RS (Dy P e) (Dy P e):=by
 unfold Dy;split
 ·rename_i z hz;split
  ·rename_i l hl;obtain⟨vs,hv⟩:∃vs,jF vs=some z:=by
    unfold gX at hz
    repeat' split at hz
    all_goals first|(cases hz;done)|(cases hz;exact⟨_,by assumption⟩)
   have h:=kR (g:=⟨λ_=>none,λ_=>0,λ_=>undef,λ_ _=>undef⟩) _ _ hv;rw[oP hl]at h;have h:=RL.map_left.1 h;exact yV (vJ h)
  trivial
 trivial
theorem bU.coerce(S:bU P nt B w0 h0 g σ a w){L e:Nat}{ie:TypeInfo}{z:List Cl}{get:Nat→List PV}(hu:uC get)(hL:lk σ.ax L=none)(hi:P.info? e=some ie)(hz:gX P e=some z)(hp:0<ie.size) :
  bU P nt B w0 h0 (g.setSv L (.slice none 0 0)) {σ with ax:=(L,.vec e ie.size ie.bytes 0 get)::σ.ax} a w:=by
 obtain⟨zv,Iw,Bl⟩:=je hz hi;refine S.newVec hL (.refl B w) (λ_ _=>rfl) (λb hb=>by simp[Value.ownBlock]at hb) ⟨⟨hu,hp⟩,⟨ie,zv,hi,rfl,rfl,Iw,Bl⟩,[],?_,λk hk=>absurd hk omY⟩;rw[show(g.setSv L (.slice none 0 0)).sv L=.slice none 0 0 by simp[Gh.setSv]];exact World.ownsRow_nil w B e ie.size
theorem MS{h:Fz}{v:Value}(hr:Rep h .nils v):v=.slice none 0 0:=by cases hr;rfl
theorem uH:∀(l:List (Nat×Nat×Nat))(σ σ':St)(g:Gh),mW P l σ=some σ'→bU P nt B w0 h0 g σ a w→∃g',bU P nt B w0 h0 g' σ' a w
  | [],σ,σ',g,h,S=>by simp[mW]at h;subst h;exact⟨g,S⟩
  | (t,L,e)::l,σ,σ',g,h,S=>by
    simp only[mW]at h;split at h;rename_i ht;split at h;rename_i ie z hL hi hz;split at h;rename_i hp;have S1:=S.coerce (get:=λ_=>Dy P e) (Ll J8) hL hi hz (qjP (qdZ hp));have hv:a.tmps.getD t undef=.slice none 0 0:=MS (S.env t _ ht);have S2:=S1.env' (t:=t) (d:=.cl (.vec L)) (by rw[hv];simp[rW,BB,jk,Gh.setSv,Value.oneCell']) (λM hM=>by simp[bY,dC,bg]at hM;subst hM;exact⟨_,by rw[aV,eU rfl]⟩);exact uH l _ σ' _ h S2;cases h;cases h;exact uH l σ σ' g h S;cases h
theorem uI:∀(l:List (Nat×Nat×Nat×Nat))(σ σ':St)(g:Gh),mX P l σ=some σ'→bU P nt B w0 h0 g σ a w→∃g',bU P nt B w0 h0 g' σ' a w
  | [],σ,σ',g,h,S=>by simp[mX]at h;subst h;exact⟨g,S⟩
  | (bx,k,L,e)::l,σ,σ',g,h,S=>by
    simp only[mX]at h;split at h;rename_i ty cs Gp;split at h;rename_i hk;split at h;rename_i ie z hL hi hz;split at h;rename_i hp;have S1:=S.coerce (get:=λ_=>Dy P e) (Ll J8) hL hi hz (qjP (qdZ hp));have jb:L≠bx:=λe=>by subst e;rw[hL]at Gp;cases Gp
    have MV:lk ({σ with ax:=(L,AO.vec e ie.size ie.bytes 0 (λ_=>Dy P e))::σ.ax}:St).ax bx=some (.box ty cs):=by
      show lk ((L,AO.vec e ie.size ie.bytes 0 (λ_=>Dy P e))::σ.ax) bx=_;rw[aV,eY jb];exact Gp
    obtain⟨C,hC,hr⟩:=S1.obj bx _ MV;obtain⟨v,hv,hkv⟩:=hr.get k _ hk;have hv0:v=.slice none 0 0:=MS hkv;subst hv0;have Xr:C.toList.set k (.slice none 0 0)=C.toList:=by
      apply qdd;intro j;by_cases hj:j=k;subst hj;have iF:=(BP.1 hv).1;rw[qjX iF,hv];rw[qjy (λe=>hj e.symm)]
    have S2 := S1.write (o' := .box ty (cs.set k (.vec L))) (w' := w) MV (fun b hb => hb) (.refl B w) (fun _ _ => rfl)
      ⟨C,hC,by rw[<- Xr];exact hr.set k (by simp[jk,Gh.setSv,Value.oneCell'])⟩
      (λM hM=>by
        simp only[dS,mg]at hM;obtain⟨c,hc,hM⟩:=hM;rcases qdn hc with h|h
        exact S1.clO bx _ MV M (mg.2 ⟨c,h,hM⟩);subst h;simp[bg]at hM;subst hM;exact⟨_,by rw[aV,eU rfl]⟩)
    exact uI l _ σ' _ h S2;cases h;cases h;exact uI l σ σ' g h S;cases h;cases h
theorem bU.adopt0(S:bU P nt B w0 h0 g σ a w){t:Nat}{o':AO}{g':Gh}(ht:lk σ.ax t=none)(hh:g'.h=g.h)(hs:∀M,M≠t→jd g g' M)
    (hv:∀k,¬gY g' t o' k) (hr:Pz P g' w B t o') (Bo:dS o'=[]):bU P nt B w0 h0 g' {σ with ax:=(t,o')::σ.ax} a w:=by
  have jb:∀L o,lk σ.ax L=some o->L≠t:=λL o h e=>by subst e;rw[ht]at h;cases h
  have fG:∀L o,lk σ.ax L=some o->jd g g' L:=λL o h=>hs L (jb L o h);have hle:ku g.h g'.h:=by rw[hh];exact λ_ _ h=>h
  have kJ:∀L o,lk ((t,o')::σ.ax) L=some o->(L=t/\o=o')\/(L≠t/\lk σ.ax L=some o):=by
    intro L o h;rw[aV]at h;split at h;rename_i e;simp only[bM]at h;exact .inl ⟨e.symm,h.symm⟩;rename_i e;exact .inr ⟨λe'=>e e'.symm,h⟩
  refine S.change (g':=g') fG hle (by rw[hh];exact S.hw) (λb o h=>.inl (by rw[hh]at h;exact h)) (.refl _ B w) ?_ ?_ ?_ ?_ ?_;intro L o ho;rcases kJ L o ho with⟨rfl,rfl⟩|⟨_,ho⟩
  exact hr;exact jX (S.obj L o ho) (fG L o ho) (λM hM=>by obtain⟨o',kV⟩:=S.clO L o ho M hM;exact fG M o' kV) hle λ_ _=>rfl;intro L o k ho hk;rcases kJ L o ho with⟨rfl,rfl⟩|⟨_,ho⟩
  exact(hv k hk).elim;rw[gV (fG L o ho)]at hk;rw[hh];exact S.own L o k ho hk;intro L o k L' o2 ho kV hk jO;rcases kJ L o ho with⟨rfl,rfl⟩|⟨_,o9⟩<;>rcases kJ L' o2 kV with⟨rfl,rfl⟩|⟨_,nS⟩
  rfl;exact(hv k hk).elim;exact(hv k jO).elim;rw [gV (fG L o o9)]at hk;rw [gV (fG L' o2 nS)]at jO;exact S.sep L o k L' o2 o9 nS hk jO;intro L o ho;refine⟨o,?_⟩;rw[aV,eY (λe=>jb L o ho e.symm)];exact ho;intro L o ho M hM;rcases kJ L o ho with⟨rfl,rfl⟩|⟨_,ho⟩
  rw[Bo]at hM;simp at hM;obtain⟨o2,o9⟩:=S.clO L o ho M hM;exact⟨o2,by rw[aV,eY (λe=>jb M o2 o9 e.symm)];exact o9⟩
theorem uJ:∀(l:List (Nat×Nat×Nat×Nat×Nat))(σ σ':St)(g:Gh),mY P l σ=some σ'→bU P nt B w0 h0 g σ a w→∃g',bU P nt B w0 h0 g' σ' a w
  | [],σ,σ',g,h,S=>by simp[mY]at h;subst h;exact⟨g,S⟩
  | (bx,k,L,te,e)::l,σ,σ',g,h,S=>by
    simp only[mY]at h;split at h;rename_i ty cs Gp;split at h;rename_i hk;split at h;rename_i it zt hL hit hzt;split at h;rename_i ie z hi hz;split at h;rename_i hp;simp only[fQ]at hp;have hs1:=lu hp.1;have iL:0<ie.size:=qjP (qdZ hp.2);obtain⟨zv,Iw,Bl⟩:=je hz hi;obtain⟨tv,htv,hts⟩:=je hzt hit;let g':=g.setVv L (.slice none 0 0) (λ_=>.slice none 0 0);have mO:g'.sv L=.slice none 0 0:=by simp[g',Gh.setVv]
    have S1 := S.adopt0 (t := L) (o' := .vv te it.bytes e ie.size ie.bytes 0 (fun _ => 0) (fun _ _ => Dy P e)) (g' := g') hL rfl zaD
      (λk hk=>by
        rcases hk with hk|⟨i,hi,_⟩
        rw[mO]at hk;cases hk;omega)
      ⟨⟨λ_ _ _ _=>J8,iL⟩,⟨it,tv,hit,hs1,rfl,htv,by rw[hts,hs1]⟩,⟨ie,zv,hi,rfl,rfl,Iw,Bl⟩,by rw[mO];exact World.ownsRow_nil w B te 1,λi hi=>absurd hi omY,λi k hi=>absurd hi omY⟩ rfl
    have jb:L≠bx:=λe=>by subst e;rw[hL]at Gp;cases Gp
    have MV:lk ({σ with ax:=(L,AO.vv te it.bytes e ie.size ie.bytes 0 (λ_=>0) (λ_ _=>Dy P e))::σ.ax}:St).ax bx=some (.box ty cs):=by
      show lk ((L,AO.vv te it.bytes e ie.size ie.bytes 0 (λ_=>0) (λ_ _=>Dy P e))::σ.ax) bx=_;rw[aV,eY jb];exact Gp
    obtain⟨C,hC,hr⟩:=S1.obj bx _ MV;obtain⟨v,hv,hkv⟩:=hr.get k _ hk;have hv0:v=.slice none 0 0:=MS hkv;subst hv0;have Xr:C.toList.set k (.slice none 0 0)=C.toList:=by
      apply qdd;intro j;by_cases hj:j=k;subst hj;have iF:=(BP.1 hv).1;rw[qjX iF,hv];rw[qjy (λe=>hj e.symm)]
    have S2 := S1.write (o' := .box ty (cs.set k (.vec L))) (w' := w) MV (fun b hb => hb) (.refl B w) (fun _ _ => rfl)
      ⟨C,hC,by rw[<- Xr];exact hr.set k ⟨mO.symm,rfl⟩⟩
      (λM hM=>by
        simp only[dS,mg]at hM;obtain⟨c,hc,hM⟩:=hM;rcases qdn hc with h|h
        exact S1.clO bx _ MV M (mg.2 ⟨c,h,hM⟩);subst h;simp[bg]at hM;subst hM;exact⟨_,by rw[aV,eU rfl]⟩)
    exact uJ l _ σ' _ h S2;cases h;cases h;cases h;exact uJ l σ σ' g h S;cases h;cases h
theorem D9{ob:Nat→Option AO}:∀{ks:List Nat}{x:Nat×AO},x∈Gx ob ks→∃ty cells l,ob x.1=some (.box ty cells)∧x.2 = .fbox l∧jH ob cells=some (l,[])
  | [],x,h=>by simp[Gx]at h
  | k::ks,x,h=>by
    simp only[Gx]at h;split at h;rename_i ty cells hk;split at h;rename_i l hl;rcases jV.1 h with rfl|h
    exact⟨ty,cells,l,hk,rfl,hl⟩;exact D9 h;exact D9 h;exact D9 h
theorem Xt{ob:Nat->Option AO}{ks:List Nat}:fF ob (Gx ob ks):=λx hx=>by
 obtain⟨ty,cells,l,h1,h2,h3⟩:=D9 hx;exact .inr (.inl ⟨ty,cells,l,[],h1,h2,Tc h3,λy hy=>by simp at hy⟩)
theorem MW{ob:Nat→Option AO}:∀{ks:List Nat},fF ob (PQ ob ks)
  | []=>fF.nil ob
  | L::r=>λx hx=>by
    simp only[PQ]at hx;split at hx;rename_i e s b n get hL;rcases jV.1 hx with rfl|hx
    exact .inl ⟨_,_,_,_,_,hL,rfl⟩;exact(MW x hx).mono λy hy=>by simp only[PQ,hL];exact jM _ hy
    rename_i hn;refine(MW x hx).mono λy hy=>?_;show y∈PQ ob (L::r);unfold PQ;split;exact jM _ hy;exact hy
theorem uK:∀(l:List Nat)(σ σ':St)(g:Gh),mZ l σ=some σ'→bU P nt B w0 h0 g σ a w→∃g',bU P nt B w0 h0 g' σ' a w
  | [],σ,σ',g,h,S=>by simp[mZ]at h;subst h;exact⟨g,S⟩
  | t::r,σ,σ',g,h,S=>by
    unfold mZ at h;split at h;rename_i x hx;have hv:=S.env t _ hx;split at h;exact uK r _ σ' g h S;split at h;rename_i v u hf;obtain⟨h',S1,F⟩:=S.freeze (zaE hf);have hr:=F.rep hf (λy hy=>hy) hv;exact uK r _ σ' _ h (S1.env' (t:=t) (d:=.p v) hr (λL hL=>by simp[bY,dC,bg]at hL));cases h;cases h
theorem zc6{P:Program}{e:Nat}{g:Gh}{x:Cl}{v:Value}(r:jk g x v):jk g (Gy P e x) v:=by
 unfold Gy;split;split;exact Rep.up (.nil _ _ (Ll J8)) r;exact r;exact r
theorem Xu{P:Program}{e:Nat}{x:Cl}:bg (Gy P e x)=bg x:=by
 unfold Gy;split;split<;>rfl;rfl
theorem ziV{P:Program}{e b:Nat}{g:Gh}{cs:List Cl}{vs:List Value}(r:RL (jk g) cs vs):RL (jk g) (WA b (Gy P e) cs) vs:=by
 unfold WA;split;rename_i x hx;obtain⟨v,hv,yA⟩:=r.get b _ hx;have:=r.set b (a:=Gy P e x) (b:=v) (zc6 yA);have e:vs.set b v=vs:=by
  obtain⟨iF,hv⟩:=BP.1 hv;rw[<- hv,jqV]
 rwa[e]at this;exact r
theorem Xv{P:Program}{e b:Nat}{cs:List Cl}{M:Nat}(h:M∈(WA b (Gy P e) cs).flatMap bg):M∈cs.flatMap bg:=by
 unfold WA at h;split at h;rename_i x hx;obtain⟨c,hc,hM⟩:=mg.1 h;rcases qdn hc with hc|rfl
 exact mg.2 ⟨c,hc,hM⟩;rw [Xu]at hM;exact mg.2 ⟨x,KP hx,hM⟩;exact h
theorem Ea{α:Type}{k:Nat}{x:α}:∀{l:List (Nat×α)},(∃y,lk l k=some y)→∀n,lk (zav k x l) n=lk ((k,x)::l) n
  | [],⟨_,h⟩,_=>by cases h
  | (j,y)::r,h,n=>by
    unfold zav;cases hb:Nat.beq j k with
    | true =>
      have:=lu hb;subst this;simp only[aV];split<;>rfl
    | false =>
      have jb:=qdA hb;obtain⟨z,hz⟩:=h;rw[aV,eY jb]at hz;have ih:=Ea (x:=x) ⟨z,hz⟩ n;simp only[aV]at ih ⊢;by_cases h1:j=n;rw[eU h1,eY (λe=>jb (h1.trans e.symm)),eU h1];rw[eY h1,ih,eY h1]
theorem bU.lk_congr(S:bU P nt B w0 h0 g σ a w){τ:St}(h1:∀L,lk τ.env L=lk σ.env L)(h2:∀L,lk τ.ax L=lk σ.ax L):bU P nt B w0 h0 g τ a w :=
 ⟨S.dfr,S.size,λt d ht=>S.env t d (by rw[<- h1];exact ht),λL o ho=>S.obj L o (by rw[<- h2];exact ho),λL o b ho=>S.own L o b (by rw[<- h2];exact ho),
  λL o b L' o' ho kV=>S.sep L o b L' o' (by rw[<- h2];exact ho) (by rw[<- h2];exact kV),S.hw,S.le0,S.hn,S.below,S.bs,
  λt d ht L hL=>by rw[h2];exact S.clE t d (by rw[<- h1];exact ht) L hL,λL o ho M hM=>by rw[h2];exact S.clO L o (by rw[<- h2];exact ho) M hM⟩
theorem zfr{k b e L:Nat}(S:bU P nt B w0 h0 g σ a w):bU P nt B w0 h0 g (nf1 P k L b e σ) a w:=by
 unfold nf1;split;split;rename_i x hx;exact(S.env' (d:=.one (.c (Gy P e x))) (zc6 (S.env L _ hx)) λM hM=>S.clE L _ hx M (by simpa [bY,dC,Xu]using hM)).lk_congr (Ea ⟨_,hx⟩) λ_=>rfl;rename_i cs hx;obtain⟨vs,hv,hr⟩:=S.env L _ hx;exact(S.env' (d:=.one (.agg (WA b (Gy P e) cs))) ⟨vs,hv,ziV hr⟩ λM hM=>S.clE L _ hx M (Xv hM)).lk_congr (Ea ⟨_,hx⟩) λ_=>rfl;exact S;split;rename_i ty cs hL;obtain⟨D,hD,hr⟩:=S.obj L _ hL;exact(S.write2 (w':=w) (o':=.box ty (WA b (Gy P e) cs)) hL (λ_ h=>h) (.refl B w) (λ_ _ _=>rfl) ⟨D,hD,ziV hr⟩ λM hM=>S.clO L _ hL M (Xv hM)).lk_congr (λ_=>rfl) (Ea ⟨_,hL⟩);exact S
theorem BD:∀{l:List (Nat×Nat×Nat×Nat)}{σ:St},bU P nt B w0 h0 g σ a w→bU P nt B w0 h0 g (JW P l σ) a w|[],_,S=>S|(_,_,_,_)::l,_,S=>BD (l:=l) (zfr S)
theorem TC{k:Keep}{s:St}{g:Gh}{σ:St}(h:yU P k σ=some s)(S:bU P nt B w0 h0 g σ a w):∃g',bU P nt B w0 h0 g' s a w:=by
 unfold yU at h;split at h;cases h;rename_i σ1 h1;obtain⟨g1,S1⟩:=uH k.coT σ σ1 g h1 S;split at h;cases h;rename_i σ2 h2;obtain⟨g2',S2'⟩:=uI k.coB σ1 σ2 g1 h2 S1;split at h;cases h;rename_i σ3 h3;obtain⟨g2,S2⟩:=uJ k.coV σ2 σ3 g2' h3 S2';simp only[]at h;split at h;rename_i Bv;simp only[bM]at h;subst h;simp only[fQ,yL]at Bv;obtain⟨F6,hc2⟩:=Bv;have V4:∀{jl l:List Nat},zau jl l=true->∀L∈l,L∈jl:=by
  intro jl l h L hL;have:=yL.1 h L hL;simpa using this
 refine⟨g2,S2.dfr,S2.size,?_,?_,?_,?_,S2.hw,S2.le0,S2.hn,S2.below,S2.bs,?_,?_⟩;intro t d ht;obtain⟨y,h1,rfl,_⟩:=lH ht;exact ziU (S2.env t y h1);intro L o ho;obtain⟨y,h1,rfl,_⟩:=lH ho;exact zfq (S2.obj L y h1);intro L o b ho hb;obtain⟨y,h1,rfl,_⟩:=lH ho;rw[IU]at hb;exact S2.own L y b h1 hb;intro L o b L' o' ho kV hb mP;obtain⟨y,h1,rfl,_⟩:=lH ho;obtain⟨y',h1',rfl,_⟩:=lH kV;rw[IU]at hb mP;exact S2.sep L y b L' y' h1 h1' hb mP;intro t d ht L hL;have hm:=V4 (F6 (t,d) (fK ht)) L hL;obtain⟨y,h1,rfl,_⟩:=lH ht;obtain⟨o,ho⟩:=S2.clE t y h1 L (zaQ L hL);exact⟨_,qX ho hm⟩;intro L o ho M hM;have hm:=V4 (hc2 (L,o) (fK ho)) M hM;obtain⟨y,h1,rfl,_⟩:=lH ho;obtain⟨o',kV⟩:=S2.clO L y h1 M (Xq M hM);exact⟨_,qX kV hm⟩;cases h
theorem zaR{n:Nat}(S:bU P nt B w0 h0 g σ a w):∃g',bU P nt B w0 h0 g' (ze1 σ n) a w:=by
  unfold ze1;generalize (n-1000000)/64=bx;generalize (n-1000000)%64=kx;split;exact⟨g,S⟩;split;rename_i ty cs Gp;split;rename_i L hk;split;rename_i e s b len get hL;obtain⟨h',S1,F⟩:=S.freeze (u:=[(L,.fvec s len get)]) (λx hx=>by
    simp only[mf]at hx;subst hx;exact .inl ⟨_,_,_,_,_,hL,rfl⟩)
  have jb:L≠bx:=λe=>by subst e;rw[hL]at Gp;cases Gp
  have MV:lk ([(L,AO.fvec s len get)]++σ.ax) (bx)=some (.box ty cs):=by
    show lk ((L,AO.fvec s len get)::σ.ax) _=_;rw[aV,eY jb];exact Gp
  obtain⟨C,hC,hr⟩:=S1.obj _ _ MV;obtain⟨v,hv,hkv⟩:=hr.get _ _ hk;have zhx:Rep h' (.sl len s get) v:=by
    have hkv:v=g.sv L/\_:=hkv;rw[hkv.1];exact F.vec L e s b len get hL (by simp)
  have Xr:C.toList.set kx v=C.toList:=by
    apply qdd;intro j;by_cases hj:j=kx;subst hj;have iF:=(BP.1 hv).1;rw[qjX iF,hv];rw[qjy (λe=>hj e.symm)]
  have S2 := S1.write (o' := .box ty (cs.set kx (.p (.sl len s get)))) (w' := w) MV (fun b hb => hb) (.refl B w) (fun _ _ => rfl)
    ⟨C,hC,by rw[<- Xr];exact hr.set _ zhx⟩
    (λM hM=>by
      simp only[dS,mg]at hM;obtain⟨c,hc,hM⟩:=hM;rcases qdn hc with h|h
      exact S1.clO _ _ MV M (mg.2 ⟨c,h,hM⟩);subst h;simp[bg]at hM)
  exact⟨_,S2⟩;exact⟨g,S⟩;exact⟨g,S⟩;exact⟨g,S⟩
theorem Q4:∀(l:List Nat)(σ:St)(g:Gh),bU P nt B w0 h0 g σ a w→∃g',bU P nt B w0 h0 g' (coP l σ) a w
  | [],σ,g,S=>⟨g,S⟩
  | n::r,σ,g,S=>by
    obtain⟨g1,S1⟩:=zaR (n:=n) S;exact Q4 r _ g1 S1
theorem eQ{k:Keep}{s:St}(h:canon P k σ=some s)(S:bU P nt B w0 h0 g σ a w):∃g',bU P nt B w0 h0 g' s a w:=by
 obtain⟨h',S1,_⟩:=S.freeze ((Xt (ob:=lk σ.ax) (ks:=k.coF)).append (MW (ob:=lk σ.ax) (ks:=k.coF)));unfold canon at h;split at h;rename_i s1 h1;obtain⟨g0,S0⟩:=Q4 k.coF (ze0 k.coF σ) _ S1;obtain⟨g1,S2⟩:=uK k.coZ (coP k.coF (ze0 k.coF σ)) s1 _ h1 S0;split at h;rename_i s2 h2;obtain⟨g2,S3⟩:=TC h2 S2;cases h;exact⟨g2,BD S3⟩;cases h;cases h
end
end Go.Pm
namespace Go.Pm
variable [aH]
open Go.RowKit (Below)
section
variable{P:Program}{Γ:bI}{nt B:Nat}{w0:World}{h0:Fz}{g:Gh}{σ:St}{a:Act}{w:World}{r:Option Nat}{n i:Nat}{Q:Exit->Act->World->Prop}
theorem J9{o:Oper}{R R':Act->World->Prop}(h:o.wpIn (FR r) n P a w R Q)(hR:∀a w,R a w->R' a w):o.wpIn (FR r) n P a w R' Q:=by
 refine⟨h.1,?_⟩;have h2:=h.2;generalize (o.semAt (FR r).round a.eval).run P w=res at h2 ⊢
 match res,h2 with
 | .ok (.value v) w',h2=>exact hR _ _ h2
 | .ok .skip w',h2=>exact hR _ _ h2
 | .ok (.defer d) w',h2=>exact hR _ _ h2
 | .ok (.enter f args) w',h2 =>
  refine⟨h2.1,h2.2.mono ?_⟩;intro e AV he;cases e with|returned v=>exact hR _ _ he|panicked ch=>exact he|outgrown=>exact he
 | .ok (.row row args) w',h2=>exact⟨h2.1,h2.2.mono λv AV hv=>hR _ _ hv⟩
 | .ok (.round l f tmps x y) w',h2 =>
  refine⟨h2.1,h2.2.mono ?_⟩;intro e AV he;cases e with|returned v=>exact hR _ _ he|panicked ch=>exact he|outgrown=>exact he
 | .halt (.panic v) w',h2=>exact h2
theorem zpk{o:Oper}{R:Act->World->Prop}{Q':Exit->Act->World->Prop}(h:o.wpIn (FR r) n P a w R Q')(hp:∀ch a w,Q' (.panic ch) a w->Q (.panic ch) a w)(ho:LetsOut Q'->LetsOut Q):o.wpIn (FR r) n P a w R Q:=by
 refine⟨h.1,?_⟩;have h2:=h.2;generalize (o.semAt (FR r).round a.eval).run P w=res at h2 ⊢
 match res,h2 with
 | .ok (.value v) w',h2=>exact h2
 | .ok .skip w',h2=>exact h2
 | .ok (.defer d) w',h2=>exact h2
 | .ok (.enter f args) w',h2 =>
  refine⟨h2.1,h2.2.mono ?_⟩;intro e AV he;cases e with|returned v=>exact he|panicked ch=>exact hp _ _ _ he|outgrown=>exact ho he
 | .ok (.row row args) w',h2=>exact h2
 | .ok (.round l f tmps x y) w',h2 =>
  refine⟨h2.1,h2.2.mono ?_⟩;intro e AV he;cases e with|returned v=>exact he|panicked ch=>exact hp _ _ _ he|outgrown=>exact ho he
 | .halt (.panic v) w',h2=>exact hp _ _ _ h2
theorem rY {ops : Array Oper} {l2 : List Nat} : ∀ (l1 : List Nat) (a : Act) (w : World), wpOpsIn (FR r) n P ops (fun e a w => match e with | .normal => wpOpsIn (FR r) n P ops Q l2 a w | e => Q e a w) l1 a w → wpOpsIn (FR r) n P ops Q (l1 ++ l2) a w
  | [],a,w,h=>h
  | i::l1,a,w,h=>by
    simp only[qdW,wpOpsIn]at h ⊢;split at h;exact rY l1 a w h;split at h;rename_i hw;rw[eU hw];exact zpk (J9 h λa w h=>rY l1 a w h) (λch a w h=>h) (λ⟨a,w,h⟩=>⟨a,w,h⟩);rename_i hw;rw[eY hw];exact⟨h.1,rY l1 _ w h.2⟩
theorem zaS{o:Oper}{R:Act->World->Prop}(h:o.wpIn (FR r) n P a w R Q):o.wpIn (FR r) n P a w (λa' w'=>R a' w'/\∃v ds,a'=({a with defers:=ds}:Act).put o.dst v) Q:=by
 refine⟨h.1,?_⟩;have h2:=h.2;generalize (o.semAt (FR r).round a.eval).run P w=res at h2 ⊢
 match res,h2 with
 | .ok (.value v) w',h2=>exact⟨h2,v,a.defers,rfl⟩
 | .ok .skip w',h2=>exact⟨h2,undef,a.defers,rfl⟩
 | .ok (.defer d) w',h2=>exact⟨h2,undef,d::a.defers,rfl⟩
 | .ok (.enter f args) w',h2 =>
  refine⟨h2.1,h2.2.mono ?_⟩;intro e AV he;cases e with|returned v=>exact⟨he,v,a.defers,rfl⟩|panicked ch=>exact he|outgrown=>exact he
 | .ok (.row row args) w',h2=>exact⟨h2.1,h2.2.mono λv AV hv=>⟨hv,v,a.defers,rfl⟩⟩
 | .ok (.round l f tmps x y) w',h2 =>
  refine⟨h2.1,h2.2.mono ?_⟩;intro e AV he;cases e with|returned v=>exact⟨he,v,a.defers,rfl⟩|panicked ch=>exact he|outgrown=>exact he
 | .halt (.panic v) w',h2=>exact h2
def Kp(D:List Nat)(a a':Act):Prop:=(∀t,t∉D->a'.tmps.getD t undef=a.tmps.getD t undef)/\a'.tmps.size=a.tmps.size/\(IC∉D->a'.defers=a.defers)/\∀d∈a'.defers,d∈a.defers\/∃b,d.target=.collected b
theorem Kp.refl(D:List Nat)(a:Act):Kp D a a:=⟨λ_ _=>rfl,rfl,λ_=>rfl,λ_ h=>.inl h⟩
theorem Kp.put{D:List Nat}{a0 a:Act}(h:Kp D a0 a){dst:Option Nat}(hd:∀t,dst=some t->t∈D)(v:Value)(ds:List Deferred)(Qm:ds=a.defers):Kp D a0 (({a with defers:=ds}:Act).put dst v):=by
 subst Qm;cases dst with
 | none=>exact h
 | some t =>
  refine⟨λu hu=>?_,by simp[Act.put,h.2.1],λhr=>h.2.2.1 hr,λd hd=>h.2.2.2 d hd⟩;have jb:t≠u:=λe=>hu (e▸hd t rfl);rw[<- h.1 u hu];simp[Act.put,yB,qdK jb]
theorem xh{ops:Array Oper}{tmps:Array Value}{j g:Nat}{b:Bool}(hg:(ops[j]?).bind (·.dst)=some g)(hv:tmps.getD g undef=.bool b):yielded ops tmps j=some b:=by
 unfold yielded;rw[hg];simp only[jqs];rw[yB]at hv;cases h:tmps[g]? with|none=>rw[h]at hv;simp[undef]at hv|some v=>rw[h]at hv;simp only[qdO]at hv;subst hv;rfl
theorem uM{ops:Array Oper}{tmps:Array Value}{j g:Nat}(hg:(ops[j]?).bind (·.dst)=some g)(hv:tmps.getD g undef=undef):yielded ops tmps j=none:=by
 unfold yielded;rw[hg];simp only[jqs];rw[yB]at hv;cases h:tmps[g]? with|none=>rfl|some v=>rw[h]at hv;simp only[qdO]at hv;subst hv;rfl
theorem bU.skip(S:bU P nt B w0 h0 g σ a w){dst:Option Nat}(hd:dH nt dst=true):bU P nt B w0 h0 g (σ.skip dst) (a.put dst undef) w:=by
 have:=S.put (d:=.cl .undef) (v:=undef) hd rfl (λL hL=>by simp[bY,dC,bg]at hL) σ.log;cases dst<;>exact this
theorem zn(gp:jw P Γ){ops:Array Oper}{K:St→Prop}{D:List Nat}{a0:Act}{ad:List Deferred}(hD:∀(j:Nat)(o:Oper),ops[j]? = some o→∀t,o.dst=some t→t∈D)
    (hQ:∀σ',K σ'->∀g' a' w',bU P nt B w0 h0 g' σ' a' w'->Kp D a0 a'->a'.defers=ad->Q .normal a' w') :
    ∀(l:List Oper)(i:Nat)(σ:St)(g:Gh)(a:Act)(w:World),(∀j,j<l.length->l[j]? = ops[i+j]?)->kE P Γ nt ops i l K σ->bU P nt B w0 h0 g σ a w->Kp D a0 a->a.defers=ad ->
      wpOpsIn (FR r) n P ops Q (List.range' i l.length) a w:=by
  intro l
  induction l with
  | nil=>intro i σ g a w _ h S hk had;exact hQ σ h g a w S hk had
  | cons o l ih =>
    intro i σ g a w hl h S kZ had;have ho:ops[i]? = some o:=by have:=hl 0 (by simp);simpa using this.symm
    have yK:∀j,j<l.length->l[j]? = ops[i+1+j]?:=λj hj=>by have:=hl (j+1) (by rw[qp];omega);rw[dqN]at this;rw[this];congr 1;omega
    simp only[qp,SG,wpOpsIn,ho];simp only[kE]at h;split at h;exact h.elim;rename_i hd;have run:∀(σ:St),bU P nt B w0 h0 g σ a w->nY (act P Γ o (fU σ.env) (lk σ.ax)) (pR σ i o) i o.dst (kE P Γ nt ops (i+1) l K) σ->o.wpIn (FR r) n P a w (wpOpsIn (FR r) n P ops Q (List.range' (i+1) l.length)) Q:=by
      intro σ S h;obtain⟨hs,hk⟩:=GG.1 h;refine J9 (zaS (GR (i:=i) (Q:=Q) (r:=r) (n:=n) gp S hd rfl hs)) ?_;rintro a' w' ⟨⟨Gg,g',σ',Gn,S'⟩,v,ds,rfl⟩;exact ih (i+1) _ g' _ w' yK (hk σ' Gn) (S'.log _) (kZ.put (hD i o ho) v ds ((put_defers _ _ _).symm.trans Gg)) (Gg.trans had)
    have skp:∀(σ:St),bU P nt B w0 h0 g σ a w->kE P Γ nt ops (i+1) l K (σ.skip o.dst)->wpOpsIn (FR r) n P ops Q (List.range' (i+1) l.length) (a.put o.dst undef) w:=by
      intro σ S h;exact ih (i+1) _ g _ w yK h (S.skip hd) (kZ.put (hD i o ho) undef a.defers rfl) ((put_defers _ _ _).trans had)
    split at h;rename_i hg;rw[eU (by simp[Region.wanted,hg])];exact run σ S h;rename_i j want hg;split at h;exact h.elim;rename_i gt ZX;split at h
    · rename_i b hb;have hv:a.tmps.getD gt undef=.bool b:=by
        have:=S.env gt _ hb;generalize a.tmps.getD gt undef=v at this;cases this;rfl
      have hy:=xh ZX hv;have S1:∀c,b=c->bU P nt B w0 h0 g (σ.setT gt (.bool c)) a w:=by
        intro c hc;refine S.env' (t:=gt) (d:=.bool c) ?_ (kN _);rw[hv,hc];exact .bool c
      have h2:=rD.1 h;cases b with
      | true =>
        have h3:=h2.1 rfl;cases want with|true=>rw[eU (by simp[Region.wanted,hg,hy])];exact run _ (S1 true rfl) h3|false=>rw[eY (by simp[Region.wanted,hg,hy])];exact⟨λ_ _=>trivial,skp _ (S1 true rfl) h3⟩
      | false =>
        have h3:=h2.2 rfl;cases want with|true=>rw[eY (by simp[Region.wanted,hg,hy])];exact⟨λ_ _=>trivial,skp _ (S1 false rfl) h3⟩|false=>rw[eU (by simp[Region.wanted,hg,hy])];exact run _ (S1 false rfl) h3
    rename_i hb;have hv:a.tmps.getD gt undef=undef:=S.env gt _ hb;have hy:=uM ZX hv;rw[eY (by simp[Region.wanted,hg,hy])];exact⟨λ_ _=>trivial,skp _ S h⟩;exact h.elim
theorem IV(gp:jw P Γ){ops:Array Oper}{K:St→Prop}{D:List Nat}{a0:Act}(hD:∀(j:Nat)(o:Oper),ops[j]? = some o→∀t,o.dst=some t→t∈D)
    (h:kE P Γ nt ops 0 ops.toList K σ) (S:bU P nt B w0 h0 g σ a w) (kZ:Kp D a0 a)
    (hQ:∀σ',K σ'->∀g' a' w',bU P nt B w0 h0 g' σ' a' w'->Kp D a0 a'->a'.defers=a.defers->Q .normal a' w'):wpOpsIn (FR r) n P ops Q (List.range ops.size) a w:=by
  have:=zn (r:=r) (n:=n) gp hD hQ ops.toList 0 σ g a w (λj _=>by simp) h S kZ rfl;rw[dq7];simpa using this
end
end Go.Pm
namespace Go.Pm
variable [aH]
def aC.fp:aC→List (Nat×Bool)|.no=>[]|.val fp _ _ _=>fp|.chk fp _ _ _ _=>fp
def aC.u:aC→List (Nat×AO)|.no=>[]|.val _ _ u _=>u|.chk _ _ _ u _=>u
def aC.kl:aC→List Nat|.no=>[]|.val _ _ _ k=>k|.chk _ _ _ _ k=>k
def aC.gives:aC→DV→Prop|.no,_=>False|.val _ d _ _,d'=>d'=d|.chk _ _ d _ _,d'=>d'=d
def Men(o:Oper)(ev:Operand->DV)(ob:Nat->Option AO)(fp:List (Nat×Bool))(L:Nat):Prop :=
 (∃x∈o.op.operands.toList,L∈mr (ev x))\/∃y∈fp,∃o',ob y.1=some o'/\L∈qw o'
structure bV (P : Program) (Γ : bI) (o : Oper) (ev : Operand → DV) (ob : Nat → Option AO) (A : aC) : Prop where
  wr:∀x∈A.u,(x.1,true)∈A.fp
  kl:A.kl=[]\/∃L,A.kl=[L]/\(L,true)∈A.fp
  labu:∀x∈A.u,∀L∈qw x.2,Men o ev ob A.fp L
  labd:∀d,A.gives d->∀L∈mr d,Men o ev ob A.fp L\/(L,true)∈A.fp
  congr:∀ev' ob',(∀x∈o.op.operands.toList,ev' x=ev x)->(∀y∈A.fp,ob' y.1=ob y.1)->act P Γ o ev' ob'=A
section
variable{P:Program}{Γ:bI}{o:Oper}{ev:Operand->DV}{ob:Nat->Option AO}{A:aC}
theorem bV.pure{fp:List (Nat×Bool)}{d:DV}(hd:∀L∈mr d,Men o ev ob fp L∨(L,true)∈fp)
    (hc:∀ev' ob',(∀x∈o.op.operands.toList,ev' x=ev x)->(∀y∈fp,ob' y.1=ob y.1)->act P Γ o ev' ob'=.val fp d [] []):bV P Γ o ev ob (.val fp d [] []) :=
  ⟨λx hx=>by simp[aC.u]at hx,.inl rfl,λx hx=>by simp[aC.u]at hx,λd' h=>by simp only[aC.gives]at h;subst h;exact hd,hc⟩
theorem bV.pchk{fp:List (Nat×Bool)}{s:CP}{d:DV}(hd:∀L∈mr d,Men o ev ob fp L∨(L,true)∈fp)
    (hc:∀ev' ob',(∀x∈o.op.operands.toList,ev' x=ev x)->(∀y∈fp,ob' y.1=ob y.1)->act P Γ o ev' ob'=.chk fp s d [] []):bV P Γ o ev ob (.chk fp s d [] []) :=
  ⟨λx hx=>by simp[aC.u]at hx,.inl rfl,λx hx=>by simp[aC.u]at hx,λd' h=>by simp only[aC.gives]at h;subst h;exact hd,hc⟩
theorem iZ{fp:List (Nat×Bool)}(v:PV):∀L∈mr (.p v),Men o ev ob fp L\/(L,true)∈fp:=λL hL=>by simp[mr,uz,nP]at hL
theorem rZ{fp:List (Nat×Bool)}{x:Operand}{d:DV}(hx:x∈o.op.operands.toList)(h:∀L∈mr d,L∈mr (ev x)):∀L∈mr d,Men o ev ob fp L\/(L,true)∈fp :=
 λL hL=>.inl (.inl ⟨x,hx,h L hL⟩)
theorem TD{c:Cl}:∀L∈nP c,L∈bg c:=by cases c<;>simp[nP,bg]
theorem TE{ag:Bool}{m off:Nat}{cells:List Cl}{d:D1}(hr:oH ag m cells off=some d):∀L∈uz d,L∈cells.flatMap nP:=by
 cases ag with
 | true =>
  simp only[oH]at hr;split at hr;simp only [bM]at hr;subst hr;intro L hL;simp only[uz,mg]at hL ⊢;obtain⟨c,hc,hL⟩:=hL;exact⟨c,jq6 (jq7 hc),hL⟩;cases hr
 | false =>
  simp only[oH]at hr;split at hr;rename_i x hx;simp only[bM]at hr;subst hr;intro L hL;simp only[uz]at hL;exact mg.2 ⟨x,KP hx,hL⟩;cases hr
theorem Xw(cells:List PV):(cells.map Cl.p).flatMap nP=[]:=by
 induction cells with|nil=>rfl|cons c r ih=>simp[nP,ih]
theorem Ko{ag:Bool}{m off:Nat}{cells:List PV}{d:D1}(hr:oH ag m (cells.map .p) off=some d):uz d=[]:=by
 have:=TE hr;rw[Xw]at this;cases hd:uz d with|nil=>rfl|cons x l=>have:=this x (by rw[hd];exact kH);simp at this
theorem Cf{ob':Nat->Option AO}{c:Cl}(h:∀L∈bg c,ob' L=ob L):AX ob' c=AX ob c:=by
 cases c<;>first|rfl|(simp only[AX];rw[h _ (by simp[bg])])
theorem zo{ob':Nat→Option AO}:∀{cs:List Cl},(∀L∈cs.flatMap bg,ob' L=ob L)→jH ob' cs=jH ob cs
  | [],_=>rfl
  | c::cs,h=>by
    simp only[jH];rw[Cf (λL hL=>h L (by simp[hL])),zo (λL hL=>h L (by simp only[oG,dR];exact .inr hL))]
theorem zaT{ob':Nat->Option AO}{c:Cl}(h:∀L∈bg c,ob' L=ob L/\∀o',ob L=some o'->∀M∈dS o',ob' M=ob M):PO ob' c=PO ob c:=by
 cases c with
 | ptr L off =>
  obtain⟨h1,h2⟩:=h L (by simp[bg]);simp only[PO];rw[h1];cases hL:ob L with
  | none=>rfl
  | some o' =>
   cases o' with|box ty cells=>simp only[];rw[zo (λM hM=>h2 _ hL M hM)]|_=>rfl
 | _=>exact Cf λL hL=>(h L hL).1
theorem IW{ob':Nat→Option AO}:∀{cs:List Cl},(∀L∈cs.flatMap bg,ob' L=ob L∧∀o',ob L=some o'→∀M∈dS o',ob' M=ob M)→nX ob' cs=nX ob cs
  | [],_=>rfl
  | c::cs,h=>by
    simp only[nX];rw[zaT (λL hL=>h L (by simp[hL])),IW (λL hL=>h L (by simp only[oG,dR];exact .inr hL))]
def DC(ob ob':Nat->Option AO)(L:Nat):Prop:=ob' L=ob L/\∀o',ob L=some o'->∀M∈dS o',ob' M=ob M/\∀o2,ob M=some o2->∀N∈dS o2,ob' N=ob N
theorem MX{ob':Nat->Option AO}{c:Cl}(h:∀L∈bg c,DC ob ob' L):KR ob' c=KR ob c:=by
 cases c with
 | ptr L off =>
  obtain⟨h1,h2⟩:=h L (by simp[bg]);simp only[KR];rw[h1];cases hL:ob L with
  | none=>rfl
  | some o' =>
   cases o' with|box ty cells=>simp only[];rw[IW (λM hM=>h2 _ hL M hM)]|_=>rfl
 | _=>exact Cf λL hL=>(h L hL).1
theorem IX{ob':Nat→Option AO}:∀{cs:List Cl},(∀L∈cs.flatMap bg,DC ob ob' L)→tJ ob' cs=tJ ob cs
  | [],_=>rfl
  | c::cs,h=>by
    simp only[tJ];rw[MX (λL hL=>h L (by simp[hL])),IX (λL hL=>h L (by simp only[oG,dR];exact .inr hL))]
theorem Eb:∀caps:List uw,(caps.map zeX).flatMap bg=lN caps|[]=>rfl|.v _::r=>by simp only[lM,oG,zeX,bg,Qr,lN];exact Eb r|.b L::r=>by simp only[lM,oG,zeX,bg,lN,qdW,Qr];rw[Eb r]
theorem Q5{ob':Nat->Option AO}{c:Cl}(h:∀L∈bg c,DC ob ob' L):frz ob' c=frz ob c:=by
 cases c with
 | clo f caps =>
  simp only[frz];rw[IX (ob:=ob) (ob':=ob') (cs:=caps.map zeX) (λL hL=>h L (by rw[Eb]at hL;exact hL))]
 | _=>exact MX h
theorem Ci{ob':Nat→Option AO}:∀{cs:List Cl},(∀L∈cs.flatMap bg,DC ob ob' L)→uy ob' cs=uy ob cs
  | [],_=>rfl
  | c::cs,h=>by
    simp only[uy];rw[Q5 (λL hL=>h L (by simp[hL])),Ci (λL hL=>h L (by simp only[oG,dR];exact .inr hL))]
theorem ny{ob:Nat->Option AO}{d:DV}{k:Nat}:k∈bG ob d↔∃L∈bY d,k=L\/∃o,ob L=some o/\∃M∈dS o,k=M\/∃o2,ob M=some o2/\k∈dS o2:=by
 unfold bG;rw[mg];refine exists_congr λL=>and_congr_right λ_=>?_;rw[jV];refine or_congr_right ?_;cases ob L with
 | none=>simp
 | some o =>
  simp only[bM,exists_eq_left',mg,jV];refine exists_congr λM=>and_congr_right λ_=>or_congr_right ?_;cases ob M with|none=>simp|some o2=>simp
theorem MZ{ob':Nat->Option AO}{d:DV}(h:∀L∈bG ob d,ob' L=ob L):AY ob' d=AY ob d:=by
 have key:∀L∈bY d,DC ob ob' L:=λL hL =>
  ⟨h L (ny.2 ⟨L,hL,.inl rfl⟩),λo' kV M hM=>⟨h M (ny.2 ⟨L,hL,.inr ⟨o',kV,M,hM,.inl rfl⟩⟩),λo2 o9 N hN=>h N (ny.2 ⟨L,hL,.inr ⟨o',kV,M,hM,.inr ⟨o2,o9,hN⟩⟩⟩)⟩⟩
 cases d with
 | one d =>
  cases d with|c c=>simp only[AY];rw[Q5 key]|agg cs=>simp only[AY];rw[Ci key]
 | tup ds=>rfl
theorem mF{ob':Nat→Option AO}:∀{ds:List DV},(∀L∈ds.flatMap (bG ob),ob' L=ob L)→iG ob' ds=iG ob ds
  | [],_=>rfl
  | d::ds,h=>by
    simp only[iG];rw[MZ (λL hL=>h L (by simp[hL])),mF (λL hL=>h L (by simp only[oG,dR];exact .inr hL))]
theorem jv{ob':Nat->Option AO}{d:DV}(h:∀L∈bG ob d,ob' L=ob L):bG ob' d=bG ob d:=by
 have fm:∀(l:List Nat)(f f':Nat->List Nat),(∀L∈l,f' L=f L)->l.flatMap f'=l.flatMap f:=by
  intro l f f'
  induction l with
  | nil=>intro _;rfl
  | cons L l ih =>
   intro h;simp only[oG];rw[h L (by simp),ih (λM hM=>h M (jM _ hM))]
 unfold bG;refine fm _ _ _ λL hL=>?_;rw[h L (ny.2 ⟨L,hL,.inl rfl⟩)];cases hL2:ob L with
 | none=>rfl
 | some o =>
  refine jZ (L :: ·) (fm _ _ _ λM hM=>?_);rw[h M (ny.2 ⟨L,hL,.inr ⟨o,hL2,M,hM,.inl rfl⟩⟩)]
theorem rG{c:Cl}{v:PV}{u:mQ}(h:AX ob c=some (v,u)):∀x∈u,x.1∈bg c/\qw x.2=[]:=by
 unfold AX at h;split at h;simp only[bM,gq]at h;rw[<- h.2];intro x hx;simp at hx;split at h;simp only[bM,gq]at h;rw[<- h.2];intro x hx;simp at hx;subst hx;exact⟨by simp[bg],rfl⟩;simp only[bM,gq]at h;rw[<- h.2];intro x hx;simp at hx;simp only[bM,gq]at h;rw[<- h.2];intro x hx;simp only[mf]at hx;subst hx;exact⟨by simp[bg],rfl⟩;cases h;cases h
theorem su:∀{cs:List Cl}{l:List PV}{u:mQ},jH ob cs=some (l,u)→∀x∈u,x.1∈cs.flatMap bg∧qw x.2=[]
  | [],l,u,h=>by simp[jH]at h;rw[h.2];intro x hx;simp at hx
  | c::cs,l,u,h=>by
    simp only[jH]at h;split at h;rename_i v u1 l2 u2 h1 h2;simp only[bM,gq]at h;rw[<- h.2];intro x hx;simp only[oG,dR];rcases dR.1 hx with hx|hx
    exact⟨.inl (rG h1 x hx).1,(rG h1 x hx).2⟩;exact⟨.inr (su h2 x hx).1,(su h2 x hx).2⟩;cases h
theorem zfs{c:Cl}{v:PV}{u:mQ}(h:PO ob c=some (v,u)):∀x∈u,(x.1∈bg c\/∃L∈bg c,∃o',ob L=some o'/\x.1∈dS o')/\qw x.2=[]:=by
 unfold PO at h;split at h;split at h;rename_i L off _x ty cells hL;split at h;rename_i l us hl;simp only[bM,gq]at h;rw[<- h.2];intro x hx;rcases dR.1 hx with hx|hx
 exact⟨.inr ⟨L,by simp[bg],_,hL,(su hl x hx).1⟩,(su hl x hx).2⟩;simp at hx;subst hx;exact⟨.inl (by simp[bg]),rfl⟩;cases h;simp only[bM,gq]at h;rw[<- h.2];intro x hx;simp at hx;cases h;intro x hx;exact⟨.inl (rG h x hx).1,(rG h x hx).2⟩
theorem Na:∀{cs:List Cl}{l:List PV}{u:mQ},nX ob cs=some (l,u)→∀x∈u,(x.1∈cs.flatMap bg∨∃L∈cs.flatMap bg,∃o',ob L=some o'∧x.1∈dS o')∧qw x.2=[]
  | [],l,u,h=>by simp[nX]at h;rw[h.2];intro x hx;simp at hx
  | c::cs,l,u,h=>by
    simp only[nX]at h;split at h;rename_i v u1 l2 u2 h1 h2;simp only[bM,gq]at h;rw[<- h.2];intro x hx;simp only[oG,dR];rcases dR.1 hx with hx|hx
    obtain⟨h3,h4⟩:=zfs h1 x hx;refine⟨?_,h4⟩;rcases h3 with h3|⟨L,hL,o',h5,h6⟩
    exact .inl (.inl h3);exact .inr ⟨L,.inl hL,o',h5,h6⟩;obtain⟨h3,h4⟩:=Na h2 x hx;refine⟨?_,h4⟩;rcases h3 with h3|⟨L,hL,o',h5,h6⟩
    exact .inl (.inr h3);exact .inr ⟨L,.inr hL,o',h5,h6⟩;cases h
def RC(ob:Nat->Option AO)(k:Nat)(l:List Nat):Prop:=∃L∈l,k=L\/∃o,ob L=some o/\∃M∈dS o,k=M\/∃o2,ob M=some o2/\k∈dS o2
theorem RC.mono{ob:Nat->Option AO}{k:Nat}{l m:List Nat}(h:RC ob k l)(hl:∀x∈l,x∈m):RC ob k m:=by
 obtain⟨L,h1,h2⟩:=h;exact⟨L,hl L h1,h2⟩
theorem GU{c:Cl}{v:PV}{u:mQ}(h:KR ob c=some (v,u)):∀x∈u,RC ob x.1 (bg c)/\qw x.2=[]:=by
 unfold KR at h;split at h;split at h;rename_i L off _x ty cells hL;split at h;rename_i l us hl;simp only[bM,gq]at h;rw[<- h.2];intro x hx;rcases dR.1 hx with hx|hx
 obtain⟨h3,h4⟩:=Na hl x hx;refine⟨⟨L,by simp[bg],.inr ⟨_,hL,?_⟩⟩,h4⟩;rcases h3 with h3|⟨M,hM,o2,h5,h6⟩
 exact⟨x.1,h3,.inl rfl⟩;exact⟨M,hM,.inr ⟨o2,h5,h6⟩⟩;simp at hx;subst hx;exact⟨⟨L,by simp[bg],.inl rfl⟩,rfl⟩;cases h;simp only[bM,gq]at h;rw[<- h.2];intro x hx;simp at hx;cases h;intro x hx;exact⟨⟨x.1,(rG h x hx).1,.inl rfl⟩,(rG h x hx).2⟩
theorem Cj:∀{cs:List Cl}{l:List PV}{u:mQ},tJ ob cs=some (l,u)→∀x∈u,RC ob x.1 (cs.flatMap bg)∧qw x.2=[]
  | [],l,u,h=>by simp[tJ]at h;rw[h.2];intro x hx;simp at hx
  | c::cs,l,u,h=>by
    simp only[tJ]at h;split at h;rename_i v u1 l2 u2 h1 h2;simp only[bM,gq]at h;rw[<- h.2];intro x hx;simp only[oG];rcases dR.1 hx with hx|hx
    exact⟨(GU h1 x hx).1.mono λy hy=>dR.2 (.inl hy),(GU h1 x hx).2⟩;exact⟨(Cj h2 x hx).1.mono λy hy=>dR.2 (.inr hy),(Cj h2 x hx).2⟩;cases h
theorem Nb{c:Cl}{v:PV}{u:mQ}(h:frz ob c=some (v,u)):∀x∈u,RC ob x.1 (bg c)/\qw x.2=[]:=by
 unfold frz at h;split at h;rename_i f caps;split at h;rename_i l us hl;simp only[bM,gq]at h;obtain⟨rfl,rfl⟩:=h;have:=Cj hl;rw[Eb]at this;exact this;cases h;exact GU h
theorem Ah:∀{cs:List Cl}{l:List PV}{u:mQ},uy ob cs=some (l,u)→∀x∈u,RC ob x.1 (cs.flatMap bg)∧qw x.2=[]
  | [],l,u,h=>by simp[uy]at h;rw[h.2];intro x hx;simp at hx
  | c::cs,l,u,h=>by
    simp only[uy]at h;split at h;rename_i v u1 l2 u2 h1 h2;simp only[bM,gq]at h;rw[<- h.2];intro x hx;simp only[oG];rcases dR.1 hx with hx|hx
    exact⟨(Nb h1 x hx).1.mono λy hy=>dR.2 (.inl hy),(Nb h1 x hx).2⟩;exact⟨(Ah h2 x hx).1.mono λy hy=>dR.2 (.inr hy),(Ah h2 x hx).2⟩;cases h
theorem Q9{d:DV}{v:PA}{u:mQ}(h:AY ob d=some (v,u)):∀x∈u,x.1∈bG ob d/\qw x.2=[]:=by
 have deep:∀k,RC ob k (bY d)->k∈bG ob d:=λk hk=>ny.2 hk;unfold AY at h;split at h;split at h;rename_i v' u' h1;simp only[bM,gq]at h;rw[<- h.2];intro x hx;obtain⟨h3,h4⟩:=Nb h1 x hx;exact⟨deep _ h3,h4⟩;cases h;split at h;rename_i v' u' h1;simp only[bM,gq]at h;rw[<- h.2];intro x hx;obtain⟨h3,h4⟩:=Ah h1 x hx;exact⟨deep _ h3,h4⟩;cases h;cases h
theorem Cm:∀{ds:List DV}{l:List PA}{u:mQ},iG ob ds=some (l,u)→∀x∈u,x.1∈ds.flatMap (bG ob)∧qw x.2=[]
  | [],l,u,h=>by simp[iG]at h;rw[h.2];intro x hx;simp at hx
  | d::ds,l,u,h=>by
    simp only[iG]at h;split at h;rename_i v u1 l2 u2 h1 h2;simp only[bM,gq]at h;rw[<- h.2];intro x hx;simp only[oG,dR];rcases dR.1 hx with hx|hx
    exact⟨.inl (Q9 h1 x hx).1,(Q9 h1 x hx).2⟩;exact⟨.inr (Cm h2 x hx).1,(Cm h2 x hx).2⟩;cases h
end
end Go.Pm
namespace Go.Pm
variable [aH]
section
variable{P:Program}{Γ:bI}{o:Oper}{ev:Operand->DV}{ob:Nat->Option AO}{A:aC}
theorem fmc{α β:Type}{f h:α→List β}:∀{l:List α},(∀x∈l,f x=h x)→l.flatMap f=l.flatMap h|[],_=>rfl|x::l,hf=>by simp only[oG];rw[hf x kH,fmc λy hy=>hf y (jM _ hy)]
theorem zc8{x:Operand}(aY:o.op=.move x\/o.op=.assign x):bV P Γ o ev ob (.val [] (ev x) [] []):=by
 have hx:x∈o.op.operands.toList:=by rcases aY with h|h<;>simp[h,Op.operands]
 refine bV.pure (rZ hx λL hL=>hL) λev' ob' he _=>?_;rcases aY with h|h<;>simp only[act,h,he x hx]
theorem zpl{b:Bool}{x y:DV}:∀L∈mr (BA b x y),L∈mr x\/L∈mr y:=by
 unfold BA;split;intro L hL;simp[mr,uz,nP]at hL
 ·cases b with|true=>exact λL hL=>.inl hL|false=>exact λL hL=>.inr hL
theorem zpm{c x y:Operand}{t:Bool}(aY:o.op=.pick c x y)(hc:ev c=.one (.c (.p (.bool t)))):bV P Γ o ev ob (.val [] (BA t (ev x) (ev y)) [] []):=by
 have hcm:c∈o.op.operands.toList:=by simp[aY,Op.operands]
 have hx:x∈o.op.operands.toList:=by simp[aY,Op.operands]
 have hy:y∈o.op.operands.toList:=by simp[aY,Op.operands]
 refine bV.pure (λL hL=>?_) λev' ob' he _=>?_;rcases zpl L hL with h|h
 exact .inl (.inl ⟨x,hx,h⟩);exact .inl (.inl ⟨y,hy,h⟩);simp only[act,aPk,aY,he c hcm,he x hx,he y hy,hc]
theorem TF{ao:AO}{d:Nat→DV}(hlo:∀L∈qw ao,Men o ev ob [] L)(hld:∀t,∀L∈mr (d t),L=t)
    (hc:∀ev' ob',(∀x∈o.op.operands.toList,ev' x=ev x)->act P Γ o ev' ob'=Gu ob' o.dst ao d) (hA:Gu ob o.dst ao d=A) (hs:A.safe):bV P Γ o ev ob A:=by
  have tH:=hA;unfold Gu at hA;split at hA;rename_i t ht;split at hA;rename_i hn;subst hA;have men:∀L,Men o ev ob [] L->Men o ev ob [(t,true)] L:=λL h=>h.imp_right λ⟨y,hy,_⟩=>by simp at hy
  refine⟨λx hx=>?_,.inl rfl,λx hx L hL=>?_,λd' gG L hL=>?_,λev' ob' he bZ=>?_⟩;simp only[aC.u,mf]at hx;subst hx;simp[aC.fp];simp only[aC.u,mf]at hx;subst hx;exact men L (hlo L hL);simp only[aC.gives]at gG;subst gG;rw[hld t L hL];exact .inr (by simp[aC.fp]);rw [hc ev' ob' he];have:=bZ (t,true) (by simp[aC.fp]);simp only at this;simp only[Gu,ht,this,hn];subst hA;exact hs.elim;subst hA;exact hs.elim
theorem zc9{t:TypeId}{z:List Cl}(h:gX P t=some z):z.flatMap nP=[]:=by
 have h1:=QH h;cases hz:z.flatMap nP with
 | nil=>rfl
 | cons L l =>
  have:L∈z.flatMap nP:=by rw[hz];exact kH
  obtain⟨c,hc,hL⟩:=mg.1 this;have:L∈z.flatMap bg:=mg.2 ⟨c,hc,TD L hL⟩;rw[h1]at this;simp at this
theorem TG(d:D1):d.cells.flatMap nP=uz d:=by cases d<;>simp[D1.cells,uz]
theorem Xx{t:TypeId}:∀(parts:List (Nat×Operand))(z l:List Cl),iO P t ev z parts=some l→∀L∈l.flatMap nP,L∈z.flatMap nP∨∃x∈parts,L∈mr (ev x.2)
  | [],z,l,h=>by simp[iO]at h;subst h;exact λL hL=>.inl hL
  | (i,x)::r,z,l,h=>by
    simp only[iO]at h;split at h;rename_i d hd;have zSh:∀(l' l:List Cl)(off:Nat),∀L∈(spl l off l').flatMap nP,L∈l.flatMap nP\/L∈l'.flatMap nP:=by
      intro l'
      induction l' with
      | nil=>intro l off L hL;exact .inl hL
      | cons c l' ih =>
        intro l off L hL;simp only[spl]at hL;rcases ih _ _ L hL with h|h
        obtain⟨c',hc',SE⟩:=mg.1 h;rcases qdn hc' with h2|h2
        exact .inl (mg.2 ⟨c',h2,SE⟩);subst h2;exact .inr (mg.2 ⟨c',kH,SE⟩);exact .inr (by simp only[oG,dR];exact .inr h)
    have step:∀off,iO P t ev (spl z off d.cells) r=some l->∀L∈l.flatMap nP,L∈z.flatMap nP\/∃y∈(i,x)::r,L∈mr (ev y.2):=by
      intro off hb L hL;rcases Xx r _ l hb L hL with h|⟨y,hy,hL⟩
      rcases zSh _ _ _ L h with h|h
      exact .inl h;refine .inr ⟨(i,x),kH,?_⟩;simp only[hd,mr];rw[<- TG];exact h;exact .inr ⟨y,jM _ hy,hL⟩
    split at h;split at h;split at h;split at h;exact step _ h;cases h;cases h;cases h;split at h;split at h;exact step _ h;cases h;cases h;cases h;cases h
theorem Ec{ev':Operand→DV}{t:TypeId}:∀(parts:List (Nat×Operand))(z:List Cl),(∀x∈parts,ev' x.2=ev x.2)→iO P t ev' z parts=iO P t ev z parts
  | [],z,_=>rfl
  | (i,x)::r,z,h=>by
    have hx:ev' x=ev x:=h (i,x) kH;have ih:∀z,iO P t ev' z r=iO P t ev z r:=λz=>Ec r z λy hy=>h y (jM _ hy);simp only[iO,hx,ih]
theorem BF{ev':Operand->DV}{ob':Nat->Option AO}{s:Nat}:∀(parts:List (Nat×Operand))(i:Nat)(ls:List (List PV))(u:mQ)(jl:List Nat),jB ob ev s i parts=some (ls,u,jl) ->
  (∀x∈parts,ev' x.2=ev x.2)->(∀L∈jl,ob' L=ob L)->jB ob' ev' s i parts=some (ls,u,jl)
 | [],i,ls,u,jl,h,_,_=>by simpa [jB]using h
 | (j,x)::r,i,ls,u,jl,h,he,bZ=>by
  have hx:ev' x=ev x:=he (j,x) kH;simp only[jB]at h ⊢;rw[hx];split at h;rename_i Ju;split at h;rename_i d hd;split at h;rename_i l u1 ls' us zvP h1 h2;split at h;rename_i hlen;simp only[bM,gq]at h;obtain⟨rfl,rfl,rfl⟩:=h;have e1:jH ob' d.cells=some (l,u1):=by
   rw[<- h1];refine zo λL hL=>bZ L (dR.2 (.inl ?_));cases d<;>simpa [D1.cells,dC]using hL
  have e2:=BF r (i+1) ls' us zvP h2 (λy hy=>he y (jM _ hy)) (λL hL=>bZ L (dR.2 (.inr hL)));simp only[e1,e2,hlen];cases h;cases h;cases h;cases h
theorem xk{s:Nat}:∀(parts:List (Nat×Operand))(i:Nat)(ls:List (List PV))(u:mQ)(jl:List Nat),jB ob ev s i parts=some (ls,u,jl)→∀x∈u,x.1∈jl∧qw x.2=[]
  | [],i,ls,u,jl,h=>by simp[jB]at h;rw[h.2.1];intro x hx;simp at hx
  | (j,x)::r,i,ls,u,jl,h=>by
    simp only[jB]at h;split at h;split at h;rename_i d hd;split at h;rename_i l u1 ls' us zvP h1 h2;split at h;simp only [bM,gq]at h;obtain⟨rfl,rfl,rfl⟩:=h;intro y hy;rcases dR.1 hy with hy|hy
    obtain⟨h3,h4⟩:=su h1 y hy;refine⟨dR.2 (.inl ?_),h4⟩;cases d<;>simpa [D1.cells,dC]using h3;obtain⟨h3,h4⟩:=xk r _ _ _ _ h2 y hy;exact⟨dR.2 (.inr h3),h4⟩;cases h;cases h;cases h;cases h
theorem ziW{t:TypeId}{parts:Array (Nat×Operand)}{z l:List Cl}(aY:o.op = .build t parts)(hf:yQ P t=true)(hz:gX P t=some z)(hl:iO P t ev z parts.toList=some l) :
  bV P Γ o ev ob (.val [] (.one (.agg l)) [] []):=by
 have hm:∀x∈parts.toList,x.2∈o.op.operands.toList:=λx hx=>by
  simp only[aY,Op.operands];exact uu.2 ⟨x,hx,rfl⟩
 refine bV.pure (λL hL=>?_) λev' ob' he _=>?_;rcases Xx _ _ _ hl L hL with h|⟨x,hx,h⟩
 rw[zc9 hz]at h;simp at h;exact .inl (.inl ⟨x.2,hm x hx,h⟩);simp only[act,aBd,aY,hf,hz,Ec parts.toList z (λx hx=>he x.2 (hm x hx)),hl]
theorem Nc{l:List Nat}{L:Nat}(h:L∈l):(L,true)∈wr l:=uu.2 ⟨L,h,rfl⟩
theorem PX{t:TypeId}{n:Nat}{parts:Array (Nat×Operand)}(aY:o.op=.buildSlice t n parts)(hA:act P Γ o ev ob=A)(hs:A.safe):bV P Γ o ev ob A:=by
 have hm:∀x∈parts.toList,x.2∈o.op.operands.toList:=λx hx=>by
  simp only[aY,Op.operands];exact uu.2 ⟨x,hx,rfl⟩
 simp only[act,aBs,aY]at hA;split at hA;rename_i e hu;split at hA;rename_i ie hie;split at hA;rename_i ls u jl hp;split at hA;rename_i z dst hb hz hd;split at hA;rename_i hn;subst hA;refine⟨λx hx=>?_,.inl rfl,λx hx L hL=>?_,λd' gG L hL=>?_,λev' ob' he bZ=>?_⟩;simp only [aC.u,jV]at hx;simp only[aC.fp,dR];rcases hx with rfl|hx
 exact .inr (by simp);exact .inl (Nc (xk _ _ _ _ _ hp x hx).1);simp only [aC.u,jV]at hx;rcases hx with rfl|hx
 simp[qw]at hL;rw[(xk _ _ _ _ _ hp x hx).2]at hL;simp at hL;simp only [aC.gives]at gG;subst gG;simp only[mr,uz,nP,mf]at hL;subst hL;exact .inr (by simp[aC.fp]);have e1:=BF (ev':=ev') (ob':=ob') _ _ _ _ _ hp (fun x hx=>he x.2 (hm x hx)) (fun L hL=>bZ (L,true) (dR.2 (.inl (Nc hL))));have e2:=bZ (dst,true) (dR.2 (.inr (by simp)));simp only at e2;simp only[act,aBs,aY,hu,hie,e1,hb,hz,hd,e2,hn];subst hA;exact hs.elim;subst hA;exact hs.elim;subst hA;exact hs.elim;subst hA;exact hs.elim;subst hA;exact hs.elim
theorem zyU{L:Nat}{ao:AO}{w:Bool}{d:D1}(hL:ob L=some ao)(h:∀M∈uz d,M∈qw ao):∀M∈mr (.one d),Men o ev ob [(L,w)] M\/(M,true)∈[(L,w)] :=
 λM hM=>.inl (.inr ⟨(L,w),by simp,ao,hL,h M hM⟩)
theorem zpn{t:TypeId}{x:Operand}(aY:o.op=.load t x)(hA:act P Γ o ev ob=A)(hs:A.safe):bV P Γ o ev ob A:=by
 have hm:x∈o.op.operands.toList:=by simp[aY,Op.operands]
 simp only[act,aLd,aY]at hA;split at hA;rename_i ag n vk hn;split at hA;rename_i L off hx;split at hA;rename_i ty cells hL;split at hA;rename_i d hr;subst hA;refine bV.pure (zyU hL (TE hr)) λev' ob' he bZ=>?_;have e:=bZ (L,false) (by simp);simp only at e;simp only[act,aLd,aY,vk,hn,he x hm,hx,e,hL,hr];subst hA;exact hs.elim;rename_i cells hL;split at hA;rename_i d hr;subst hA;refine bV.pure (λM hM=>?_) λev' ob' he bZ=>?_;simp only[mr]at hM;rw[Ko hr]at hM;simp at hM;have e:=bZ (L,false) (by simp);simp only at e;simp only[act,aLd,aY,vk,hn,he x hm,hx,e,hL,hr];subst hA;exact hs.elim;subst hA;exact hs.elim;rename_i cells off hx;split at hA;rename_i d hr;subst hA;refine bV.pure (λM hM=>?_) λev' ob' he bZ=>?_;simp only[mr]at hM;rw[Ko hr]at hM;simp at hM;simp only[act,aLd,aY,vk,hn,he x hm,hx,hr];subst hA;exact hs.elim;rename_i L s i k hx;split at hA;rename_i e s' b len get hL;split at hA;rename_i d Qg hr;subst hA;refine bV.pchk (λM hM=>?_) λev' ob' he bZ=>?_;simp only[mr]at hM;rw[Ko hr]at hM;simp at hM;have e:=bZ (L,false) (by simp);simp only at e;simp only[act,aLd,aY,vk,hn,he x hm,hx,e,hL,Qg,hr];subst hA;exact hs.elim;rename_i s' len get hL;split at hA;rename_i d Qg hr;subst hA;refine bV.pchk (λM hM=>?_) λev' ob' he bZ=>?_;simp only[mr]at hM;rw[Ko hr]at hM;simp at hM;have e:=bZ (L,false) (by simp);simp only at e;simp only[act,aLd,aY,vk,hn,he x hm,hx,e,hL,Qg,hr];subst hA;exact hs.elim;rename_i hL0;split at hA;rename_i Qg;split at hA;rename_i dst Iu;split at hA;rename_i iq hL;subst hA;refine⟨λx hx=>?_,.inl rfl,λx hx L hL=>?_,λd' gG L hL=>?_,λev' ob' he bZ=>?_⟩;simp only [aC.u,jV,qjv,jqO]at hx;rcases hx with rfl|rfl<;>simp[aC.fp]
 simp only [aC.u,jV,qjv,jqO]at hx;rcases hx with rfl|rfl<;>simp[qw]at hL
 simp only [aC.gives]at gG;subst gG;simp only[mr,uz,nP,mf]at hL;subst hL;exact .inr (by simp[aC.fp]);have e1:=bZ (L,true) (by simp [aC.fp]);have e2:=bZ (dst,true) (by simp[aC.fp]);simp only at e1 e2;simp only[act,aLd,aY,vk,hn,he x hm,hx,e1,e2,hL,Qg,Iu,iq];subst hA;exact hs.elim;subst hA;exact hs.elim;subst hA;exact hs.elim;subst hA;exact hs.elim;subst hA;exact hs.elim;subst hA;exact hs.elim
theorem zHf:∀(l' l:List Cl)(off:Nat),∀L∈(spl l off l').flatMap nP,L∈l.flatMap nP\/L∈l'.flatMap nP:=by
 intro l'
 induction l' with
 | nil=>intro l off L hL;exact .inl hL
 | cons c l' ih =>
  intro l off L hL;simp only[spl]at hL;rcases ih _ _ L hL with h|h
  obtain⟨c',hc',SE⟩:=mg.1 h;rcases qdn hc' with h2|h2
  exact .inl (mg.2 ⟨c',h2,SE⟩);subst h2;exact .inr (mg.2 ⟨c',kH,SE⟩);exact .inr (by simp only[oG,dR];exact .inr h)
theorem ziX{t:TypeId}{x y:Operand}(aY:o.op=.store t x y)(hA:act P Γ o ev ob=A)(hs:A.safe):bV P Γ o ev ob A:=by
 have hx:x∈o.op.operands.toList:=by simp[aY,Op.operands]
 have hy:y∈o.op.operands.toList:=by simp[aY,Op.operands]
 simp only[act,aSt,aY]at hA;split at hA;rename_i n L off d hn hex hey;split at hA;rename_i ty cells hL;split at hA;rename_i hb;subst hA;refine⟨λz hz=>?_,.inl rfl,λz hz M hM=>?_,λd' gG M hM=>?_,λev' ob' he bZ=>?_⟩;simp only[aC.u,mf]at hz;subst hz;simp[aC.fp];simp only [aC.u,mf]at hz;subst hz;simp only[qw]at hM;rcases zHf _ _ _ M hM with h|h
 exact .inr ⟨(L,true),by simp[aC.fp],_,hL,h⟩;refine .inl ⟨y,hy,?_⟩;rw[hey];simp only[mr];rw[<- TG];exact h;simp only[aC.gives]at gG;subst gG;simp[mr,uz,nP]at hM;have e:=bZ (L,true) (by simp [aC.fp]);simp only at e;simp only[act,aSt,aY,hn,he x hx,he y hy,hex,hey,e,hL,hb];subst hA;exact hs.elim;subst hA;exact hs.elim;rename_i n L s i k d hn hex hey;split at hA;rename_i e s' b len get hL;split at hA;rename_i l hl;split at hA;rename_i hb;subst hA;refine⟨λz hz=>?_,.inl rfl,λz hz M hM=>?_,λd' gG M hM=>?_,λev' ob' he bZ=>?_⟩;simp only[aC.u,mf]at hz;subst hz;simp[aC.fp];simp only[aC.u,mf]at hz;subst hz;simp[qw]at hM;simp only[aC.gives]at gG;subst gG;simp[mr,uz,nP]at hM;have e:=bZ (L,true) (by simp [aC.fp]);simp only at e;simp only[act,aSt,aY,hn,he x hx,he y hy,hex,hey,e,hL,hl,hb];subst hA;exact hs.elim;subst hA;exact hs.elim;rename_i te bb e s' Qh len ln get hL;split at hA;rename_i M';split at hA;rename_i e2 s2 b2 mm lT hM';split at hA;rename_i hb;split at hA;rename_i hq;subst hA;refine⟨λz hz=>?_,.inl rfl,λz hz M hM=>?_,λd' gG M hM=>?_,λev' ob' he bZ=>?_⟩;simp only [aC.u,jV,qjv,jqO]at hz;rcases hz with rfl|rfl<;>simp[aC.fp]
 simp only [aC.u,jV,qjv,jqO]at hz;rcases hz with rfl|rfl<;>simp[qw]at hM
 simp only[aC.gives]at gG;subst gG;simp[mr,uz,nP]at hM;have e:=bZ (L,true) (by simp [aC.fp]);simp only at e;have e2:=bZ (M',true) (by simp[aC.fp]);simp only at e2;simp only[act,aSt,aY,hn,he x hx,he y hy,hex,hey,e,hL,e2,hM',hb];rw[eU hq];subst hA;exact hs.elim;subst hA;exact hs.elim;subst hA;exact hs.elim;subst hA;exact hs.elim;subst hA;exact hs.elim;subst hA;exact hs.elim
theorem Xy{x:Operand}(aY:o.op=.nilCheck x)(hA:act P Γ o ev ob=A)(hs:A.safe):bV P Γ o ev ob A:=by
 have hx:x∈o.op.operands.toList:=by simp[aY,Op.operands]
 simp only[act,aNc,aY]at hA;split at hA;rename_i L off h;subst hA;exact bV.pure (rZ hx λL hL=>by rw[h];exact hL) λev' ob' he _=>by simp only[act,aNc,aY,he x hx,h]
 rename_i L off h;subst hA;exact bV.pure (rZ hx λL hL=>by rw[h];exact hL) λev' ob' he _=>by simp only[act,aNc,aY,he x hx,h]
 rename_i L s i k h;subst hA;exact bV.pure (rZ hx λL hL=>by rw[h];exact hL) λev' ob' he _=>by simp only[act,aNc,aY,he x hx,h]
 subst hA;exact hs.elim
theorem ziY{op:BinOp}{k:IntKind}{p q:Int}(hs:(Wu op k p q).safe)
    (hc:∀ev' ob',(∀x∈o.op.operands.toList,ev' x=ev x)->act P Γ o ev' ob'=Wu op k p q):bV P Γ o ev ob (Wu op k p q):=by
  cases op<;>first
    | exact hs.elim
    | exact bV.pure (iZ _) λev' ob' he _=>hc ev' ob' he
    | exact bV.pchk (iZ _) λev' ob' he _=>hc ev' ob' he
theorem ziZ{op:BinOp}{t t':TypeId}{x y:Operand}(aY:o.op=.binOp op t x y t')(hA:act P Γ o ev ob=A)(hs:A.safe):bV P Γ o ev ob A:=by
 have hx:x∈o.op.operands.toList:=by simp[aY,Op.operands]
 have hy:y∈o.op.operands.toList:=by simp[aY,Op.operands]
 simp only[act,aBn,aY]at hA;split at hA;rename_i k p k' q hex hey;split at hA;rename_i hk;subst hA;exact ziY hs λev' ob' he=>by simp only[act,aBn,aY,he x hx,he y hy,hex,hey,hk,Qs]
 rename_i hk;subst hA;have hc:∀ev' ob',(∀x∈o.op.operands.toList,ev' x=ev x)->act P Γ o ev' ob'=zh8 op k p q:=λev' ob' he=>by simp only[act,aBn,aY,he x hx,he y hy,hex,hey,hk,qje]
 cases op<;>first
  | exact hs.elim
  | exact bV.pchk (iZ _) λev' ob' he _=>hc ev' ob' he
 rename_i p q hex hey;split at hA;rename_i hu;subst hA;exact bV.pure (iZ _) λev' ob' he _=>by simp only[act,aBn,aY,he x hx,he y hy,hex,hey,hu]
 rename_i hu;subst hA;exact bV.pure (iZ _) λev' ob' he _=>by simp only[act,aBn,aY,he x hx,he y hy,hex,hey,hu]
 subst hA;exact hs.elim;rename_i cs ds hex hey;have hc:∀ev' ob',(∀x∈o.op.operands.toList,ev' x=ev x)->act P Γ o ev' ob'=A:=λev' ob' he=>by
  simp only[act,aBn,aY,he x hx,he y hy,hex,hey];exact hA
 unfold zcA at hA;split at hA;split at hA;subst hA;exact bV.pure (iZ _) λev' ob' he _=>hc ev' ob' he;subst hA;exact bV.pure (iZ _) λev' ob' he _=>hc ev' ob' he;subst hA;exact hs.elim;subst hA;exact hs.elim;subst hA;exact hs.elim
theorem zi0{t:TypeId}{x y:Operand}(aY:o.op=.index t x y)(hA:act P Γ o ev ob=A)(hs:A.safe):bV P Γ o ev ob A:=by
 have hx:x∈o.op.operands.toList:=by simp[aY,Op.operands]
 have hy:y∈o.op.operands.toList:=by simp[aY,Op.operands]
 have hc:∀ev' ob',(∀x∈o.op.operands.toList,ev' x=ev x)->act P Γ o ev' ob'=A:=λev' ob' he=>by
  rw[<- hA];simp only[act,aY,he x hx,he y hy]
 simp only[act,aY,KW]at hA;split at hA;split at hA;rename_i cs k j _ _ hex hey;split at hA;rename_i d _ hr;subst hA;refine bV.pure (rZ hx λL hL=>?_) λev' ob' he _=>hc ev' ob' he;rw[hex];exact TE hr L hL;subst hA;exact hs.elim;subst hA;exact hs.elim;subst hA;exact hs.elim
theorem zi1{t:TypeId}{x:Operand}{f:Nat}(aY:o.op=.field t x f)(hA:act P Γ o ev ob=A)(hs:A.safe):bV P Γ o ev ob A:=by
 have hx:x∈o.op.operands.toList:=by simp[aY,Op.operands]
 have hc:∀ev' ob',(∀x∈o.op.operands.toList,ev' x=ev x)->act P Γ o ev' ob'=A:=λev' ob' he=>by
  rw[<- hA];simp only[act,aY,he x hx]
 simp only[act,aY,KX]at hA;split at hA;split at hA;split at hA;rename_i hex;split at hA;rename_i d hr;subst hA;refine bV.pure (rZ hx λL hL=>?_) λev' ob' he _=>hc ev' ob' he;rw[hex];exact TE hr L hL;subst hA;exact hs.elim;subst hA;exact hs.elim;subst hA;exact hs.elim;subst hA;exact hs.elim
theorem ok_slice{t:TypeId}{x:Operand}{lo hi:Option Operand}(aY:o.op=.slice t x lo hi none)(hA:act P Γ o ev ob=A)(hs:A.safe):bV P Γ o ev ob A:=by
 have hx:x∈o.op.operands.toList:=by simp[aY,Op.operands]
 have hlo:∀y,lo=some y->y∈o.op.operands.toList:=λy e=>by subst e;simp[aY,Op.operands]
 have hhi:∀y,hi=some y->y∈o.op.operands.toList:=λy e=>by subst e;simp[aY,Op.operands]
 have hc:∀ev' ob',(∀x∈o.op.operands.toList,ev' x=ev x)->act P Γ o ev' ob'=A:=λev' ob' he=>by
  have e1:Gt ev' lo=Gt ev lo:=by
   cases lo with|none=>rfl|some y=>simp only[Gt,he y (hlo y rfl)]
  have e2:Gt ev' hi=Gt ev hi:=by
   cases hi with|none=>rfl|some y=>simp only[Gt,he y (hhi y rfl)]
  rw[<- hA];simp only[act,aY,he x hx,e1,e2]
 simp only[act,aY,Dz]at hA;split at hA;split at hA;split at hA;subst hA;exact bV.pchk (λL hL=>by simp[mr,uz,nP]at hL) λev' ob' he _=>hc ev' ob' he;subst hA;exact hs.elim;subst hA;exact hs.elim;subst hA;exact hs.elim
theorem zpo{d:D1}:∀L,L∈uz d->L∈dC d:=by
 intro L hL;cases d with
 | c y=>exact TD L hL
 | agg cs =>
  obtain⟨c,hc,hL⟩:=mg.1 hL;exact mg.2 ⟨c,hc,TD L hL⟩
theorem zft{q:MQ}{kd:DV}{ok:Bool}{F:List Int->Option (List Int)}{fin:DV->aC}(hA:found q kd ok F fin=A)(hs:A.safe):∃d,(∀M∈mr d,False)/\fin d=A:=by
 unfold found at hA;split at hA;split at hA
 ·rename_i d hdv;have hV:∀ M,M∈uz d->False:=λ M hM=>by have:=zpo M hM;rw[Xa hdv] at this;simp at this
  cases ok with
  | true =>
   refine⟨_,λM hM=>?_,hA⟩;simp only[mr,oG,List.flatMap_nil,qd1,dR]at hM;rcases hM with hM|hM
   exact hV M hM;simp[uz,nP]at hM
  | false=>exact⟨.one d,λM hM=>hV M hM,hA⟩
 subst hA;exact hs.elim;subst hA;exact hs.elim
theorem zfu{t:TypeId}{x y:Operand}{k:Bool}(aY:o.op=.lookup t x y k)(hA:act P Γ o ev ob=A)(hs:A.safe):bV P Γ o ev ob A:=by
 have hx:x∈o.op.operands.toList:=by simp[aY,Op.operands]
 have hy:y∈o.op.operands.toList:=by simp[aY,Op.operands]
 have F6:∀ev' ob',(∀x∈o.op.operands.toList,ev' x=ev x)->act P Γ o ev' ob'=KZ P t (ev x) (ev y) k ob':=λev' ob' he=>by simp only[act,aY,he x hx,he y hy]
 rw[F6 ev ob (λ_ _=>rfl)]at hA;unfold KZ at hA F6;split at hA;rename_i kt vt L hu hex;split at hA;rename_i q kt' vt' q' n F hE hL;split at hA;rename_i dm;obtain⟨d,hd,e⟩:=zft hA hs;subst e;refine bV.pure (λM hM=>(hd M hM).elim) λev' ob' he bZ=>?_;rw[F6 ev' ob' he];have:=bZ (L,false) (by simp);simp only at this;simp only[hu,hex,this,hL,hE,eU dm];exact hA;subst hA;exact hs.elim;subst hA;exact hs.elim;subst hA;exact hs.elim
theorem TI{t:TypeId}{x y z:Operand}(aY:o.op=.mapUpdate t x y z)(hA:act P Γ o ev ob=A)(hs:A.safe):bV P Γ o ev ob A:=by
 have hx:x∈o.op.operands.toList:=by simp[aY,Op.operands]
 have hy:y∈o.op.operands.toList:=by simp[aY,Op.operands]
 have hz:z∈o.op.operands.toList:=by simp[aY,Op.operands]
 have F6:∀ev' ob',(∀x∈o.op.operands.toList,ev' x=ev x)->act P Γ o ev' ob'=Wv P t (ev x) (ev y) (ev z) ob':=λev' ob' he=>by simp only[act,aY,he x hx,he y hy,he z hz]
 rw[F6 ev ob (λ_ _=>rfl)]at hA;unfold Wv at hA F6;split at hA;rename_i kt vt L hu hex;split at hA;rename_i q kt' vt' q' n F hE hL;split at hA;rename_i c dv hck hez;split at hA;rename_i l hl;split at hA;rename_i dm;have hcc:∀ev' ob',(∀x∈o.op.operands.toList,ev' x=ev x)->(∀y∈[(L,true)],ob' y.1=ob y.1)->act P Γ o ev' ob'=A:=λev' ob' he bZ=>by
  rw[F6 ev' ob' he];have:=bZ (L,true) (by simp);simp only at this;simp only[hu,hex,this,hL,hE,hck,hez,hl,eU dm];exact hA
 subst hA;refine⟨λx hx=>?_,.inl rfl,λx hx M hM=>?_,λd' gG M hM=>?_,λev' ob' he bZ=>hcc ev' ob' he bZ⟩;simp only[aC.u,mf]at hx;subst hx;simp[aC.fp];simp only[aC.u,mf]at hx;subst hx;simp[qw]at hM;simp only[aC.gives]at gG;subst gG;simp[mr,uz,nP]at hM;subst hA;exact hs.elim;subst hA;exact hs.elim;subst hA;exact hs.elim;subst hA;exact hs.elim;subst hA;exact hs.elim
theorem zaU{t:TypeId}(aY:o.op=.makeMap t none)(hA:act P Γ o ev ob=A)(hs:A.safe):bV P Γ o ev ob A:=by
 cases hv:zyq Γ o.dst with
 | true =>
  simp only[act,aMm,aY,hv]at hA;split at hA;rename_i kt vt hu;split at hA;rename_i q hE;exact TF (ao:=.mo kt vt q 0 (λ_=>none)) (d:=λt=>.cl (.mo t)) (λL hL=>by simp[qw]at hL) (λt L hL=>by simpa [mr,uz,nP]using hL) (λev' ob' _=>by simp only[act,aMm,aY,hv,hu,hE]) hA hs;subst hA;exact hs.elim;subst hA;exact hs.elim
 | false =>
  simp only[act,aMm,aY,hv]at hA;subst hA;exact hs.elim
theorem zpp{op:UnOp}{t:TypeId}{x:Operand}(aY:o.op=.unOp op t x)(hA:act P Γ o ev ob=A)(hs:A.safe):bV P Γ o ev ob A:=by
 have hx:x∈o.op.operands.toList:=by simp[aY,Op.operands]
 simp only[act,aUn,aY]at hA;split at hA;rename_i h;subst hA;exact bV.pure (iZ _) λev' ob' he _=>by simp only[act,aUn,aY,he x hx,h]
 rename_i h;subst hA;exact bV.pure (iZ _) λev' ob' he _=>by simp only[act,aUn,aY,he x hx,h]
 subst hA;exact hs.elim
theorem zaV{t1 t2:TypeId}{x:Operand}(aY:o.op=.convert t1 t2 x)(hA:act P Γ o ev ob=A)(hs:A.safe):bV P Γ o ev ob A:=by
 have hx:x∈o.op.operands.toList:=by simp[aY,Op.operands]
 simp only[act,aCv,aY]at hA;split at hA;rename_i h1 h2 h;subst hA;exact bV.pure (iZ _) λev' ob' he _=>by simp only[act,aCv,aY,he x hx,h,h1,h2]
 subst hA;exact hs.elim
theorem TJ{t:TypeId}{x:Operand}{f:Nat}(aY:o.op=.fieldAddr t x f)(hA:act P Γ o ev ob=A)(hs:A.safe):bV P Γ o ev ob A:=by
 have hx:x∈o.op.operands.toList:=by simp[aY,Op.operands]
 simp only[act,aFa,aY]at hA;split at hA;rename_i off hf;split at hA;rename_i h;subst hA;exact bV.pure (rZ hx λL hL=>by rw[h];exact hL) λev' ob' he _=>by simp only[act,aFa,aY,he x hx,h,hf]
 rename_i h;subst hA;exact bV.pure (rZ hx λL hL=>by rw[h];exact hL) λev' ob' he _=>by simp only[act,aFa,aY,he x hx,h,hf]
 rename_i h;subst hA;exact bV.pure (rZ hx λL hL=>by rw[h];exact hL) λev' ob' he _=>by simp only[act,aFa,aY,he x hx,h,hf]
 subst hA;exact hs.elim;subst hA;exact hs.elim
theorem TK{t:TypeId}{x y:Operand}(aY:o.op=.indexAddr t x y)(hA:act P Γ o ev ob=A)(hs:A.safe):bV P Γ o ev ob A:=by
 have hx:x∈o.op.operands.toList:=by simp[aY,Op.operands]
 have hy:y∈o.op.operands.toList:=by simp[aY,Op.operands]
 simp only[act,aIa,aY]at hA;split at hA;rename_i e hu;split at hA;rename_i n k j hn hj;split at hA;rename_i len s get hex;split at hA;rename_i pM;subst hA;exact bV.pchk (iZ _) λev' ob' he _=>by simp only[act,aIa,aY,he x hx,he y hy,hex,hu,hn,hj,pM,Qs]
 subst hA;exact hs.elim;rename_i L hex;split at hA;rename_i e' s b len get hL;split at hA;rename_i pM;subst hA;refine bV.pchk (λM hM=>.inl (.inl ⟨x,hx,?_⟩)) λev' ob' he bZ=>?_;rw[hex];exact hM;have e:=bZ (L,false) (by simp);simp only at e;simp only[act,aIa,aY,he x hx,he y hy,hex,hu,hn,hj,e,hL,pM,Qs];subst hA;exact hs.elim;rename_i s len get hL;split at hA;rename_i pM;subst hA;refine bV.pchk (iZ _) λev' ob' he bZ=>?_;have e:=bZ (L,false) (by simp);simp only at e;simp only[act,aIa,aY,he x hx,he y hy,hex,hu,hn,hj,e,hL,pM,Qs];subst hA;exact hs.elim;rename_i hL;split at hA;rename_i pM;subst hA;refine bV.pchk (λM hM=>.inl (.inl ⟨x,hx,?_⟩)) λev' ob' he bZ=>?_;rw[hex];exact hM;have e:=bZ (L,false) (by simp);simp only at e;simp only[act,aIa,aY,he x hx,he y hy,hex,hu,hn,hj,e,hL,pM,Qs];subst hA;exact hs.elim;rename_i hL;split at hA;rename_i pM;subst hA;refine bV.pchk (λM hM=>.inl (.inl ⟨x,hx,?_⟩)) λev' ob' he bZ=>?_;rw[hex];exact hM;have e:=bZ (L,false) (by simp);simp only at e;simp only[act,aIa,aY,he x hx,he y hy,hex,hu,hn,hj,e,hL,pM,Qs];subst hA;exact hs.elim;subst hA;exact hs.elim;subst hA;exact hs.elim;subst hA;exact hs.elim;rename_i m e hu;have hc:∀ev' ob',(∀x∈o.op.operands.toList,ev' x=ev x)->act P Γ o ev' ob'=A:=λev' ob' he=>by
  simp only[act,aIa,aY,hu,he x hx,he y hy];exact hA
 unfold Dx at hA;split at hA;split at hA;split at hA;rename_i h;subst hA;exact bV.pure (rZ hx λL hL=>by simp[mr,uz,nP]at hL) λev' ob' he _=>hc ev' ob' he;rename_i h;subst hA;exact bV.pure (iZ _) λev' ob' he _=>hc ev' ob' he;subst hA;exact hs.elim;subst hA;exact hs.elim;subst hA;exact hs.elim;subst hA;exact hs.elim
theorem zaW{x:Operand}{k:Nat}(aY:o.op=.extract x k)(hA:act P Γ o ev ob=A)(hs:A.safe):bV P Γ o ev ob A:=by
 have hx:x∈o.op.operands.toList:=by simp[aY,Op.operands]
 simp only[act,aEx,aY]at hA;split at hA;rename_i ds h;split at hA;rename_i d hd;subst hA;refine bV.pure (rZ hx λL hL=>?_) λev' ob' he _=>by simp only[act,aEx,aY,he x hx,h,hd]
 rw[h];exact mg.2 ⟨d,KP hd,hL⟩;subst hA;exact hs.elim;subst hA;exact hs.elim
theorem zq{c:Callee}{args:Array Operand}{ts:Array TypeId}(aY:o.op=.call {callee:=c,args,argTypes:=ts}):∀x∈args.toList,x∈o.op.operands.toList:=by
 intro x hx;simp only[aY,Op.operands];cases c<;>simp[Call.operands]<;>simp at hx<;>first|exact hx|exact .inr hx
theorem zvQ{b:Builtin}{args:Array Operand}{ts:Array TypeId}(hb:b=.max\/b=.min)(aY:o.op=.call {callee:=.builtin b,args,argTypes:=ts})(hA:act P Γ o ev ob=A)(hs:A.safe):bV P Γ o ev ob A:=by
 have hm:=zq aY;have ZW:∀ev':Operand->DV,(∀x∈o.op.operands.toList,ev' x=ev x)->args.toList.map ev'=args.toList.map ev:=λev' he=>qdo λx hx=>he x (hm x hx);rcases hb with rfl|rfl<;>simp only[act,aMx,aMi,aY]at hA<;>split at hA
 rename_i h;subst hA;exact bV.pure (iZ _) λev' ob' he _=>by simp only[act,aMx,aMi,aY,ZW ev' he,h]
 subst hA;exact hs.elim;rename_i h;subst hA;exact bV.pure (iZ _) λev' ob' he _=>by simp only[act,aMx,aMi,aY,ZW ev' he,h]
 subst hA;exact hs.elim
theorem zyV{args:Array Operand}{ts:Array TypeId}(aY:o.op=.call {callee:=.builtin .len,args,argTypes:=ts})(hA:act P Γ o ev ob=A)(hs:A.safe):bV P Γ o ev ob A:=by
 have hm:=zq aY;simp only[act,aLn,aY]at hA;split at hA;rename_i x t gJ ht;have hx:x∈o.op.operands.toList:=hm x (by rw[gJ];simp);split at hA;rename_i e hu;split at hA;rename_i h;subst hA;exact bV.pure (iZ _) λev' ob' he _=>by simp only[act,aLn,aY,gJ,ht,hu,he x hx,h]
 rename_i h;subst hA;exact bV.pure (iZ _) λev' ob' he _=>by simp only[act,aLn,aY,gJ,ht,hu,he x hx,h]
 rename_i L h;split at hA;rename_i hL;subst hA;refine bV.pure (iZ _) λev' ob' he bZ=>?_;have e:=bZ (L,false) (by simp);simp only at e;simp only[act,aLn,aY,gJ,ht,hu,he x hx,h,e,hL];rename_i hL;subst hA;refine bV.pure (iZ _) λev' ob' he bZ=>?_;have e:=bZ (L,false) (by simp);simp only at e;simp only[act,aLn,aY,gJ,ht,hu,he x hx,h,e,hL];rename_i hL;subst hA;refine bV.pure (iZ _) λev' ob' he bZ=>?_;have e:=bZ (L,false) (by simp);simp only at e;simp only[act,aLn,aY,gJ,ht,hu,he x hx,h,e,hL];subst hA;exact hs.elim;subst hA;exact hs.elim;rename_i kt vt hu;split at hA;rename_i L h;split at hA;rename_i hL;subst hA;refine bV.pure (iZ _) λev' ob' he bZ=>?_;have e:=bZ (L,false) (by simp);simp only at e;simp only[act,aLn,aY,gJ,ht,hu,he x hx,h,e,hL];subst hA;exact hs.elim;subst hA;exact hs.elim;subst hA;exact hs.elim;subst hA;exact hs.elim
theorem TL{d:DV}{ob':Nat→Option AO}{m sz:Nat}{new:Nat→List PV}{fps:List (Nat×Bool)}(h:Gw d ob=some (m,sz,new,fps))(bZ:∀y∈fps,ob' y.1=ob y.1) :
  Gw d ob'=some (m,sz,new,fps):=by
 unfold Gw at h ⊢;split at h;exact h;rename_i M;split at h;rename_i hM;have h':=h;simp only[bM,gq]at h;have e:=bZ (M,false) (by rw[<- h.2.2.2];simp);simp only at e;rw[e,hM];exact h';rename_i hM;have h':=h;simp only[bM,gq]at h;have e:=bZ (M,false) (by rw[<- h.2.2.2];simp);simp only at e;rw[e,hM];exact h';cases h;cases h
theorem zfv{args:Array Operand}{ts:Array TypeId}(aY:o.op=.call {callee:=.builtin .append,args,argTypes:=ts})(hA:act P Γ o ev ob=A)(hs:A.safe):bV P Γ o ev ob A:=by
 have hm:=zq aY;have hA0:=hA;simp only[act,aAp,aY]at hA;split at hA
 ·rename_i s x t t' gJ ht;have hsm:s∈o.op.operands.toList:=hm s (by rw[gJ];simp);have hx:x∈o.op.operands.toList:=hm x (by rw[gJ];simp);split at hA
  ·rename_i e dst hu htt hd;split at hA
   ·rename_i ie z hie hz;have zEJ:∀(ev':Operand->DV)(ob':Nat->Option AO),act P Γ o ev' ob'=SL e ie dst (ev' x) (ev' s) ob':=λev' ob'=>by
     simp only[act,aAp,aY,gJ,ht,hu,htt,hd,hie,hz]
    unfold SL at hA zEJ;split at hA
    ·rename_i m sz new fps pg
     -- the source looks only at zEI fps names
     have zOc:∀(ev':Operand->DV)(ob':Nat->Option AO),(∀x∈o.op.operands.toList,ev' x=ev x)->(∀y∈fps,ob' y.1=ob y.1) ->
       Gw (ev' x) ob'=some (m,sz,new,fps):=by
      intro ev' ob' he bZ;rw[he x hx];exact TL pg bZ
     split at hA;rename_i L hes;split at hA;rename_i e' s' b' n' get' hL;split at hA;rename_i hif;subst hA;refine⟨λz hz=>?_,.inr ⟨L,rfl,by simp[aC.fp]⟩,λz hz M hM=>?_,λd' gG M hM=>?_,λev' ob' he bZ=>?_⟩;simp only[aC.u,mf]at hz;subst hz;simp[aC.fp];simp only[aC.u,mf]at hz;subst hz;simp[qw]at hM;simp only [aC.gives]at gG;subst gG;simp only[mr,uz,nP,mf]at hM;subst hM;exact .inr (by simp[aC.fp]);have e1:=zOc ev' ob' he (fun y hy=>bZ y (jM _ hy));have e2:=bZ (L,true) (by simp[aC.fp]);simp only at e2;rw[zEJ,e1];simp only[he s hsm,he x hx,hes,e2,hL];rw[eU hif];subst hA;exact hs.elim;subst hA;exact hs.elim;rename_i hes;split at hA;rename_i hn;split at hA;rename_i hif;subst hA;refine⟨λz hz=>?_,.inl rfl,λz hz M hM=>?_,λd' gG M hM=>?_,λev' ob' he bZ=>?_⟩;simp only[aC.u,mf]at hz;subst hz;simp[aC.fp];simp only[aC.u,mf]at hz;subst hz;simp[qw]at hM;simp only [aC.gives]at gG;subst gG;simp only[mr,uz,nP,mf]at hM;subst hM;exact .inr (by simp[aC.fp]);have e1:=zOc ev' ob' he (fun y hy=>bZ y (jM _ hy));have e2:=bZ (dst,true) (by simp[aC.fp]);simp only at e2;rw[zEJ,e1];simp only[he s hsm,hes,e2,hn];rw[eU hif];subst hA;exact hs.elim;subst hA;exact hs.elim;subst hA;exact hs.elim
    subst hA;exact hs.elim
   subst hA;exact hs.elim
  subst hA;exact hs.elim
 subst hA;exact hs.elim
theorem zvR(x:PA):uz (JU x)=[]:=by
 cases x with|one p=>rfl|agg cs=>exact Xw cs
theorem zaX(rs:List PA):mr (resD rs)=[]:=by
 have tup:∀l:List PA,mr (.tup (l.map JU))=[]:=by
  intro l
  induction l with|nil=>rfl|cons x l ih=>simp only[lM,mr,oG,zvR,Qr]at ih ⊢;exact ih
 match rs with|[]=>exact tup _|[x]=>exact zvR x|x::y::l=>exact tup _
theorem zyW{k:Gq}{args:Array Operand}{c:Callee}{ts:Array TypeId}(aY:o.op = .call {callee:=c,args,argTypes:=ts})
    (hc:∀ev' ob',(∀x∈o.op.operands.toList,ev' x=ev x)->act P Γ o ev' ob'=kL P Γ o k (args.toList.map ev') ob') (hA:kL P Γ o k (args.toList.map ev) ob=A) (hs:A.safe):bV P Γ o ev ob A:=by
  have hm:=zq aY;have ZW:∀ev':Operand->DV,(∀x∈o.op.operands.toList,ev' x=ev x)->args.toList.map ev'=args.toList.map ev:=λev' he=>qdo λx hx=>he x (hm x hx);unfold kL at hA;split at hA;subst hA;exact hs.elim;split at hA;rename_i L hf caps gJ;split at hA;rename_i hL vk;split at hA;rename_i hif;subst hA;refine⟨λz hz=>?_,.inl rfl,λz hz M hM=>?_,λd' gG M hM=>?_,λev' ob' he bZ=>?_⟩;simp only[aC.u,mf]at hz;subst hz;simp[aC.fp];simp only[aC.u,mf]at hz;subst hz;simp[qw]at hM;simp only[aC.gives]at gG;subst gG;simp[mr]at hM;have e2:=bZ (L,true) (by simp [aC.fp]);simp only at e2;rw[hc ev' ob' he,ZW ev' he];simp only[kL,gJ,e2,hL,vk];rw[eU hif];subst hA;exact hs.elim;subst hA;exact hs.elim;subst hA;exact hs.elim;split at hA;rename_i dst gJ hd;split at hA;rename_i hn hi hz;split at hA;rename_i hif;subst hA;refine⟨λz hz=>?_,.inl rfl,λz hz M hM=>?_,λd' gG M hM=>?_,λev' ob' he bZ=>?_⟩;simp only[aC.u,mf]at hz;subst hz;simp[aC.fp];simp only[aC.u,mf]at hz;subst hz;simp[qw]at hM;simp only [aC.gives]at gG;subst gG;simp only[mr,uz,nP,mf]at hM;subst hM;exact .inr (by simp[aC.fp]);have e2:=bZ (dst,true) (by simp [aC.fp]);simp only at e2;rw[hc ev' ob' he,ZW ev' he];simp only[kL,gJ,hd,e2,hn,hi,hz];rw[eU hif];subst hA;exact hs.elim;subst hA;exact hs.elim;subst hA;exact hs.elim;split at hA;rename_i az u dst has hd;split at hA;rename_i n get rs ie z hF iq hi hz;split at hA;rename_i hif;subst hA;refine⟨λz hz=>?_,.inl rfl,λz hz M hM=>?_,λd' gG M hM=>?_,λev' ob' he bZ=>?_⟩;simp only[aC.u,mf]at hz;subst hz;simp[aC.fp];simp only[aC.u,mf]at hz;subst hz;simp[qw]at hM
  · simp only [aC.gives]at gG;subst gG;cases rs with
    | nil =>
      simp only[mr,uz,nP,mf]at hM;subst hM;exact .inr (by simp[aC.fp])
    | cons x l =>
      have hM2:M=dst:=by
        simp only[mr,oG,dR,uz,nP,mf,mg,uu]at hM;rcases hM with hM|⟨d1,⟨v,_,rfl⟩,hM⟩
        exact hM;simp[uz,nP]at hM
      subst hM2;exact .inr (by simp[aC.fp])
  have hl:∀L∈(args.toList.map ev).flatMap (bG ob),ob' L=ob L:=fun L hL=>bZ (L,false) (jM _ (uu.2 ⟨L,hL,rfl⟩));have e2:=bZ (dst,true) (by simp[aC.fp]);simp only at e2;have e3:iG ob' (args.toList.map ev)=some (az,u):=(mF hl).trans has;have e4:(args.toList.map ev).flatMap (bG ob')=(args.toList.map ev).flatMap (bG ob):=fmc λd hd=>jv λL hL=>hl L (mg.2 ⟨d,hd,hL⟩);rw[hc ev' ob' he,ZW ev' he];simp only[kL,hd,e2,hF,iq,hi,hz,e3,e4];rw[eU hif];subst hA;exact hs.elim;subst hA;exact hs.elim;subst hA;exact hs.elim;split at hA;rename_i ds L Px;split at hA;rename_i az e' s' b' n get has hL;split at hA;rename_i m get' hF;split at hA;rename_i hif;subst hA;refine⟨λz hz=>?_,.inr ⟨L,rfl,by simp[aC.fp]⟩,λz hz M hM=>?_,λd' gG M hM=>?_,λev' ob' he bZ=>?_⟩;simp only[aC.u,mf]at hz;subst hz;simp[aC.fp];simp only[aC.u,mf]at hz;subst hz;simp[qw]at hM;simp only [aC.gives]at gG;subst gG;simp only[mr,uz,nP,mf]at hM;subst hM;exact .inr (by simp[aC.fp]);have hl:∀M∈ds.flatMap (bG ob),ob' M=ob M:=fun M hM=>bZ (M,false) (jM _ (uu.2 ⟨M,hM,rfl⟩));have e2:=bZ (L,true) (by simp[aC.fp]);simp only at e2;have e3:iG ob' ds=some (az,[]):=(mF hl).trans has;have e4:ds.flatMap (bG ob')=ds.flatMap (bG ob):=fmc λd hd=>jv λL hL=>hl L (mg.2 ⟨d,hd,hL⟩);rw[hc ev' ob' he,ZW ev' he];simp only[kL,Px,e3,e2,hL,hF,e4];rw[eU hif];subst hA;exact hs.elim;subst hA;exact hs.elim;subst hA;exact hs.elim;rename_i ds Px;split at hA;rename_i az dst has hd;split at hA;rename_i ie z iq hi hz;split at hA;rename_i l hzl;split at hA;rename_i m get' hF;split at hA;rename_i hif;subst hA;refine⟨λz hz=>?_,.inl rfl,λz hz M hM=>?_,λd' gG M hM=>?_,λev' ob' he bZ=>?_⟩;simp only[aC.u,mf]at hz;subst hz;simp[aC.fp];simp only[aC.u,mf]at hz;subst hz;simp[qw]at hM;simp only [aC.gives]at gG;subst gG;simp only[mr,uz,nP,mf]at hM;subst hM;exact .inr (by simp[aC.fp]);have hl:∀M∈ds.flatMap (bG ob),ob' M=ob M:=fun M hM=>bZ (M,false) (jM _ (uu.2 ⟨M,hM,rfl⟩));have e2:=bZ (dst,true) (by simp[aC.fp]);simp only at e2;have e3:iG ob' ds=some (az,[]):=(mF hl).trans has;have e4:ds.flatMap (bG ob')=ds.flatMap (bG ob):=fmc λd hd=>jv λL hL=>hl L (mg.2 ⟨d,hd,hL⟩);rw[hc ev' ob' he,ZW ev' he];simp only[kL,Px,e3,hd,e2,iq,hi,hz,hzl,hF,e4];rw[eU hif];subst hA;exact hs.elim;subst hA;exact hs.elim;subst hA;exact hs.elim;subst hA;exact hs.elim;subst hA;exact hs.elim;subst hA;exact hs.elim
theorem Ed{sf:lD}{ob:Nat->Option AO}:∀{cells l:List Cl}{ys cs:List XC}{u:List (Nat×AO)}{ms:List Nat},iw cells ys=some (l,u)->iY sf ob cells=some (cs,ms) ->
  u.map (·.1)=ms/\(∀x∈u,qw x.2=[])/\∀L∈l.flatMap nP,L∈cells.flatMap nP
 | [],l,[],cs,u,ms,h,h2=>by
  simp only[iw,bM,gq]at h;obtain⟨rfl,rfl⟩:=h;simp only[iY,bM,gq]at h2;rw[<- h2.2];exact⟨rfl,λx hx=>by simp at hx,λL hL=>hL⟩
 | [],l,_::_,cs,u,ms,h,h2=>by simp[iw]at h
 | c::cells,l,[],cs,u,ms,h,h2=>by simp[iw]at h
 | c::cells,l,y::ys,cs,u,ms,h,h2=>by
  unfold iw at h;split at h;rename_i e;simp at e;rename_i e1 e2;simp only[Du]at e1 e2;obtain⟨rfl,rfl⟩:=e1;obtain⟨rfl,rfl⟩:=e2;split at h;rename_i hp;simp only[bM,gq]at h;obtain⟨rfl,rfl⟩:=h;simp only[iY]at h2;split at h2;rename_i hc;simp only[bM,gq]at h2;rw[<- h2.2];obtain⟨i1,i2,i3⟩:=Ed hp hc;exact⟨i1,i2,λL hL=>by simp only[oG,nP,Qr]at hL ⊢;exact i3 L hL⟩;cases h2;cases h;rename_i e1 e2;simp only[Du]at e1 e2;obtain⟨rfl,rfl⟩:=e1;obtain⟨rfl,rfl⟩:=e2;split at h;rename_i hp;simp only[bM,gq]at h;obtain⟨rfl,rfl⟩:=h;simp only[iY]at h2;split at h2;rename_i hc;split at h2;simp only [bM,gq]at h2;rw [← h2.2];obtain⟨i1,i2,i3⟩:=Ed hp hc;refine⟨by simp[i1],λx hx=>?_,λL hL=>?_⟩;rcases jV.1 hx with e|hx
  subst e;rfl;exact i2 x hx;simp only [oG,dR]at hL ⊢;exact hL.imp_right (i3 L);cases h2;cases h2;cases h;rename_i e1 e2;simp only[Du]at e1 e2;obtain⟨rfl,rfl⟩:=e1;obtain⟨rfl,rfl⟩:=e2;split at h;rename_i hp;simp only[bM,gq]at h;obtain⟨rfl,rfl⟩:=h;simp only[iY]at h2;split at h2;rename_i hc;split at h2;simp only [bM,gq]at h2;rw [← h2.2];obtain⟨i1,i2,i3⟩:=Ed hp hc;refine⟨by simp[i1],λx hx=>?_,λL hL=>?_⟩;rcases jV.1 hx with e|hx
  subst e;rfl;exact i2 x hx;simp only [oG,dR]at hL ⊢;exact hL.imp_right (i3 L);cases h2;cases h2;cases h;rename_i e1 e2;simp only[Du]at e1 e2;obtain⟨rfl,rfl⟩:=e1;obtain⟨rfl,rfl⟩:=e2;split at h;rename_i hp;simp only[bM,gq]at h;obtain⟨rfl,rfl⟩:=h;simp only[iY]at h2;split at h2;rename_i hc;split at h2;simp only [bM,gq]at h2;rw [← h2.2];obtain⟨i1,i2,i3⟩:=Ed hp hc;exact⟨i1,i2,λL hL=>by simp only[oG,dR]at hL ⊢;exact hL.imp_right (i3 L)⟩;cases h2;cases h2;cases h;cases h
theorem zyX{sf:lD}{ob:Nat→Option AO}{d:DV}{x y:XA}{u:List (Nat×AO)}{ls ms:List Nat}(h:Jy ob d y=some u)(h2:Bd sf ob d=some (x,ls,ms)) :
  u.map (·.1)=ls/\∀x∈u,∀L∈qw x.2,∃o',ob x.1=some o'/\L∈qw o':=by
 have data:tu ob d=some (x,ls,ms)->ls=[]:=by
  intro h;unfold tu at h;split at h;simp only[bM,gq]at h;exact h.2.1.symm;cases h
 unfold Jy at h;split at h;rename_i L;split at h;rename_i ty' cells hL;rw[pW,hL]at h2;dsimp only at h2;split at h2;rename_i cs ms' hc;simp only[bM,gq]at h2;obtain⟨rfl,rfl,rfl⟩:=h2;split at h;split at h;rename_i l u' hty hp;simp only[bM]at h;subst h;obtain⟨i1,i2,i3⟩:=Ed hp hc;refine⟨by simp[i1],λx hx K hK=>?_⟩;rcases jV.1 hx with e|hx
 subst e;exact⟨_,hL,i3 K hK⟩;rw[i2 x hx]at hK;simp at hK;cases h;cases h;cases h2;rename_i wR;have hx:tu ob (.one (.c (.ptr L 0)))=some (x,ls,ms):=by
  rw[pW]at h2;cases hL:ob L with
  | none=>rw[hL]at h2;exact h2
  | some o =>
   rw[hL]at h2;cases o with|box ty cells=>exact absurd hL (wR _ _)|_=>exact h2
 rw[data hx];split at h;simp only[bM]at h;subst h;exact⟨rfl,λx hx=>by simp at hx⟩;cases h;rename_i wR;have hx:tu ob d=some (x,ls,ms):=by
  unfold Bd at h2;split at h2;exact(wR _ rfl).elim;exact h2
 rw[data hx];split at h;simp only[bM]at h;subst h;exact⟨rfl,λx hx=>by simp at hx⟩;cases h
theorem zda{sf:lD}{ob:Nat->Option AO}:∀{ds:List DV}{xs ys:List XA}{u:List (Nat×AO)}{ls ms:List Nat},jW ob ds ys=some u->kD sf ob ds=some (xs,ls,ms) ->
  u.map (·.1)=ls/\∀x∈u,∀L∈qw x.2,∃o',ob x.1=some o'/\L∈qw o'
 | [],xs,[],u,ls,ms,h,h2=>by
  simp only[jW,bM]at h;subst h;simp only[kD,bM,gq]at h2;rw[<- h2.2.1];exact⟨rfl,λx hx=>by simp at hx⟩
 | [],_,_::_,_,_,_,h,_=>by simp[jW]at h
 | _::_,_,[],_,_,_,h,_=>by simp[jW]at h
 | d::ds,xs,y::ys,u,ls,ms,h,h2=>by
  simp only[jW]at h;split at h;rename_i u1 u2 e1 e2;simp only[bM]at h;subst h;simp only[kD]at h2;split at h2;rename_i x bl m1 xs' bls m2 h3 h4;simp only[bM,gq]at h2;rw[<- h2.2.1];obtain⟨i1,i2⟩:=zda e2 h4;obtain⟨j1,j2⟩:=zyX e1 h3;exact⟨by simp[i1,j1],λx hx=>(dR.1 hx).elim (j2 x) (i2 x)⟩;cases h2;cases h
theorem IY{sf:lD}{ob ob':Nat→Option AO}:∀{cells:List Cl},(∀L∈cells.flatMap bg,ob' L=ob L)→iY sf ob' cells=iY sf ob cells
  | [],_=>rfl
  | c::cells,h=>by
    have ih:iY sf ob' cells=iY sf ob cells:=IY λL hL=>h L (by simp only[oG,dR];exact .inr hL);cases c with|vec M=>simp only[iY,ih,h M (by simp[bg])]|mo M=>simp only[iY,ih,h M (by simp[bg])]|_=>simp only[iY,ih]
theorem zfw{sf:lD}{ob ob':Nat->Option AO}{d:DV}(h:∀L∈bG ob d,ob' L=ob L):Bd sf ob' d=Bd sf ob d/\∀y,Jy ob' d y=Jy ob d y:=by
 have hx:tu ob' d=tu ob d:=by simp only[tu,MZ h]
 by_cases hd:∃L,d=.one (.c (.ptr L 0))
 ·obtain⟨L,rfl⟩:=hd;have hL:ob' L=ob L:=h L (ny.2 ⟨L,by simp[bY,dC,bg],.inl rfl⟩);refine⟨?_,λy=>by simp only[Jy,hL]⟩;rw[pW,pW,hL,hx];cases ho:ob L with
  | none=>rfl
  | some o =>
   cases o with
   | box ty cells =>
    have:iY sf ob' cells=iY sf ob cells:=IY λM hM=>h M (ny.2 ⟨L,by simp[bY,dC,bg],.inr ⟨_,ho,M,hM,.inl rfl⟩⟩);simp only[this]
   | _=>rfl
 refine⟨?_,fun y => ?_⟩;unfold Bd;split;exact(hd ⟨_,rfl⟩).elim;exact hx;unfold Jy;split;exact(hd ⟨_,rfl⟩).elim;rfl
theorem Nh{sf:lD}{ob ob':Nat→Option AO}:∀{ds:List DV},(∀L∈ds.flatMap (bG ob),ob' L=ob L)→kD sf ob' ds=kD sf ob ds∧∀ys,jW ob' ds ys=jW ob ds ys
  | [],_=>⟨rfl,λys=>by cases ys<;>rfl⟩
  | d::ds,h=>by
    obtain⟨i1,i2⟩:=Nh (sf:=sf) (ds:=ds) (ob':=ob') λL hL=>h L (by simp only[oG,dR];exact .inr hL);obtain⟨j1,j2⟩:=zfw (sf:=sf) (ob':=ob') (d:=d) λL hL=>h L (by simp only[oG,dR];exact .inl hL);refine⟨by simp only[kD,i1,j1],λys=>?_⟩;cases ys with|nil=>rfl|cons y ys=>simp only[jW,i2,j2]
theorem zi2{sf:lD}{C:MK}{ds:List DV}(hk:∀ev' ob',(∀x∈o.op.operands.toList,ev' x=ev x)->act P Γ o ev' ob'=uA C sf ds ob')(hA:uA C sf ds ob=A)(hs:A.safe):bV P Γ o ev ob A:=by
 unfold uA at hA;split at hA
 ·rename_i xs ls ms has;split at hA
  ·rename_i s rs ys hCx;split at hA
   rotate_left
   subst hA;exact hs.elim;rename_i hpm;unfold qL at hA;split at hA;rename_i u Qk;split at hA;rename_i dm;subst hA;have zyY:=dm;simp only[fQ,VT]at dm;obtain⟨h1,h2⟩:=zda Qk has;have hw:∀L∈(u.filter λx=>!lF x.2).map (·.1),(L,true)∈wr ((u.filter λx=>!lF x.2).map (·.1))++rd (ds.flatMap (bG ob)):=λL hL=>dR.2 (.inl (Nc hL));have hul:∀x∈u.filter λx=>!lF x.2,x.1∈(u.filter λx=>!lF x.2).map (·.1):=λx hx=>uu.2 ⟨x,hx,rfl⟩;refine⟨λx hx=>hw _ (hul x hx),?_,λx hx L hL=>?_,λd hd L hL=>(by simp only[aC.gives]at hd;subst hd;rw[zaX]at hL;simp at hL),λev' ob' he bZ=>?_⟩
   ·match ms,dm.1.2,dm.2 with|[],_,_=>exact .inl rfl|[x],_,hc=>exact .inr ⟨x,rfl,hw x (by simpa using hc)⟩|_::_::_,h,_=>simp at h
   obtain⟨o',ho,hL⟩:=h2 x (Qp.1 hx).1 L hL;exact .inr ⟨(x.1,true),hw _ (hul x hx),o',ho,hL⟩;have hl:∀L∈ds.flatMap (bG ob),ob' L=ob L:=fun L hL=>bZ (L,false) (dR.2 (.inr (uu.2 ⟨L,hL,rfl⟩)));have e1:=Nh (sf:=sf) hl;have e2:ds.flatMap (bG ob')=ds.flatMap (bG ob):=fmc λd hd=>jv λL hL=>hl L (mg.2 ⟨d,hd,hL⟩);rw[hk ev' ob' he];simp only[uA,qL,e1.1,has,hCx,hpm,e1.2,Qk,zyY,e2];subst hA;exact hs.elim;subst hA;exact hs.elim
  subst hA;exact hs.elim
 subst hA;exact hs.elim
theorem IZ{ev':Operand→DV}:∀{l:List Operand},(∀x∈l,ev' x=ev x)→DD ev' l=DD ev l|[],_=>rfl|x::l,h=>by simp only[DD,h x kH,IZ λy hy=>h y (jM _ hy)]
theorem zdb{rs:List PA}{args:Array Operand}{c:Callee}{ts:Array TypeId}{az:List PA}{u:mQ}(aY:o.op = .call {callee:=c,args,argTypes:=ts})
    (has:iG ob (args.toList.map ev)=some (az,u))
    (key:∀(ev':Operand->DV)(ob':Nat->Option AO),(∀x∈o.op.operands.toList,ev' x=ev x)->(∀L∈args.toList.flatMap λx=>bG ob (ev x),ob' L=ob L) ->
      act P Γ o ev' ob'=lI (args.toList.flatMap λx=>bG ob (ev x)) u rs) (hA:lI (args.toList.flatMap λx=>bG ob (ev x)) u rs=A):bV P Γ o ev ob A:=by
  have zEY:∀L,L∈(args.toList.flatMap λx=>bG ob (ev x))->(L,true)∈wr (args.toList.flatMap λx=>bG ob (ev x)):=λL hL=>uu.2 ⟨L,hL,rfl⟩;have zHg:∀L,L∈(args.toList.flatMap λx=>bG ob (ev x))->(L,false)∈rd (args.toList.flatMap λx=>bG ob (ev x)):=λL hL=>uu.2 ⟨L,hL,rfl⟩;have hk:∀x∈u,(x.1,true)∈wr (args.toList.flatMap λx=>bG ob (ev x))/\qw x.2=[]:=λx hx=>by
    obtain⟨h1,h2⟩:=Cm has x hx;refine⟨zEY _ ?_,h2⟩;rw[qjf]at h1;exact h1
  generalize (args.toList.flatMap λx=>bG ob (ev x))=jl at hA key hk zEY zHg;cases hl:Wq rs||Ws u rs with
  | true =>
    simp only[lI,hl]at hA key;subst hA;exact⟨λx hx=>by simp[aC.u]at hx,.inl rfl,λx hx=>by simp[aC.u]at hx,λd hd L hL=>(by cases hd;rw[zaX]at hL;simp at hL),λev' ob' he bZ=>key ev' ob' he λL hL=>bZ _ (zHg L hL)⟩
  | false =>
    simp only[lI,hl]at hA key;subst hA;exact⟨λx hx=>(hk x hx).1,.inl rfl,λx hx L hL=>(by rw[(hk x hx).2]at hL;simp at hL),λd hd L hL=>(by cases hd;rw[zaX]at hL;simp at hL),λev' ob' he bZ=>key ev' ob' he λL hL=>bZ _ (zEY L hL)⟩
theorem zpq{f:Operand}{args:Array Operand}{ts:Array TypeId}(aY:o.op=.call {callee:=.value f,args,argTypes:=ts})(hA:act P Γ o ev ob=A)(hs:A.safe):bV P Γ o ev ob A:=by
 have hm:=zq aY;have hf:f∈o.op.operands.toList:=by simp[aY,Op.operands,Call.operands]
 simp only[act,aCl,aY]at hA;have e0:∀ev':Operand->DV,(∀x∈o.op.operands.toList,ev' x=ev x)->args.toList.map ev'=args.toList.map ev:=λev' he=>qdo λx hx=>he x (hm x hx);split at hA;rename_i gf caps hef;split at hA;rename_i C hC;exact zi2 (λev' ob' he=>by simp only[act,aCl,aY,he f hf,hef,hC,e0 ev' he]) hA hs;subst hA;exact hs.elim
 ·rename_i gf first caps hef
  split at hA;rename_i C hC;exact zi2 (λev' ob' he=>by simp only[act,aCl,aY,he f hf,hef,hC,e0 ev' he]) hA hs;rename_i hC;split at hA;rename_i hk;split at hA;exact zyW (k:=Γ.own gf) aY (λev' ob' he=>by simp only[act,aCl,aY,he f hf,hef,hC,hk]) hA hs;subst hA;exact hs.elim;rename_i hko;split at hA
  ·rename_i az u has;split at hA
   case h_2=>subst hA;exact hs.elim
   rename_i rs hrs
   have key:∀(ev':Operand->DV)(ob':Nat->Option AO),(∀x∈o.op.operands.toList,ev' x=ev x)->(∀L∈args.toList.flatMap λx=>bG ob (ev x),ob' L=ob L) ->
     act P Γ o ev' ob'=lI (args.toList.flatMap λx=>bG ob (ev x)) u rs:=by
    intro ev' ob' he hl;have e0:args.toList.map ev'=args.toList.map ev:=qdo λx hx=>he x (hm x hx);have e1:iG ob' (args.toList.map ev)=iG ob (args.toList.map ev):=mF λL hL=>hl L (by rw[qjf]at hL;exact hL);have e2:(args.toList.flatMap λx=>bG ob' (ev' x))=args.toList.flatMap λx=>bG ob (ev x):=by
     refine fmc λx hx=>?_;rw[he x (hm x hx)];exact jv λL hL=>hl L (mg.2 ⟨x,hx,hL⟩)
    simp only[act,aCl,aY,he f hf,hef,hC,hko,e0,e1,has,e2,hrs]
   exact zdb aY has key hA
  subst hA;exact hs.elim
 ·rename_i gf cells hef;split at hA
  ·rename_i az u has;split at hA
   case h_2=>subst hA;exact hs.elim
   rename_i rs hrs
   have key:∀(ev':Operand->DV)(ob':Nat->Option AO),(∀x∈o.op.operands.toList,ev' x=ev x)->(∀L∈args.toList.flatMap λx=>bG ob (ev x),ob' L=ob L) ->
     act P Γ o ev' ob'=lI (args.toList.flatMap λx=>bG ob (ev x)) u rs:=by
    intro ev' ob' he hl;have e0:args.toList.map ev'=args.toList.map ev:=qdo λx hx=>he x (hm x hx);have e1:iG ob' (args.toList.map ev)=iG ob (args.toList.map ev):=mF λL hL=>hl L (by rw[qjf]at hL;exact hL);have e2:(args.toList.flatMap λx=>bG ob' (ev' x))=args.toList.flatMap λx=>bG ob (ev x):=by
     refine fmc λx hx=>?_;rw[he x (hm x hx)];exact jv λL hL=>hl L (mg.2 ⟨x,hx,hL⟩)
    simp only[act,aCl,aY,he f hf,hef,e0,e1,has,e2,hrs]
   exact zdb aY has key hA
  subst hA;exact hs.elim
 subst hA;exact hs.elim
theorem Xz{f:FuncId}{first caps:Array Operand}(aY:o.op=.makeFunc (.func f) first caps)(hA:act P Γ o ev ob=A)(hs:A.safe):bV P Γ o ev ob A:=by
 have hm:∀x∈first.toList++caps.toList,x∈o.op.operands.toList:=λx hx=>by simp only[aY,Op.operands];simpa using hx
 simp only[act,aMf,aY]at hA;split at hA;rename_i hmt;split at hA;rename_i cs hf hc;subst hA;refine bV.pure (λL hL=>by simp[mr,uz,nP]at hL) λev' ob' he _=>?_;have e1:DD ev' caps.toList=some cs:=(IZ λx hx=>he x (hm x (dR.2 (.inr hx)))).trans hc;simp only[act,aMf,aY,hmt,hf,e1];subst hA;exact hs.elim;rename_i hmt;have hbc:∀ev':Operand->DV,(∀x∈o.op.operands.toList,ev' x=ev x)->Qv ev' first.toList caps.toList=Qv ev first.toList caps.toList:=λev' he=>by
  unfold Qv;cases hf:first.toList with
  | nil=>rfl
  | cons x r =>
   cases r with
   | cons y r=>rfl
   | nil =>
    cases hc:caps.toList with|cons y r=>rfl|nil=>simp only[];rw[he x (hm x (by rw[hf];simp))]
 split at hA;rename_i l hb;subst hA;exact bV.pure (iZ _) λev' ob' he _=>by simp only[act,aMf,aY,hmt,hbc ev' he,hb]
 rename_i hbn;split at hA;rename_i l u l' u' h1 h2;subst hA;have zHh:∀(x:Operand)(c:Cl),ev x=.one (.c c)->∀k,RC ob k (bg c)->k∈bG ob (ev x):=λx c h k hk=>by
  rw[h];exact ny.2 hk
 have clm:∀(xs:List Operand),∀L∈(xs.flatMap λx=>match ev x with | .one (.c c)=>[c]|_=>[.junk]).flatMap bg,∃x∈xs,∃c,ev x=.one (.c c)/\L∈bg c:=by
  intro xs L hL;obtain⟨c,hc,hL⟩:=mg.1 hL;obtain⟨x,hx,hc⟩:=mg.1 hc;refine⟨x,hx,?_⟩;split at hc;rename_i c' h;simp at hc;subst hc;exact⟨_,h,hL⟩;simp at hc;subst hc;simp[bg]at hL
 have keys:∀(xs:List Operand)(l:List PV)(u:mQ),uy ob (xs.flatMap λx=>match ev x with | .one (.c c)=>[c]|_=>[.junk])=some (l,u) ->
   ∀x∈u,x.1∈xs.flatMap (λx=>bG ob (ev x))/\qw x.2=[]:=by
  intro xs l u h y hy;obtain⟨h3,h4⟩:=Ah h y hy;refine⟨?_,h4⟩;obtain⟨L,hL,h3⟩:=h3;obtain⟨x,hx,c,hc,hL⟩:=clm xs _ hL;exact mg.2 ⟨x,hx,zHh x c hc _ ⟨L,hL,h3⟩⟩
 have zHi:∀(xs:List Operand)(ev':Operand->DV)(ob':Nat->Option AO),(∀x∈xs,ev' x=ev x)->(∀L∈xs.flatMap (λx=>bG ob (ev x)),ob' L=ob L) ->
   uy ob' (xs.flatMap λx=>match ev' x with | .one (.c c)=>[c]|_=>[.junk])=uy ob (xs.flatMap λx=>match ev x with | .one (.c c)=>[c]|_=>[.junk]):=by
  intro xs ev' ob' he bZ;have e0:(xs.flatMap λx=>match ev' x with | .one (.c c)=>[c]|_=>[.junk])=xs.flatMap λx=>match ev x with | .one (.c c)=>[c]|_=>[.junk] :=
   fmc λx hx=>by rw[he x hx]
  rw[e0];refine Ci λL hL=>?_;obtain⟨x,hx,c,hc,hL⟩:=clm xs _ hL;have hd:∀k,RC ob k (bg c)->ob' k=ob k:=λk hk=>bZ k (mg.2 ⟨x,hx,zHh x c hc _ hk⟩);exact⟨hd L ⟨L,hL,.inl rfl⟩,λo' kV M hM=>⟨hd M ⟨L,hL,.inr ⟨o',kV,M,hM,.inl rfl⟩⟩,λo2 o9 N hN=>hd N ⟨L,hL,.inr ⟨o',kV,M,hM,.inr ⟨o2,o9,hN⟩⟩⟩⟩⟩
 refine⟨λx hx=>?_,.inl rfl,λx hx L hL=>?_,λd' gG L hL=>?_,λev' ob' he bZ=>?_⟩;simp only [aC.u]at hx;refine Nc ?_;rw[qdT];rcases dR.1 hx with hx|hx
 exact dR.2 (.inl (keys _ _ _ h1 x hx).1);exact dR.2 (.inr (keys _ _ _ h2 x hx).1);simp only [aC.u]at hx;rcases dR.1 hx with hx|hx
 rw[(keys _ _ _ h1 x hx).2]at hL;simp at hL;rw[(keys _ _ _ h2 x hx).2]at hL;simp at hL;simp only[aC.gives]at gG;subst gG;simp[mr,uz,nP]at hL;have hl:∀L∈(first.toList++caps.toList).flatMap fun x=>bG ob (ev x),ob' L=ob L:=fun L hL=>bZ (L,true) (Nc hL);have e1:=zHi first.toList ev' ob' (λx hx=>he x (hm x (dR.2 (.inl hx)))) (λL hL=>hl L (by rw[qdT];exact dR.2 (.inl hL)));have e2:=zHi caps.toList ev' ob' (λx hx=>he x (hm x (dR.2 (.inr hx)))) (λL hL=>hl L (by rw[qdT];exact dR.2 (.inr hL)));have e3:((first.toList++caps.toList).flatMap λx=>bG ob' (ev' x))=(first.toList++caps.toList).flatMap λx=>bG ob (ev x):=by
  refine fmc λx hx=>?_;rw[he x (hm x hx)];exact jv λL hL=>hl L (mg.2 ⟨x,hx,hL⟩)
 simp only[act,aMf,aY,hmt,e3,hbc ev' he,hbn];split;rename_i l2 u2 l3 u3 h3 h4;have a1:some (l2,u2)=some (l,u):=h3.symm.trans (e1.trans h1);have a2:some (l3,u3)=some (l',u'):=h4.symm.trans (e2.trans h2);simp only[bM,gq]at a1 a2;obtain⟨rfl,rfl⟩:=a1;obtain⟨rfl,rfl⟩:=a2;rfl;rename_i wR;exact(wR l u l' u' (e1.trans h1) (e2.trans h2)).elim;subst hA;exact hs.elim
theorem TM{t:TypeId}{x y:Operand}(aY:o.op=.makeSlice t x y)(hA:act P Γ o ev ob=A)(hs:A.safe):bV P Γ o ev ob A:=by
 have hx:x∈o.op.operands.toList:=by simp[aY,Op.operands]
 have hy:y∈o.op.operands.toList:=by simp[aY,Op.operands]
 have hc0:∀ev' ob',(∀x∈o.op.operands.toList,ev' x=ev x)->act P Γ o ev' ob'=tK P Γ t (ev x) (ev y) o.dst ob':=λev' ob' he=>by simp only[act,aY,he x hx,he y hy]
 have hA0:=hA;rw[hc0 ev ob (λ_ _=>rfl)]at hA;unfold tK at hA;split at hA;rename_i e k1 j k2 j2 dst hu hex hey Iu;split at hA;rename_i ie z hi hz iq;have fin:∀(s:CP)(ao:AO),qw ao=[]->aC.chk [(dst,true)] s (.cl (.vec dst)) [(dst,ao)] []=A->(∀ob':Nat->Option AO,ob' dst=none->tK P Γ t (ev x) (ev y) o.dst ob'=A)->bV P Γ o ev ob A:=by
  intro s ao hao e hcc;subst e;refine⟨λz hz=>?_,.inl rfl,λz hz M hM=>?_,λd' gG M hM=>?_,λev' ob' he bZ=>?_⟩;simp only[aC.u,mf]at hz;subst hz;simp[aC.fp];simp only[aC.u,mf]at hz;subst hz;rw[hao]at hM;simp at hM;simp only [aC.gives]at gG;subst gG;simp only[mr,uz,nP,mf]at hM;subst hM;exact .inr (by simp[aC.fp]);have e2:=bZ (dst,true) (by simp [aC.fp]);simp only at e2;rw[hc0 ev' ob' he];exact hcc ob' (e2.trans iq)
 have hcc:∀ob':Nat->Option AO,ob' dst=none->tK P Γ t (ev x) (ev y) o.dst ob'=A:=λob' h=>by
  have:act P Γ o ev ob=A:=hA0;rw[hc0 ev ob (λ_ _=>rfl)]at this;rw[<- this];unfold tK;simp only[hu,hex,hey,Iu,hi,hz,iq,h]
 split at hA;split at hA;split at hA;split at hA;exact fin _ _ rfl hA hcc;subst hA;exact hs.elim;subst hA;exact hs.elim;subst hA;exact hs.elim;split at hA;split at hA;exact fin _ _ rfl hA hcc;subst hA;exact hs.elim;subst hA;exact hs.elim;subst hA;exact hs.elim;subst hA;exact hs.elim
theorem zHj(hA:act P Γ o ev ob=A)(hs:A.safe):bV P Γ o ev ob A:=by
 have tH:=hA;cases aY:o.op with
 | move x=>simp only[act,aY]at hA;subst hA;exact zc8 (.inl aY)
 | assign x=>simp only[act,aY]at hA;subst hA;exact zc8 (.inr aY)
 | pick c x y =>
  simp only[act,aPk,aY]at hA;split at hA;rename_i t hc;subst hA;exact zpm aY hc;subst hA;exact hs.elim
 | alloc e =>
  simp only[act,aAl,aY]at hA;split at hA;rename_i z hz;refine TF (ao:=.box e z) (d:=λt=>.cl (.ptr t 0)) (λL hL=>?_) (λt L hL=>by simp[mr,uz,nP]at hL) (λev' ob' _=>by simp only[act,aAl,aY,hz]) hA hs;simp only[qw]at hL;rw[zc9 hz]at hL;simp at hL;subst hA;exact hs.elim
 | box e x =>
  have hx:x∈o.op.operands.toList:=by simp[aY,Op.operands]
  simp only[act,aBx,aY]at hA;split at hA;rename_i d m hex hm;split at hA;rename_i dm;refine TF (ao:=.box e d.cells) (d:=λt=>.cl (.ptr t 0)) (λL hL=>?_) (λt L hL=>by simp[mr,uz,nP]at hL) (λev' ob' he=>by simp only[act,aBx,aY,he x hx,hex,hm,dm]) hA hs;simp only[qw]at hL;rw[TG]at hL;exact .inl ⟨x,hx,by rw[hex];exact hL⟩;subst hA;exact hs.elim;subst hA;exact hs.elim
 | build t parts =>
  simp only[act,aBd,aY]at hA;split at hA;rename_i z hf hz;split at hA;rename_i l hl;subst hA;exact ziW aY hf hz hl;subst hA;exact hs.elim;subst hA;exact hs.elim
 | buildSlice t m parts=>exact PX aY tH hs
 | load t x=>exact zpn aY tH hs
 | store t x y=>exact ziX aY tH hs
 | nilCheck x=>exact Xy aY tH hs
 | binOp op t x y t'=>exact ziZ aY tH hs
 | unOp op t x=>exact zpp aY tH hs
 | convert t1 t2 x=>exact zaV aY tH hs
 | fieldAddr t x f=>exact TJ aY tH hs
 | indexAddr t x y=>exact TK aY tH hs
 | extract x k=>exact zaW aY tH hs
 | index t x y=>exact zi0 aY tH hs
 | field t x f=>exact zi1 aY tH hs
 | slice t x lo hi mx =>
  cases mx with|none=>exact ok_slice aY tH hs|some m=>simp only[act,aY]at hA;subst hA;exact hs.elim
 | lookup t x y k=>exact zfu aY tH hs
 | mapUpdate t x y z=>exact TI aY tH hs
 | makeMap t x =>
  cases x with|none=>exact zaU aY tH hs|some x=>simp only[act,aY]at hA;subst hA;exact hs.elim
 | makeSlice t x y=>exact TM aY tH hs
 | makeFunc fn first caps =>
  cases fn with|func f=>exact Xz aY tH hs|_=>simp only[act,aY]at hA;subst hA;exact hs.elim
 | call c =>
  obtain⟨callee,args,ts⟩:=c;cases callee with
  | value f=>exact zpq aY tH hs
  | invoke x m=>simp only[act,aY]at hA;subst hA;exact hs.elim
  | builtin b =>
   cases b with|len=>exact zyV aY tH hs|max=>exact zvQ (.inl rfl) aY tH hs|min=>exact zvQ (.inr rfl) aY tH hs|append=>exact zfv aY tH hs|_=>simp only[act,aY]at hA;subst hA;exact hs.elim
 | _=>simp only[act,aY]at hA;subst hA;exact hs.elim
end
end Go.Pm
namespace Go.Pm
variable [aH]
structure CB (σ τ : St) : Prop where
  env:∀t,lk σ.env t=lk τ.env t
  ax:∀L,lk σ.ax L=lk τ.ax L
  log:∀x,x∈σ.log↔x∈τ.log
theorem CB.refl(σ:St):CB σ σ:=⟨λ_=>rfl,λ_=>rfl,λ_=>Wp⟩
theorem CB.symm{σ τ:St}(h:CB σ τ):CB τ σ:=⟨λt=>(h.env t).symm,λt=>(h.ax t).symm,λx=>(h.log x).symm⟩
theorem GV{e e':List (Nat×DV)}{x:Operand}(h:∀t∈zas x,lk e t=lk e' t):fU e x=fU e' x:=by
 cases x with|tmp t=>simp only[fU];rw[h t (by simp[zas])]|_=>rfl
theorem GX(x:Cl):gu [] x=x:=by cases x<;>rfl
theorem Nj(x:D1):fV [] x=x:=by
 cases x with|c x=>simp[fV,GX]|agg cs=>simp only[fV];rw[show gu []=id from funext GX,qjC]
theorem zfx(x:DV):gU [] x=x:=by
 cases x with|one x=>simp[gU,Nj]|tup cs=>simp only[gU];rw[show fV []=id from funext Nj,qjC]
theorem zfy(x:AO):fE [] x=x:=by
 cases x with|box ty cs=>simp only[fE];rw[show gu []=id from funext GX,qjC]|_=>rfl
theorem Nk{l:List Nat}{x:Cl}(h:∀L∈nP x,L∉l):gu l x=x:=by
 cases x with
 | vec L =>
  have h1:l.contains L=false:=by simpa using h L (by simp[nP])
  simp only[gu,h1]
 | vptr L s i k =>
  have h1:l.contains L=false:=by simpa using h L (by simp[nP])
  simp only[gu,h1]
 | mo L =>
  have h1:l.contains L=false:=by simpa using h L (by simp[nP])
  simp only[gu,h1]
 | _=>rfl
theorem Ai{α:Type}{f:α→α}:∀{l:List α},(∀x∈l,f x=x)→l.map f=l|[],_=>rfl|x::l,h=>by rw[lM,h x kH,Ai λy hy=>h y (jM _ hy)]
theorem Rf{l:List Nat}{x:D1}(h:∀L∈uz x,L∉l):fV l x=x:=by
 cases x with|c x=>simp only[fV];rw[Nk h]|agg cs=>simp only[fV];rw[Ai λx hx=>Nk λL hL=>h L (mg.2 ⟨x,hx,hL⟩)]
theorem Nl{l:List Nat}{x:DV}(h:∀L∈mr x,L∉l):gU l x=x:=by
 cases x with|one x=>simp only[gU];rw[Rf h]|tup cs=>simp only[gU];rw[Ai λx hx=>Rf λL hL=>h L (mg.2 ⟨x,hx,hL⟩)]
theorem Np{l:List Nat}{x:AO}(h:∀L∈qw x,L∉l):fE l x=x:=by
 cases x with|box ty cs=>simp only[fE];rw[Ai λx hx=>Nk λL hL=>h L (mg.2 ⟨x,hx,hL⟩)]|_=>rfl
theorem TN{l:List Nat}{x:Cl}:nP (gu l x)=nP x:=by
 cases x with|vec L=>simp only[gu];split<;>rfl|vptr L s i k=>simp only[gu];split<;>rfl|mo L=>simp only[gu];split<;>rfl|_=>rfl
theorem XB{l:List Nat}{x:D1}:uz (fV l x)=uz x:=by
 cases x with|c x=>exact TN|agg cs=>simp only[fV,uz,qjf];exact fmc λx _=>TN
theorem zpr{l:List Nat}{x:DV}:mr (gU l x)=mr x:=by
 cases x with|one x=>exact XB|tup cs=>simp only[gU,mr,qjf];exact fmc λx _=>XB
theorem TP{l:List Nat}{x:AO}:qw (fE l x)=qw x:=by
 cases x with|box ty cs=>simp only[fE,qw,qjf];exact fmc λx _=>TN|_=>rfl
theorem CE{l m:List Nat}(x:Cl):gu l (gu m x)=gu m (gu l x):=by
 cases x with|vec L=>simp only[gu];cases hl:l.contains L<;>cases hm:m.contains L<;>simp only[hl,hm]|vptr L s i k=>simp only[gu];cases hl:l.contains L<;>cases hm:m.contains L<;>simp only[hl,hm]|mo L=>simp only[gu];cases hl:l.contains L<;>cases hm:m.contains L<;>simp only[hl,hm]|_=>rfl
theorem I4{l m:List Nat}(x:D1):fV l (fV m x)=fV m (fV l x):=by
 cases x with|c x=>simp only[fV];rw[CE]|agg cs=>simp only[fV,qdF];rw[show gu l∘gu m=gu m∘gu l from funext CE]
theorem zaY{l m:List Nat}(x:DV):gU l (gU m x)=gU m (gU l x):=by
 cases x with|one x=>simp only[gU];rw[I4]|tup cs=>simp only[gU,qdF];rw[show fV l∘fV m=fV m∘fV l from funext I4]
theorem zaZ{l m:List Nat}(x:AO):fE l (fE m x)=fE m (fE l x):=by
 cases x with|box ty cs=>simp only[fE,qdF];rw[show gu l∘gu m=gu m∘gu l from funext CE]|_=>rfl
theorem zdc{α:Type}{f:α→α}:∀{l:List (Nat×α)}{t:Nat},lk (kills f l) t=(lk l t).map f
  | [],_=>rfl
  | (k,a)::r,t=>by
    simp only[kills];rw[aV,aV];split;rfl;exact zdc
theorem zps{σ:St}{i:Nat}{dst:Option Nat}{fp:List (Nat×Bool)}{d:DV}{u:List (Nat×AO)}{kl:List Nat}(t:Nat) :
  lk (σ.upd i dst fp d u kl).env t=if dst=some t then some d else(lk σ.env t).map (gU kl):=by
 cases kl with
 | nil =>
  have e:(lk σ.env t).map (gU [])=lk σ.env t:=by cases lk σ.env t<;>simp[zfx]
  rw[e];cases dst with|none=>rfl|some s=>simp only[St.upd,aV,bM]
 | cons K r =>
  cases dst with|none=>simp only[St.upd,zdc];rw[eY (by simp)]|some s=>simp only[St.upd,aV,zdc,bM]
theorem zi3{σ:St}{i:Nat}{dst:Option Nat}{fp:List (Nat×Bool)}{d:DV}{u:List (Nat×AO)}{kl:List Nat}(L:Nat) :
  lk (σ.upd i dst fp d u kl).ax L=match lk u L with|some o=>some o|none=>(lk σ.ax L).map (fE kl):=by
 cases kl with
 | nil =>
  have e:(lk σ.ax L).map (fE [])=lk σ.ax L:=by cases lk σ.ax L<;>simp[zfy]
  rw[e];change lk (u++σ.ax) L=_;rw[gZ];cases lk u L<;>rfl
 | cons K r =>
  simp only[St.upd,gZ,zdc];cases lk u L<;>rfl
theorem zpt{σ:St}{i:Nat}{dst:Option Nat}{fp:List (Nat×Bool)}{d:DV}{u:List (Nat×AO)}{kl:List Nat}:(σ.upd i dst fp d u kl).log=σ.log:=by
 cases kl<;>rfl
abbrev aC.may:aC->DV->Prop:=aC.gives
theorem aC.may_gives{A:aC}{d:DV}(h:A.may d):A.gives d:=h
theorem aC.may_of_safe{A:aC}(h:A.safe):∃d,A.may d:=by
 cases A with|no=>exact h.elim|val fp d u kl=>exact⟨d,rfl⟩|chk fp s d u kl=>exact⟨d,rfl⟩
def nx(A:aC)(lg:List (Nat×Bool)->List Nat->List (Nat×Nat×Nat))(i:Nat)(dst:Option Nat)(σ:St)(d:DV):St :=
 (σ.upd i dst A.fp d A.u A.kl).relog (lg A.fp A.kl)
theorem mG{A:aC}{lg:List (Nat×Bool)→List Nat→List (Nat×Nat×Nat)}{i:Nat}{dst:Option Nat}{K:St→Prop}{σ:St} :
  nY A lg i dst K σ↔A.safe/\∀d,A.may d->K (nx A lg i dst σ d):=by
 cases A with|no=>simp[nY,aC.safe]|val fp d u kl=>simp[nY,aC.safe,aC.may,aC.gives,nx,aC.fp,aC.u,aC.kl]|chk fp s d u kl=>simp[nY,aC.safe,aC.may,aC.gives,nx,aC.fp,aC.u,aC.kl]
section
variable(P:Program)(Γ:bI)(nt:Nat)(ops:Array Oper)
def og(env:List (Nat×DV))(o:Oper):Option Bool :=
 match o.guard with
 | none=>some true
 | some (j,want) =>
  match(ops[j]?).bind (·.dst)with
  | none=>none
  | some g =>
   match lk env g with|some (.one (.c (.p (.bool b))))=>some (b==want)|some (.one (.c .undef))=>some false|_=>none
def vV(σ:St)(o:Oper):aC :=
 match dH nt o.dst,og ops σ.env o with|true,some true=>act P Γ o (fU σ.env) (lk σ.ax)|true,some false=>.val [] (.cl .undef) [] []|_,_=>.no
def rH(σ:St)(i:Nat)(o:Oper)(fp:List (Nat×Bool))(kl:List Nat):List (Nat×Nat×Nat) :=
 match og ops σ.env o with|some true=>pR σ i o fp kl|_=>[]
def yE:List Nat→(St→Prop)→St→Prop
  | [],K,σ=>K σ
  | i::r,K,σ=>match ops[i]? with|none=>yE r K σ|some o=>nY (vV P Γ nt ops σ o) (rH ops σ i o) i o.dst (yE r K) σ
def looks(σ:St)(o:Oper):List Nat :=
 match og ops σ.env o with|some true=>uF ops o|_=>gdT ops o
end
section
variable{P:Program}{Γ:bI}{nt:Nat}{ops:Array Oper}{σ τ:St}{o:Oper}{i:Nat}{A:aC}
theorem zu{L k:Nat}{r:List Nat}:k∈PP σ (L::r)↔∃o,lk σ.ax k=some o/\L∈qw o:=by
 simp only[PP,Qp,uu];constructor;rintro⟨_,h⟩;split at h;rename_i o ho;exact⟨o,ho,by simpa using h⟩;cases h;rintro⟨o,ho,hL⟩;refine⟨⟨(k,o),fK ho,rfl⟩,?_⟩;rw[ho];simpa using hL
theorem Rh:∀t∈looks ops σ o,t∈uF ops o:=by
 unfold looks;split;exact λ_ h=>h;exact λt h=>dR.2 (.inr h)
theorem Ri:∀t∈gdT ops o,t∈looks ops σ o:=by
 unfold looks;split;exact λt h=>dR.2 (.inr h);exact λt h=>h
theorem tY{env env':List (Nat×DV)}(h:∀t∈gdT ops o,lk env' t=lk env t):og ops env' o=og ops env o:=by
 unfold og;split;rfl;rename_i j want hg;split;rfl;rename_i g ZX;rw[h g (by simp[gdT,hg,ZX])]
theorem zdd{b:Bool}(h:og ops σ.env o=some b):∀t∈gdT ops o,∀v,lk σ.env t=some v->mr v=[]:=by
 intro t ht v hv;unfold gdT at ht;split at ht;rename_i j want hg;split at ht;rename_i g ZX;simp only[mf]at ht;subst ht;unfold og at h;rw[hg]at h;simp only[ZX]at h;rw[hv]at h;split at h;rename_i e;simp only[bM]at e;subst e;rfl;rename_i e;simp only[bM]at e;subst e;rfl;cases h;simp at ht;simp at ht
structure Loc (P : Program) (Γ : bI) (nt : Nat) (ops : Array Oper) (σ : St) (i : Nat) (o : Oper) (A : aC) (lg : List (Nat × Nat × Nat)) : Prop where
  fst:∀x∈lg,x.1=i
  wr:∀x∈A.u,(i,x.1,1)∈lg
  kl:A.kl=[]\/∃L,A.kl=[L]
  kl3:∀L∈A.kl,(i,L,3)∈lg
  kl1:∀L∈A.kl,(i,L,1)∈lg
  kb:∀L∈A.kl,∀k o',lk σ.ax k=some o'->L∈qw o'->(i,k,1)∈lg
  labu:∀x∈A.u,∀L∈qw x.2,(i,L,2)∈lg
  labd:∀d,A.may d->∀L∈mr d,(i,L,2)∈lg\/(i,L,1)∈lg
  see:∀t∈looks ops σ o,∀v,lk σ.env t=some v->∀L∈mr v,(i,L,2)∈lg
  fpm:∀y∈A.fp,∀o',lk σ.ax y.1=some o'->∀L∈qw o',(i,L,2)∈lg
  fpt:∀y∈A.fp,(i,y.1,0)∈lg\/(i,y.1,1)∈lg
  wfp:∀x∈A.u,(x.1,true)∈A.fp
  congr:∀τ,(∀t∈looks ops σ o,lk τ.env t=lk σ.env t)->(∀y∈A.fp,lk τ.ax y.1=lk σ.ax y.1)->vV P Γ nt ops τ o=A
  logc:∀τ,(∀t∈looks ops σ o,lk τ.env t=lk σ.env t)->(∀y∈A.fp,lk τ.ax y.1=lk σ.ax y.1) ->
    (∀L∈A.kl,∀k,(∃o',lk τ.ax k=some o'/\L∈qw o')↔∃o',lk σ.ax k=some o'/\L∈qw o')->∀x,x∈rH ops τ i o A.fp A.kl↔x∈lg
theorem jJ{fp:List (Nat×Bool)}{kl:List Nat}{x:Nat×Nat×Nat}:x∈pR σ i o fp kl ↔
    (∃y∈fp,x=(i,y.1,match y.2 with|true=>1|false=>0))\/(∃L∈Lp σ o fp,x=(i,L,2))\/(∃L∈kl,x=(i,L,3))\/∃k∈PP σ kl,x=(i,k,1):=by
  simp only[pR,dR,uu,or_assoc];constructor;rintro(⟨y,h1,h2⟩|⟨y,h1,h2⟩|⟨y,h1,h2⟩|⟨y,h1,h2⟩);exact .inl ⟨y,h1,h2.symm⟩;exact .inr (.inl ⟨y,h1,h2.symm⟩);exact .inr (.inr (.inl ⟨y,h1,h2.symm⟩));exact .inr (.inr (.inr ⟨y,h1,h2.symm⟩));rintro(⟨y,h1,h2⟩|⟨y,h1,h2⟩|⟨y,h1,h2⟩|⟨y,h1,h2⟩);exact .inl ⟨y,h1,h2.symm⟩;exact .inr (.inl ⟨y,h1,h2.symm⟩);exact .inr (.inr (.inl ⟨y,h1,h2.symm⟩));exact .inr (.inr (.inr ⟨y,h1,h2.symm⟩))
theorem zfz{fp:List (Nat×Bool)}{L:Nat}(h:Men o (fU σ.env) (lk σ.ax) fp L):L∈Lp σ o fp:=by
 unfold Lp;rcases h with⟨x,hx,hL⟩|⟨y,hy,o',ho,hL⟩
 exact dR.2 (.inl (mg.2 ⟨x,hx,hL⟩));refine dR.2 (.inr (mg.2 ⟨y,hy,?_⟩));rw[ho];exact hL
theorem I5{fp:List (Nat×Bool)}(he:∀x∈o.op.operands.toList,fU τ.env x=fU σ.env x)(bZ:∀y∈fp,lk τ.ax y.1=lk σ.ax y.1):Lp τ o fp=Lp σ o fp:=by
 unfold Lp;rw[fmc (f:=λx=>mr (fU τ.env x)) (h:=λx=>mr (fU σ.env x)) λx hx=>by rw[he x hx]];congr 1;exact fmc λy hy=>by rw[bZ y hy]
theorem XD(hA:vV P Γ nt ops σ o=A)(hs:A.safe):Loc P Γ nt ops σ i o A (rH ops σ i o A.fp A.kl):=by
 have tH:=hA;unfold vV at hA;split at hA;rename_i hd hw;have K:=zHj hA hs;have hlg:∀fp kl,rH ops σ i o fp kl=pR σ i o fp kl:=λfp kl=>by unfold rH;rw[hw]
 have VK:looks ops σ o=uF ops o:=by unfold looks;rw[hw]
 have zpu:∀L,Men o (fU σ.env) (lk σ.ax) A.fp L->(i,L,2)∈rH ops σ i o A.fp A.kl:=λL h=>by
  rw[hlg];exact jJ.2 (.inr (.inl ⟨L,zfz h,rfl⟩))
 have hfw:∀L,(L,true)∈A.fp->(i,L,1)∈rH ops σ i o A.fp A.kl:=λL h=>by
  rw[hlg];exact jJ.2 (.inl ⟨_,h,rfl⟩)
 have aY:∀τ:St,(∀t∈looks ops σ o,lk τ.env t=lk σ.env t)->∀x∈o.op.operands.toList,fU τ.env x=fU σ.env x:=λτ h x hx =>
  GV λt ht=>h t (by rw[VK];exact dR.2 (.inl (mg.2 ⟨x,hx,ht⟩)))
 have hwt:∀τ:St,(∀t∈looks ops σ o,lk τ.env t=lk σ.env t)->og ops τ.env o=some true:=λτ h=>by
  rw[tY (env:=σ.env) λt ht=>h t (Ri t ht),hw]
 refine⟨λx hx=>?_,λx hx=>hfw _ (K.wr x hx),?_,λL hL=>?_,λL hL=>?_,λL hL k o' hk SE=>?_,λx hx L hL=>zpu L (K.labu x hx L hL),
  λd gG L hL=>(K.labd d (aC.may_gives gG) L hL).imp (zpu L) (hfw L),λt ht v hv L hL=>?_,λy hy o' ho L hL=>zpu L (.inr ⟨y,hy,o',ho,hL⟩),λy hy=>?_,K.wr,λτ he bZ=>?_,λτ he bZ hkb x=>?_⟩
 rw [hlg]at hx;rcases jJ.1 hx with⟨_,_,h⟩|⟨_,_,h⟩|⟨_,_,h⟩|⟨_,_,h⟩<;>rw[h]
 exact K.kl.imp_right λ⟨L,h,_⟩=>⟨L,h⟩;rw[hlg];exact jJ.2 (.inr (.inr (.inl ⟨L,hL,rfl⟩)));rcases K.kl with h|⟨M,h,h2⟩
 rw[h]at hL;simp at hL;rw[h]at hL;simp at hL;subst hL;exact hfw _ h2;rw [hlg];refine jJ.2 (.inr (.inr (.inr ⟨k,?_,rfl⟩)));rcases K.kl with h|⟨M,h,h2⟩
 rw[h]at hL;simp at hL;rw[h]at hL ⊢;simp at hL;subst hL;exact zu.2 ⟨o',hk,SE⟩;rw [VK]at ht;rcases dR.1 ht with ht|ht
 ·obtain⟨x,hx,ht⟩:=mg.1 ht;refine zpu L (.inl ⟨x,hx,?_⟩);cases x with|tmp s=>simp only[zas,mf]at ht;subst ht;simp only[fU,hv];exact hL|_=>simp[zas]at ht
 rw[zdd hw t ht v hv]at hL;simp at hL
 ·rw [hlg];obtain⟨L,b⟩:=y;cases b with|true=>exact .inr (jJ.2 (.inl ⟨_,hy,rfl⟩))|false=>exact .inl (jJ.2 (.inl ⟨_,hy,rfl⟩))
 unfold vV;rw[hd,hwt τ he];exact K.congr _ _ (aY τ he) bZ;have e1:rH ops τ i o A.fp A.kl=pR τ i o A.fp A.kl:=by unfold rH;rw [hwt τ he]
 rw[e1,hlg,jJ,jJ,I5 (aY τ he) bZ];refine qj4 Wp (qj4 Wp (qj4 Wp ?_));rcases K.kl with h|⟨M,h,h2⟩
 rw[h];simp[PP];rw [h];have:∀k,k∈PP τ [M]↔k∈PP σ [M]:=λk=>by rw[zu,zu];exact hkb M (by rw[h];simp) k
 constructor;rintro⟨k,h1,h2⟩;exact⟨k,(this k).1 h1,h2⟩;rintro⟨k,h1,h2⟩;exact⟨k,(this k).2 h1,h2⟩;rename_i hd hw;subst hA;have hlg:∀fp kl,rH ops σ i o fp kl=[]:=λfp kl=>by unfold rH;rw[hw]
 have VK:looks ops σ o=gdT ops o:=by unfold looks;rw[hw]
 have hwt:∀τ:St,(∀t∈looks ops σ o,lk τ.env t=lk σ.env t)->og ops τ.env o=some false:=λτ h=>by
  rw[tY (env:=σ.env) λt ht=>h t (Ri t ht),hw]
 refine⟨λx hx=>?_,λx hx=>?_,.inl rfl,λL hL=>?_,λL hL=>?_,λL hL=>?_,λx hx=>?_,λd gG L hL=>?_,λt ht v hv L hL=>?_,λy hy=>?_,λy hy=>?_,λx hx=>?_,λτ he bZ=>?_,λτ he bZ hkb x=>?_⟩;rw[hlg]at hx;simp at hx;simp[aC.u]at hx;simp[aC.kl]at hL;simp[aC.kl]at hL;simp[aC.kl]at hL;simp[aC.u]at hx;simp only[aC.gives]at gG;subst gG;simp[mr,uz,nP]at hL;rw[VK]at ht;rw[zdd hw t ht v hv]at hL;simp at hL;simp[aC.fp]at hy;simp[aC.fp]at hy;simp[aC.u]at hx;unfold vV;rw[hd,hwt τ he];rw [hlg];have:rH ops τ i o (aC.val [] (.cl .undef) [] []).fp (aC.val [] (.cl .undef) [] []).kl=[]:=by unfold rH;rw[hwt τ he]
 rw[this];subst hA;exact hs.elim
theorem GY{lg:List (Nat×Bool)->List Nat->List (Nat×Nat×Nat)}{dst:Option Nat}{d:DV}(t:Nat):lk (nx A lg i dst σ d).env t=if dst=some t then some d else(lk σ.env t).map (gU A.kl):=zps t
theorem Aj{lg:List (Nat×Bool)->List Nat->List (Nat×Nat×Nat)}{dst:Option Nat}{d:DV}(L:Nat):lk (nx A lg i dst σ d).ax L=match lk A.u L with|some o=>some o|none=>(lk σ.ax L).map (fE A.kl):=zi3 L
theorem xm{lg:List (Nat×Bool)->List Nat->List (Nat×Nat×Nat)}{dst:Option Nat}{d:DV}:(nx A lg i dst σ d).log=lg A.fp A.kl++σ.log:=by simp only[nx,St.relog,zpt]
theorem zi4(h:CB σ τ)(o:Oper):vV P Γ nt ops τ o=vV P Γ nt ops σ o:=by
 unfold vV;rw[tY (env:=σ.env) λt _=>(h.env t).symm,show fU τ.env=fU σ.env from funext λx=>GV λt _=>(h.env t).symm,show lk τ.ax=lk σ.ax from funext λt=>(h.ax t).symm]
theorem zpv(h:CB σ τ){fp:List (Nat×Bool)}{kl:List Nat}(x:Nat×Nat×Nat):x∈rH ops σ i o fp kl↔x∈rH ops τ i o fp kl:=by
 unfold rH;rw[tY (env:=σ.env) (env':=τ.env) λt _=>(h.env t).symm];split
 ·rw [jJ,jJ,I5 (σ:=σ) (τ:=τ) (fun x _=>GV fun t _=>(h.env t).symm) (fun y _=>(h.ax y.1).symm)];refine qj4 Wp (qj4 Wp (qj4 Wp ?_));cases kl with
  | nil=>simp[PP]
  | cons L r =>
   have:∀k,k∈PP σ (L::r)↔k∈PP τ (L::r):=λk=>by rw[zu,zu,h.ax k]
   constructor;rintro⟨k,h1,h2⟩;exact⟨k,(this k).1 h1,h2⟩;rintro⟨k,h1,h2⟩;exact⟨k,(this k).2 h1,h2⟩
 exact Wp
theorem Kq{K:St→Prop}(hK:∀σ τ,CB σ τ→K σ→K τ):∀(l:List Nat)(σ τ:St),CB σ τ→yE P Γ nt ops l K σ→yE P Γ nt ops l K τ
  | [],σ,τ,h,hv=>hK σ τ h hv
  | i::r,σ,τ,h,hv=>by
    simp only[yE]at hv ⊢;split at hv;exact Kq hK r σ τ h hv;rename_i o ho;rw[mG]at hv ⊢;rw[zi4 h];refine⟨hv.1,λd hd=>Kq hK r _ _ ⟨λt=>?_,λL=>?_,λx=>?_⟩ (hv.2 d hd)⟩;rw[GY,GY,h.env];rw[Aj,Aj,h.ax];rw [xm,xm,dR,dR,h.log x];exact qj4 (zpv h x) Wp
theorem BG{K K':St->Prop}{l l':List Nat}{i:Nat}(hK:∀σ,yE P Γ nt ops l K σ->yE P Γ nt ops l' K' σ)(hv:yE P Γ nt ops (i::l) K σ):yE P Γ nt ops (i::l') K' σ:=by
 simp only[yE]at hv ⊢;split at hv;exact hK _ hv;rw [mG]at hv ⊢;exact⟨hv.1,λd hd=>hK _ (hv.2 d hd)⟩
theorem TQ{K:St→Prop}{R:List (Nat×Nat×Nat)→Prop}(hR:∀l m,(∀x∈l,x∈m)→R m→R l)(hK:∀σ,K σ→R σ.log):∀(l:List Nat)(σ:St),yE P Γ nt ops l K σ→R σ.log
  | [],σ,hv=>hK σ hv
  | i::r,σ,hv=>by
    simp only[yE]at hv;split at hv;exact TQ hR hK r σ hv;rw [mG]at hv;obtain⟨d,hd⟩:=aC.may_of_safe hv.1;refine hR _ _ (λx hx=>?_) (TQ hR hK r _ (hv.2 d hd));rw[xm];exact dR.2 (.inr hx)
def Ee(log:List (Nat×Nat×Nat))(i j:Nat):Prop:=∀L k m,(i,L,k)∈log->(j,L,m)∈log->zat k m=false
theorem Nq{l:List Nat}{x:Option DV}(h:∀v,x=some v->∀L∈mr v,L∉l):x.map (gU l)=x:=by
 cases x with|none=>rfl|some v=>simp only[Qq];rw[Nl (h v rfl)]
theorem Nr{l:List Nat}{x:Option AO}(h:∀v,x=some v->∀L∈qw v,L∉l):x.map (fE l)=x:=by
 cases x with|none=>rfl|some v=>simp only[Qq];rw[Np (h v rfl)]
theorem zi5{a b:Oper}(h:Lr ops a b=false):(∀t∈uF ops b,a.dst≠some t)/\(∀t∈uF ops a,b.dst≠some t)/\∀t,a.dst=some t->b.dst≠some t:=by
 simp only[Lr,qdI]at h;obtain⟨⟨h1,h2⟩,h3⟩:=h;refine⟨λt ht e=>?_,λt ht e=>?_,λt e e'=>?_⟩;rw [e]at h1;simp only [meets]at h1;have:(uF ops b).contains t=true:=by simpa using ht
 rw[this]at h1;cases h1;rw [e]at h2;simp only [meets]at h2;have:(uF ops a).contains t=true:=by simpa using ht
 rw[this]at h2;cases h2;rw [e,e']at h3;simp only [zcD]at h3;rw[show Nat.beq t t=true from by simp]at h3;cases h3
theorem zi6{K:St→Prop}{i j:Nat}{oi oj:Oper}{r:List Nat}(hi:ops[i]? = some oi)(hj:ops[j]? = some oj)(hT:Lr ops oi oj=false)
    (hE:∀τ τ',CB τ τ'->yE P Γ nt ops r K τ->yE P Γ nt ops r K τ') (hN:∀τ,yE P Γ nt ops r K τ->Ee τ.log i j)
    (h:yE P Γ nt ops (i::j::r) K σ):yE P Γ nt ops (j::i::r) K σ:=by
  obtain⟨cT1,cT2,cT3⟩:=zi5 hT;simp only[yE,hi,hj]at h ⊢;rw[mG]at h;obtain⟨hsA,hA⟩:=h;generalize hAe:vV P Γ nt ops σ oi=A at hsA hA;have LA:=XD (i:=i) hAe hsA
  -- the second operation behind the first: az before it
  have key:∀d,A.may d->∃B,vV P Γ nt ops (nx A (rH ops σ i oi) i oi.dst σ d) oj=B/\B.safe /\
      (∀e,B.may e->yE P Γ nt ops r K (nx B (rH ops (nx A (rH ops σ i oi) i oi.dst σ d) j oj) j oj.dst (nx A (rH ops σ i oi) i oi.dst σ d) e)) /\
      Ee (rH ops (nx A (rH ops σ i oi) i oi.dst σ d) j oj B.fp B.kl++(rH ops σ i oi A.fp A.kl)) i j:=by
    intro d hd;have h2:=hA d hd;rw[mG]at h2;obtain⟨hsB,hB⟩:=h2;refine⟨_,rfl,hsB,hB,?_⟩;obtain⟨e,he⟩:=aC.may_of_safe hsB;have:=hN _ (hB e he);rw[xm,xm]at this;intro L k m hk hm;refine this L k m ?_ ?_;rcases dR.1 hk with h|h
    exact dR.2 (.inl h);exact dR.2 (.inr (dR.2 (.inl h)));rcases dR.1 hm with h|h
    exact dR.2 (.inl h);exact dR.2 (.inr (dR.2 (.inl h)))
  have main:∀d,A.may d->∀B,vV P Γ nt ops (nx A (rH ops σ i oi) i oi.dst σ d) oj=B->B.safe ->
      (∀e,B.may e->yE P Γ nt ops r K (nx B (rH ops (nx A (rH ops σ i oi) i oi.dst σ d) j oj) j oj.dst (nx A (rH ops σ i oi) i oi.dst σ d) e)) ->
      Ee (rH ops (nx A (rH ops σ i oi) i oi.dst σ d) j oj B.fp B.kl++(rH ops σ i oi A.fp A.kl)) i j ->
      vV P Γ nt ops σ oj=B/\∀e,B.may e->vV P Γ nt ops (nx B (rH ops σ j oj) j oj.dst σ e) oi=A /\
        yE P Γ nt ops r K (nx A (rH ops (nx B (rH ops σ j oj) j oj.dst σ e) i oi) i oi.dst (nx B (rH ops σ j oj) j oj.dst σ e) d):=by
    intro d hd B hBe hsB hB wR;generalize hσ1:nx A (rH ops σ i oi) i oi.dst σ d=σ1 at hBe hB wR;have LB:=XD (i:=j) hBe hsB;have no:∀L k m,(i,L,k)∈rH ops σ i oi A.fp A.kl->(j,L,m)∈rH ops σ1 j oj B.fp B.kl->zat k m=true->False:=λL k m h1 h2 hc=>by
      have:=wR L k m (dR.2 (.inr h1)) (dR.2 (.inl h2));rw[this]at hc;cases hc
    have zHk:∀t,lk σ1.env t=if oi.dst=some t then some d else(lk σ.env t).map (gU A.kl):=λt=>by rw[<- hσ1,GY]
    have zi7:∀L,lk σ1.ax L=match lk A.u L with|some o=>some o|none=>(lk σ.ax L).map (fE A.kl):=λL=>by rw[<- hσ1,Aj]
    -- zEI the second looks at, the first has not changed
    have zHl:∀t∈looks ops σ1 oj,lk σ.env t=lk σ1.env t:=by
      intro t ht;have e:=zHk t;rw[eY (cT1 t (Rh t ht))]at e;rw[e];refine(Nq λv hv L hL hk=>?_).symm;rw[hv,Qq]at e;exact no L 3 2 (LA.kl3 L hk) (LB.see t ht _ e L (by rw[zpr];exact hL)) rfl
    have fpB:∀y∈B.fp,lk σ.ax y.1=lk σ1.ax y.1:=by
      intro y hy;have e:=zi7 y.1;have hn:lk A.u y.1=none:=by
        cases hu:lk A.u y.1 with
        | none=>rfl
        | some o' =>
          have h1:=LA.wr _ (fK hu);rcases LB.fpt y hy with h2|h2
          exact(no _ _ _ h1 h2 rfl).elim;exact(no _ _ _ h1 h2 rfl).elim
      rw[hn]at e;simp only at e;rw[e];refine(Nr λv hv L hL hk=>?_).symm;rw[hv,Qq]at e;exact no L 3 2 (LA.kl3 L hk) (LB.fpm y hy _ e L (by rw[TP];exact hL)) rfl
    have hBσ:=LB.congr σ zHl fpB;refine⟨hBσ,λe he=>?_⟩;generalize hσ1':nx B (rH ops σ j oj) j oj.dst σ e=σ1';have zvS:∀t,lk σ1'.env t=if oj.dst=some t then some e else(lk σ.env t).map (gU B.kl):=λt=>by rw[<- hσ1',GY]
    have za0:∀L,lk σ1'.ax L=match lk B.u L with|some o=>some o|none=>(lk σ.ax L).map (fE B.kl):=λL=>by rw[<- hσ1',Aj]
    have zHm:∀t∈looks ops σ oi,lk σ1'.env t=lk σ.env t:=by
      intro t ht;rw[zvS,eY (cT2 t (Rh t ht))];exact Nq λv hv L hL hk=>no L 2 3 (LA.see t ht v hv L hL) (LB.kl3 L hk) rfl
    have uB:∀y∈A.fp,lk B.u y.1=none:=by
      intro y hy;cases hu:lk B.u y.1 with
      | none=>rfl
      | some o' =>
        have h1:=LB.wr _ (fK hu);rcases LA.fpt y hy with h2|h2
        exact(no _ _ _ h2 h1 rfl).elim;exact(no _ _ _ h2 h1 rfl).elim
    have fpA:∀y∈A.fp,lk σ1'.ax y.1=lk σ.ax y.1:=by
      intro y hy;rw[za0,uB y hy];exact Nr λv hv L hL hk=>no L 2 3 (LA.fpm y hy v hv L hL) (LB.kl3 L hk) rfl
    have hAσ:=LA.congr σ1' zHm fpA;refine⟨hAσ,hE _ _ ⟨λt=>?_,λL=>?_,λx=>?_⟩ (hB e he)⟩
    · -- the temporaries
      rw[GY,GY,zHk,zvS];by_cases h1:oj.dst=some t;rw [eU h1,eU h1,eY fun h2=>cT3 t h2 h1,Qq,Nl fun L hL hk => ?_];rcases LB.labd e he L hL with h3|h3
      exact no L 3 2 (LA.kl3 L hk) h3 rfl;exact no L 1 1 (LA.kl1 L hk) h3 rfl;rw [eY h1,eY h1];by_cases h2:oi.dst=some t;rw [eU h2,eU h2,Qq,Nl fun L hL hk => ?_];rcases LA.labd d hd L hL with h3|h3
      exact no L 2 3 h3 (LB.kl3 L hk) rfl;exact no L 1 1 h3 (LB.kl1 L hk) rfl
      · rw [eY h2,eY h2];cases lk σ.env t with|none=>rfl|some v=>simp only[Qq];rw[zaY]
    · -- the objects
      rw[Aj,Aj,zi7,za0];cases hb:lk B.u L with
      | some ob =>
        cases ha:lk A.u L with
        | some oa=>exact(no L 1 1 (LA.wr _ (fK ha)) (LB.wr _ (fK hb)) rfl).elim
        | none =>
          simp only[Qq];rw[Np λM hM hk=>no M 3 2 (LA.kl3 M hk) (LB.labu _ (fK hb) M hM) rfl]
      | none =>
        cases ha:lk A.u L with
        | some oa =>
          simp only[Qq];rw[Np λM hM hk=>no M 2 3 (LA.labu _ (fK ha) M hM) (LB.kl3 M hk) rfl]
        | none =>
          simp only;cases lk σ.ax L with|none=>rfl|some v=>simp only[Qq];rw[zaZ]
    · -- the log
      rw[xm,xm];have l1:σ1.log=rH ops σ i oi A.fp A.kl++σ.log:=by rw[<- hσ1,xm]
      have l2:σ1'.log=rH ops σ j oj B.fp B.kl++σ.log:=by rw[<- hσ1',xm]
      rw[l1,l2];have e1:x∈rH ops σ j oj B.fp B.kl↔x∈rH ops σ1 j oj B.fp B.kl:=by
        refine LB.logc σ zHl fpB (λL hL k=>?_) x;rw[zi7];cases ha:lk A.u k with
        | some oa =>
          simp only[bM];constructor;rintro⟨o',ho,SE⟩;exact(no L 2 3 (LA.fpm _ (LA.wfp _ (fK ha)) o' ho L SE) (LB.kl3 L hL) rfl).elim;rintro⟨o',rfl,SE⟩;exact(no L 2 3 (LA.labu _ (fK ha) L SE) (LB.kl3 L hL) rfl).elim
        | none =>
          simp only;cases lk σ.ax k with|none=>simp|some v=>simp[TP]
      have e2:x∈rH ops σ1' i oi A.fp A.kl↔x∈rH ops σ i oi A.fp A.kl:=by
        refine LA.logc σ1' zHm fpA (λL hL k=>?_) x;rw[za0];cases hb:lk B.u k with
        | some ob =>
          simp only[bM];constructor;rintro⟨o',rfl,SE⟩;exact(no L 3 2 (LA.kl3 L hL) (LB.labu _ (fK hb) L SE) rfl).elim;rintro⟨o',ho,SE⟩;exact(no k 1 1 (LA.kb L hL k o' ho SE) (LB.wr _ (fK hb)) rfl).elim
        | none =>
          simp only;cases lk σ.ax k with|none=>simp|some v=>simp[TP]
      simp only[dR];rw[e1,e2,<- or_assoc,<- or_assoc];exact qj4 (or_comm) Wp
  rw[mG];obtain⟨d0,hd0⟩:=aC.may_of_safe hsA;obtain⟨B,hBe,hsB,hB,wR⟩:=key d0 hd0;obtain⟨hBσ,zOs⟩:=main d0 hd0 B hBe hsB hB wR;rw[hBσ];refine⟨hsB,λe he=>?_⟩;rw[mG];rw[(zOs e he).1];refine⟨hsA,λd hd=>?_⟩;obtain⟨B',zSi,z0V,hB',z0U⟩:=key d hd;obtain⟨zSj,zEA⟩:=main d hd B' zSi z0V hB' z0U;have hBB:B'=B:=zSj.symm.trans hBσ;subst hBB;exact(zEA e he).2
end
end Go.Pm
namespace Go.Pm
variable [aH]
open Go.RowKit (Below)
section
variable{P:Program}{Γ:bI}{nt B:Nat}{w0:World}{h0:Fz}{g:Gh}{σ:St}{a:Act}{w:World}{r:Option Nat}{n i:Nat}{Q:Exit->Act->World->Prop}{ops:Array Oper}
theorem za1{K:St->Prop}(hK:∀σ τ,CB σ τ->K σ->K τ):∀(l:List Oper)(i:Nat)(σ:St),(∀j,l[j]? = ops[i+j]?)->kE P Γ nt ops i l K σ->yE P Γ nt ops (List.range' i l.length) K σ:=by
 intro l
 induction l with
 | nil=>intro i σ _ h;exact h
 | cons o l ih =>
  intro i σ hl h;have ho:ops[i]? = some o:=by have:=hl 0;simpa using this.symm
  have yK:∀j,l[j]? = ops[i+1+j]?:=λj=>by have:=hl (j+1);rw[dqN]at this;rw[this];congr 1;omega
  rw[qp,SG];simp only[kE]at h;split at h;exact h.elim;rename_i hd;have one:∀τ:St,og ops τ.env o=some true->nY (act P Γ o (fU τ.env) (lk τ.ax)) (pR τ i o) i o.dst (kE P Γ nt ops (i+1) l K) τ->yE P Γ nt ops (i::List.range' (i+1) l.length) K τ:=by
   intro τ hw hv;simp only[yE,ho];have e1:vV P Γ nt ops τ o=act P Γ o (fU τ.env) (lk τ.ax):=by unfold vV;rw[hd,hw]
   have e2:rH ops τ i o=pR τ i o:=by funext fp kl;unfold rH;rw[hw]
   rw[e1,e2];rw[mG]at hv ⊢;exact⟨hv.1,λd hd=>ih (i+1) _ yK (hv.2 d hd)⟩
  have two:∀τ:St,og ops τ.env o=some false->kE P Γ nt ops (i+1) l K (τ.skip o.dst)->yE P Γ nt ops (i::List.range' (i+1) l.length) K τ:=by
   intro τ hw hv;simp only[yE,ho];have e1:vV P Γ nt ops τ o=.val [] (.cl .undef) [] []:=by unfold vV;rw[hd,hw]
   have e2:rH ops τ i o=λ_ _=>[]:=by funext fp kl;unfold rH;rw[hw]
   rw[e1,e2];change yE P Γ nt ops (List.range' (i+1) l.length) K ((τ.upd i o.dst [] (.cl .undef) [] []).relog []);have e3:(τ.upd i o.dst [] (.cl .undef) [] []).relog []=τ.skip o.dst:=by cases o.dst<;>rfl
   rw[e3];exact ih (i+1) _ yK hv
  split at h;rename_i hg;exact one σ (by unfold og;rw[hg]) h;rename_i j want hg;split at h;exact h.elim;rename_i gt ZX;have wt:∀b,og ops (σ.setT gt (.bool b)).env o=some (b==want):=λb=>by
   unfold og;rw[hg];simp only[ZX];rw[show lk (σ.setT gt (.bool b)).env gt=some (.bool b)by simp[St.setT,aV]]
  split at h
  ·rename_i b hb;have eq:∀c,b=c->CB (σ.setT gt (.bool c)) σ:=λc hc=>⟨λt=>by
    simp only[St.setT,aV];split;rename_i e;subst e;rw[hb,hc];rfl,λ_=>rfl,λ_=>Wp⟩
   have h2:=rD.1 h;refine Kq hK _ _ _ (eq b rfl) ?_;cases b with
   | true =>
    have h3:=h2.1 rfl;cases want with|true=>exact one _ (wt true) h3|false=>exact two _ (wt true) h3
   | false =>
    have h3:=h2.2 rfl;cases want with|true=>exact two _ (wt false) h3|false=>exact one _ (wt false) h3
  rename_i hb;refine two σ ?_ h;unfold og;rw[hg];simp only[ZX];rw[hb];exact h.elim
theorem zyZ(gp:jw P Γ){K:St→Prop}{l:List Nat}{R:Act→World→Prop}{D:List Nat}{a0:Act}{ad:List Deferred}(hD:∀(j:Nat)(o:Oper),ops[j]? = some o→∀t,o.dst=some t→t∈D)
    (hv:yE P Γ nt ops (i::l) K σ) (S:bU P nt B w0 h0 g σ a w) (kZ:Kp D a0 a) (had:a.defers=ad)
    (hR:∀σ' g' a' w',yE P Γ nt ops l K σ'->bU P nt B w0 h0 g' σ' a' w'->Kp D a0 a'->a'.defers=ad->R a' w'):wpOpIn (FR r) n P ops Q i R a w:=by
  simp only[yE]at hv;unfold wpOpIn;split at hv;rename_i ho;rw[ho];exact hR σ g a w hv S kZ had;rename_i o ho;rw[ho];simp only;obtain⟨hs,hk⟩:=GG.1 hv;have wnt:∀b,og ops σ.env o=some b->Region.wanted o (yielded ops a.tmps)=b:=by
    intro b hw;unfold og at hw;split at hw;rename_i hg;simp only[bM]at hw;subst hw;simp[Region.wanted,hg];rename_i j want hg;split at hw;cases hw;rename_i gt ZX;split at hw;rename_i c hb;simp only[bM]at hw;subst hw;have hvv:a.tmps.getD gt undef=.bool c:=by
      have:=S.env gt _ hb;generalize a.tmps.getD gt undef=v at this;cases this;rfl
    simp[Region.wanted,hg,xh ZX hvv];rename_i hb;simp only[bM]at hw;subst hw;have hvv:a.tmps.getD gt undef=undef:=S.env gt _ hb;simp[Region.wanted,hg,uM ZX hvv];cases hw
  generalize hA:vV P Γ nt ops σ o=A at hs hk;have tH:=hA;unfold vV at hA;split at hA;rename_i hd hw;rw[eU (wnt true hw)];refine J9 (zaS (GR (i:=i) (Q:=Q) (r:=r) (n:=n) gp S hd hA hs)) ?_;rintro a' w' ⟨⟨Gg,g',σ',Gn,S'⟩,v,ds,rfl⟩;exact hR _ g' _ w' (hk σ' Gn) (S'.log _) (kZ.put (hD i o ho) v ds ((put_defers _ _ _).symm.trans Gg)) (Gg.trans had);rename_i hd hw;rw[eY (by rw[wnt false hw];simp)];refine⟨λ_ _=>trivial,?_⟩;subst hA;refine hR _ g _ w (hk _ rfl) ?_ (kZ.put (hD i o ho) undef a.defers rfl) ((put_defers _ _ _).trans had);have:=S.skip hd;have e:(σ.upd i o.dst [] (.cl .undef) [] [])=σ.skip o.dst:=by cases o.dst<;>rfl
  rw[e];exact this.log _;subst hA;exact hs.elim
theorem Rj{K:St→Prop}{i:Nat}{oi:Oper}{l2:List Nat}(hi:ops[i]? = some oi)(hE:∀σ τ,CB σ τ→K σ→K τ){R:List (Nat×Nat×Nat)→Prop}(hR:∀l m,(∀x∈l,x∈m)→R m→R l)(hK:∀σ,K σ→R σ.log) :
  ∀(l1:List Nat)(σ:St),(∀p∈l1,(∀log,R log->Ee log p i)/\∀op,ops[p]? = some op->Lr ops op oi=false) ->
   yE P Γ nt ops (l1++i::l2) K σ->yE P Γ nt ops (i::(l1++l2)) K σ
 | [],σ,_,h=>h
 | p::l1,σ,hp,h=>by
  have h1:yE P Γ nt ops (p::i::(l1++l2)) K σ:=BG (λσ h=>Rj hi hE hR hK l1 σ (λq hq=>hp q (jM _ hq)) h) h;obtain⟨hN,hT⟩:=hp p kH;cases aY:ops[p]? with
  | none =>
   have e:∀l σ,yE P Γ nt ops (p::l) K σ↔yE P Γ nt ops l K σ:=λl σ=>by simp only[yE,aY]
   have h2:=(e _ _).1 h1;exact BG (λτ h=>(e _ _).2 h) h2
  | some op =>
   exact zi6 aY hi (hT op aY) (λτ τ' he hv=>Kq hE _ _ _ he hv) (λτ hv=>hN _ (TQ hR hK _ _ hv)) h1
theorem I7{ms:List Nat}{S:Nat->Prop}{p:Nat}:∀(es:List Edge),(∀e∈es,Region.binds .any e=true->S e.on) ->
  (∀k m,ms[k]? = some m->S k->m.testBit p=true->S p)->(BR ms es).testBit p=true->S p
 | [],_,_,h=>by simp[BR]at h
 | e::r,he,hm,h=>by
  have ih:=I7 (ms:=ms) (p:=p) r (λe' h'=>he e' (jM _ h')) hm;simp only[BR]at h;split at h;rename_i m hb hms;have hS:=he e kH hb;rw[qd6,qd6,V8,V8]at h;rcases h with(h|h)|h
  rw [Nat.testBit_two_pow]at h;have:e.on=p:=qdE h;rw[<- this];exact hS;exact hm _ _ hms hS h;exact ih h;exact ih h
theorem Ns{S:Nat->Prop}{p:Nat}(Bv:∀(k:Nat)(o:Oper),ops[k]? = some o->S k->∀e∈o.after,Region.binds .any e=true->S e.on):∀(l:List Oper)(ms:List Nat),(∀j,l[j]? = ops[ms.length+j]?) ->
  (∀(k:Nat)(o:Oper)(m:Nat),ops[k]? = some o->ms[k]? = some m->(∀e∈o.after,Region.binds .any e=true->S e.on)->m.testBit p=true->S p) ->
  ∀(k:Nat)(o:Oper)(m:Nat),ops[k]? = some o->(masks l ms)[k]? = some m->(∀e∈o.after,Region.binds .any e=true->S e.on)->m.testBit p=true->S p
 | [],ms,_,h=>h
 | o::r,ms,hl,h=>by
  have ho:ops[ms.length]? = some o:=by have:=hl 0;simpa using this.symm
  simp only[masks];refine Ns Bv r (ms++[BR ms o.after.toList]) (λj=>by have:=hl (j+1);rw[dqN]at this;rw[this,Py];congr 1;simp;omega) ?_;intro k ok m hk hm he hb;rw[List.getElem?_append]at hm;split at hm;exact h k ok m hk hm he hb
  ·rename_i iF;have jO:k=ms.length:=by
    rcases qdP k (ms.length+1)with h1|h1
    omega;rw[dq2 (by simp;omega)]at hm;cases hm
   subst jO;rw[ho]at hk;simp only[bM]at hk;subst hk;simp only[Nat.sub_self,qdG,bM]at hm;subst hm;refine I7 _ (λe h'=>he e (by simpa using h')) (λk' m' KI hS mP=>?_) hb;have zvt:k'<ms.length:=by
    rcases qdP k' ms.length with h1|h1
    exact h1;rw[dq2 h1]at KI;cases KI
   cases gp:ops[k']? with
   | some ok'=>exact h k' ok' m' gp KI (Bv k' ok' gp hS) mP
   | none =>
    have hlen:ms.length<ops.size:=by
     rcases qdP ms.length ops.size with h1|h1
     exact h1;rw[qjp h1]at ho;cases ho
    rw[jqD]at gp;omega
def yt(ms:List Nat)(log:List (Nat×Nat×Nat)):Prop:=vI ms log=true
theorem yt.sub{ms:List Nat}(l m:List (Nat×Nat×Nat))(h:∀x∈l,x∈m)(hm:yt ms m):yt ms l:=by
 simp only[yt,vI,yL]at hm ⊢;exact λx hx y hy=>hm x (h x hx) y (h y hy)
theorem yt.no{ms:List Nat}{log:List (Nat×Nat×Nat)}(h:yt ms log){p i:Nat}(hpi:p<i)(hb:∀m,ms[i]? = some m->m.testBit p=false):Ee log p i:=by
 intro L k m h1 h2;simp only[yt,vI,yL]at h;have:=h _ h1 _ h2;simp only[V8,JS]at this;rcases this with((h3|h3)|h3)|h3
 rw[show Nat.blt p i=true from by simpa [qjl]using hpi]at h3;cases h3;rw[show Nat.beq L L=true from by simp]at h3;cases h3;exact h3;split at h3;rename_i m' KI;rw[hb m' KI]at h3;cases h3;cases h3
def VU(ops:Array Oper)(listed:Array Bool):List Nat:=(List.range ops.size).filter λk=>!listed.getD k true
theorem GZ{listed:Array Bool}:i∈Region.ready .any ops listed↔i∈VU ops listed/\∃o,ops[i]? = some o/\∀e∈o.after,Region.binds .any e=true->listed.getD e.on false=true:=by
 simp only[Region.ready,VU,Qp,fQ];constructor
 ·rintro⟨h1,h2,h3⟩;refine⟨⟨h1,h2⟩,?_⟩;cases ho:ops[i]? with
  | none=>rw[ho]at h3;simp at h3
  | some o =>
   rw[ho]at h3;simp only[Qq,qdO,jqj,V8,JS]at h3;refine⟨o,rfl,λe he hb=>?_⟩;rcases h3 e he with h|h
   rw[hb]at h;cases h;exact h
 ·rintro⟨⟨h1,h2⟩,o,ho,h3⟩;refine⟨h1,h2,?_⟩;rw[ho];simp only[Qq,qdO,jqj,V8,JS];intro e he;cases hb:Region.binds .any e with|false=>exact .inl rfl|true=>exact .inr (h3 e he hb)
theorem XE{listed:Array Bool}{i k:Nat}{b:Bool}:(listed.setIfInBounds i true).getD k b=if k=i/\k<listed.size then true else listed.getD k b:=by
 rw[yB,yB,qd9];by_cases h:i=k;subst h;by_cases hs:i<listed.size;simp[hs];simp[hs];rw[eY h,eY omY]
theorem zpw{listed:Array Bool}(jL:listed.size=ops.size):VU ops (listed.setIfInBounds i true)=(VU ops listed).filter λk=>!(k==i):=by
 unfold VU;rw[List.filter_filter];refine qjQ λk hk=>?_;have hk:=KQ.1 hk;rw[XE];by_cases h:k=i;subst h;rw[eU ⟨rfl,omY⟩];simp;rw[eY (λh'=>h h'.1)];simp[h]
theorem zpx(gp:jw P Γ){K:St→Prop}{D:List Nat}{a0:Act}{ad:List Deferred}(hD:∀(j:Nat)(o:Oper),ops[j]? = some o→∀t,o.dst=some t→t∈D)(hE:∀σ τ,CB σ τ→K σ→K τ)(zcs:Ls ops=true)(hT:BU ops (masks ops.toList [])=true)
    (hL:∀σ,K σ->yt (masks ops.toList []) σ.log) (hQ:∀σ',K σ'->∀g' a' w',bU P nt B w0 h0 g' σ' a' w'->Kp D a0 a'->a'.defers=ad->Q .normal a' w') :
    ∀(fuel:Nat)(listed:Array Bool)(σ:St)(g:Gh)(a:Act)(w:World),listed.size=ops.size->(VU ops listed).length<=fuel ->
      (∀k o,ops[k]? = some o->listed.getD k false=true->∀e∈o.after,Region.binds .any e=true->listed.getD e.on false=true) ->
      yE P Γ nt ops (VU ops listed) K σ->bU P nt B w0 h0 g σ a w->Kp D a0 a->a.defers=ad->wpAnyIn (FR r) n P .any ops Q fuel listed a w:=by
  -- if nothing is ready, nothing is left
  have stuck:∀listed:Array Bool,Region.ready .any ops listed=[]->VU ops listed=[]:=by
    intro listed hr;cases hu:VU ops listed with
    | nil=>rfl
    | cons i rest =>
      exfalso;have hi:i∈VU ops listed:=by rw[hu];exact kH
      have jL:i<ops.size:=KQ.1 (Qp.1 hi).1;have Jr:(VU ops listed).Pairwise (· < ·):=jq9 _ jqS;have:i∈Region.ready .any ops listed:=by
        refine GZ.2 ⟨hi,ops[i],qdL jL,λe he hb=>?_⟩;simp only[Ls,yL]at zcs;have h1:=zcs i (KQ.2 jL);rw[qdL jL]at h1;simp only[yL,V8,JS]at h1;have h2:e.on<i:=by
          rcases h1 e (by simpa using he)with h|h
          rw[hb]at h;cases h;simpa [qjl]using h
        cases hl:listed.getD e.on false with
        | true=>rfl
        | false =>
          exfalso;have sW:e.on∈VU ops listed\/listed.getD e.on true=true:=by
            cases hl2:listed.getD e.on true with|true=>exact .inr rfl|false=>exact .inl (Qp.2 ⟨KQ.2 omY,by rw[hl2];rfl⟩)
          rw[hu]at sW Jr;rcases sW with sW|sW
          rcases jV.1 sW with h|h
          omega;have:=(qdm.1 Jr).1 _ h;omega
          · -- then it lies outside
            rw[yB]at hl sW;have F9:listed[e.on]? = none:=by
              cases hx:listed[e.on]? with|none=>rfl|some b=>rw[hx]at hl sW;simp at hl sW;rw[hl]at sW;cases sW
            have hi2:listed.getD i true=true:=by
              rw[jqD]at F9;rw[yB,qjp omY];rfl
            have:=(Qp.1 hi).2;rw[hi2]at this;cases this
      rw[hr]at this;simp at this
  intro fuel
  induction fuel with
  | zero =>
    intro listed σ g a w jL hf Bv hv S kZ had;have zcp:VU ops listed=[]:=qdD omY;refine⟨?_,?_⟩
    · cases hr:Region.ready .any ops listed with
      | nil=>rfl
      | cons i l =>
        have:=(GZ (i:=i) (ops:=ops) (listed:=listed)).1 (by rw[hr];exact kH);rw[zcp]at this;simp at this
    rw [zcp]at hv;exact hQ σ hv g a w S kZ had
  | succ fuel ih =>
    intro listed σ g a w jL hf Bv hv S kZ had;refine⟨λhr=>?_,λi hi=>?_⟩;have zcp:=stuck listed hr;rw[zcp]at hv;exact hQ σ hv g a w S kZ had;obtain⟨hu,oi,hoi,hed⟩:=GZ.1 hi;have hil:i<ops.size:=KQ.1 (Qp.1 hu).1;have Jr:(VU ops listed).Pairwise (· < ·):=jq9 _ jqS;obtain⟨l1,l2,hl⟩:=List.append_of_mem hu;rw[hl]at Jr hv;have iF:∀p∈l1,p<i:=λp hp=>(qdy.1 Jr).2.2 p hp i kH;have ZX:∀p∈l2,i<p:=λp hp=>(qdm.1 (qdy.1 Jr).2.1).1 p hp;have zNY:VU ops (listed.setIfInBounds i true)=l1++l2:=by
      rw[zpw jL,hl,qjn,qdk];rw[eY (by simp),jqa.2 λp hp=>by have:=iF p hp;simp;omega,jqa.2 λp hp=>by have:=ZX p hp;simp;omega]
    have bits:∀p∈l1,∀m,(masks ops.toList [])[i]? = some m->m.testBit p=false:=by
      intro p hp m hm;cases hb:m.testBit p with
      | false=>rfl
      | true =>
        exfalso;have:=Ns (S:=λk=>listed.getD k false=true) (p:=p) (ops:=ops) (λk o ho hS=>Bv k o ho hS) ops.toList [] (λj=>by simp) (λk o m _ hm=>by simp at hm) i oi m hoi hm hed hb;have hpu:p∈VU ops listed:=by rw[hl];exact dR.2 (.inl hp)
        have h2:=(Qp.1 hpu).2;rw[yB]at this h2;cases hx:listed[p]? with|none=>rw[hx]at this;simp at this|some b=>rw[hx]at this h2;simp at this h2;rw[this]at h2;cases h2
    have zy0:=Rj hoi hE (R:=yt (masks ops.toList [])) yt.sub hL l1 σ (λp hp=>⟨λlog zSk=>zSk.no (iF p hp) (bits p hp),λop aY=>?_⟩) hv;refine zyZ gp hD zy0 S kZ had fun σ' g' a' w' BL S' zfA zSl => ?_;refine ih (listed.setIfInBounds i true) σ' g' a' w' (by simpa using jL) ?_ ?_ ?_ S' zfA zSl;rw [zNY];rw[hl]at hf;simp only[Py,qp]at hf ⊢;omega;intro k o hk kJ e he hb;rw[XE]at kJ ⊢;split at kJ;rename_i hki;rw[hki.1,hoi]at hk;simp only[bM]at hk;subst hk;have:=hed e he hb;split;rfl;exact this;have:=Bv k o hk kJ e he hb;split;rfl;exact this;rw[zNY];exact BL
    · simp only [BU,yL]at hT;have h1:=hT i (KQ.2 hil) p (KQ.2 (iF p hp));rw[aY,hoi]at h1;cases hm:(masks ops.toList [])[i]? with
      | none=>rw[hm]at h1;simp at h1
      | some m =>
        rw[hm]at h1;simp only[V8,JS]at h1;rcases h1 with h|h
        exact h;rw[bits p hp m hm]at h;cases h
theorem bU.drew(S:bU P nt B w0 h0 g σ a w):bU P nt B w0 h0 g σ a {w with drawn:=w.drawn+1}:=by
 refine {S with obj:=λL o h=>?_,below:=?_,hw:=S.hw,bs:=S.bs};have:=S.obj L o h;cases o<;>exact this;exact S.below.drew
theorem za2(gp:jw P Γ){K:St→Prop}{D:List Nat}{a0:Act}(hD:∀(j:Nat)(o:Oper),ops[j]? = some o→∀t,o.dst=some t→t∈D)(kZ:Kp D a0 a)(hm:P.follows .mixedOrders=true)(zcs:Ls ops=true)(hT:BU ops (masks ops.toList [])=true)(hE:∀σ τ,CB σ τ→K σ→K τ)
    (h:kE P Γ nt ops 0 ops.toList (λσ'=>match vI (masks ops.toList []) σ'.log with|true=>K σ'|false=>False) σ) (S:bU P nt B w0 h0 g σ a w)
    (hQ:∀σ',K σ'->∀g' a' w',bU P nt B w0 h0 g' σ' a' w'->Kp D a0 a'->a'.defers=a.defers->Q .normal a' w') {id:Nat}:(Code.region id ops true).wpIn (FR r) n P Q a w:=by
  refine wpIn_region_any hm ?_;have hE':∀σ τ:St,CB σ τ->(match vI (masks ops.toList []) σ.log with|true=>K σ|false=>False)->(match vI (masks ops.toList []) τ.log with|true=>K τ|false=>False):=by
    intro σ τ he hσ;split at hσ;rename_i hl;have:yt (masks ops.toList []) τ.log:=yt.sub _ _ (λx hx=>(he.log x).2 hx) hl;rw[show vI (masks ops.toList []) τ.log=true from this];exact hE σ τ he hσ;exact hσ.elim
  have Js:VU ops (Array.replicate ops.size false)=List.range ops.size:=by
    unfold VU;refine jqa.2 λk hk=>?_;have:=KQ.1 hk;simp[yB,this]
  refine zpx gp hD (K:=λσ'=>match vI (masks ops.toList []) σ'.log with|true=>K σ'|false=>False) hE' zcs hT (λσ hσ=>?_) (λσ' hσ=>?_) ops.size _ σ g a _ (by simp) ?_ ?_ ?_ S.drew kZ rfl;split at hσ
  assumption
  exact hσ.elim;split at hσ;exact hQ σ' hσ;exact hσ.elim;rw[Js];simp;intro k o _ hk;rw[yB]at hk;by_cases hks:k<ops.size;simp[hks]at hk;rw[qjp (by simp;omega)]at hk;simp at hk;rw [Js];have:=za1 hE' ops.toList 0 σ (λj=>by simp) h;rw[dq7];simpa using this
end
end Go.Pm
