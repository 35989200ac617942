/- Part 2: framework, functions, plain laws. -/
import Derived.Test.YtjkijdhdbhooiaaGreatQ1
import Derived.ChangeKeysEq
import Derived.MapKept
import Derived.Laws.Slices
import Derived.Laws.OwnMore
import Derived.Scope
import Derived.OrdersIn
set_option linter.all false
noncomputable section
namespace Go.Pm
variable [aH]
open Go.RowKit (Below)
section
variable{P:Program}{Γ:bI}{nt B:Nat}{w0:World}{h0:Fz}{g:Gh}{σ:St}{a:Act}{w:World}{r:Option Nat}{n i:Nat}{Q:Exit->Act->World->Prop}
theorem zgT(σ:St)(i:Nat)(dst:Option Nat)(fp:List (Nat×Bool))(d:DV)(u:List (Nat×AO))(L:Nat) :
  σ.upd i dst fp d u [L]=⟨YB dst d (kills (gB [L]) σ.env),u++kills (eY [L]) σ.aB,σ.log⟩:=by
 cases dst<;>rfl
theorem GG{t e:TypeId}{ty:TypeId}{ie:TypeInfo}{base m m' s:Nat}{v x:Value}{xs news:List Value}(hu:P.underlying t=some (.slice e))(hi:P.info? e=some ie)
    {z:Value} (hz:ie.zero=some z) (zZ:z.cells.size=ie.size) (hs:ie.size=s) (iF:0<s) (Qw:base<=w.heap.size) (iZ:w.ownsRow base e s v m xs) (oq:zFh w x m' s news)
    (hlen:m+m'<=9223372036854775807) (zg:(m+m')*ie.bytes<=140737488355328) :
    ∃v' w',(Builtin.append_ #[t,t] ty #[v,x]).run P w=.ok v' w'/\w'.ownsRow base e s v' (m+m') (xs++news)/\GrB w w' v.ownBlock/\(v'.ownBlock=v.ownBlock\/v'.ownBlock=some w.heap.size) /\
      v'.oneCell'=true:=by
  have jE:∃ad c,v=.slice ad m c:=by
    rcases iZ.2 with⟨h1,h2⟩|⟨k,cap,cur,h1,_⟩
    subst h2;exact⟨_,_,h1⟩;exact⟨_,_,h1⟩
  obtain⟨ad,c,jE⟩:=jE;rcases oq with⟨rfl,hx|⟨a',c',hx⟩,rfl⟩|⟨b,o,cap,hx,hl,rH,h1⟩
  subst hx;have df:=run_append_owned_none (P:=P) (w:=w) base t ty e ie s hu hi v m xs iZ;refine⟨v,w,df,by simpa using iZ,⟨⟨rfl,rfl,rfl,kw _,λ_ _ _=>rfl⟩,kw _⟩,.inl rfl,by rw[jE];rfl⟩;subst hx
  obtain ⟨v', w', df, xG, hg, _⟩ := run_append_own (P := P) w base t ty e ie z s ie.bytes hu hi hz hs rfl (by rw [zZ, hs]) iF v m xs iZ a' 0 c' [] (by simp)
    (λj u hj=>by simp at hj) (λu hu=>by simp at hu) (by simp only[maxLen];omega) zg Qw
  refine⟨v',w',df,xG,⟨hg,JP (gI _ _ _ _ df)⟩,?_,?_⟩;rw [jE]at df;have:=CG (P:=P) (t:=t) (ty:=ty) w v' w' df;rw[jE];cases ad<;>exact this;rcases xG.2 with⟨h1,_⟩|⟨k,cap,cur,h1,_⟩<;>rw[h1]<;>rfl
  subst hx
  obtain ⟨v', w', df, xG, hg, _⟩ := run_append_own (P := P) w base t ty e ie z s ie.bytes hu hi hz hs rfl (by rw [zZ, hs]) iF v m xs iZ ⟨b, o, none⟩ m' cap news hl
    (λj u hj=>by rw[addr_add];exact rH j u hj) h1 (by simp only[maxLen];omega) zg Qw
  refine⟨v',w',df,xG,⟨hg,JP (gI _ _ _ _ df)⟩,?_,?_⟩;rw [jE]at df;have:=CG (P:=P) (t:=t) (ty:=ty) w v' w' df;rw[jE];cases ad<;>exact this;rcases xG.2 with⟨h1,_⟩|⟨k,cap,cur,h1,_⟩<;>rw[h1]<;>rfl
theorem Ku{t e:TypeId}{ty:TypeId}{ie:TypeInfo}{base m m' s:Nat}{v x:Value}{xs:List Value}{new:Nat→List PV}(hu:P.underlying t=some (.slice e))(hi:P.info? e=some ie)
    {z:Value} (hz:ie.zero=some z) (zZ:z.cells.size=ie.size) (hs:ie.size=s) (iF:0<s) (Qw:base<=w.heap.size) (iZ:w.ownsRow base e s v m xs) (oq:U2 g w x m' s new)
    (hlen:m+m'<=9223372036854775807) (zg:(m+m')*ie.bytes<=140737488355328) :
    ∃v' w' news,(Builtin.append_ #[t,t] ty #[v,x]).run P w=.ok v' w'/\w'.ownsRow base e s v' (m+m') (xs++news)/\GrB w w' v.ownBlock/\(v'.ownBlock=v.ownBlock\/v'.ownBlock=some w.heap.size) /\
      v'.oneCell'=true/\news.length=m'*s/\∀k,k<m'->RL (Rep g.h) (new k) ((news.drop (k*s)).take s):=by
  rcases oq with⟨rfl,hx⟩|⟨b,o,cap,news,hx,hl,rH,h1,hr⟩
  obtain⟨v',w',h⟩:=GG (P:=P) (ty:=ty) (news:=[]) hu hi hz zZ hs iF Qw iZ (.inl ⟨rfl,hx,rfl⟩) hlen zg;exact⟨v',w',[],h.1,h.2.1,h.2.2.1,h.2.2.2.1,h.2.2.2.2,by simp,λk hk=>absurd hk omY⟩;obtain⟨v',w',h⟩:=GG (P:=P) (ty:=ty) (news:=news) hu hi hz zZ hs iF Qw iZ (.inr ⟨b,o,cap,hx,hl,rH,h1⟩) hlen zg;exact⟨v',w',news,h.1,h.2.1,h.2.2.1,h.2.2.2.1,h.2.2.2.2,hl,hr⟩
theorem zgU{L e s b m m':Nat}{get new:Nat→List PV}{v':Value}{w':World}{xs news:List Value}(hu:tH (appG m get new))(hv0:0<s∧∃i z,P.info? e=some i∧i.size=s∧i.bytes=b∧i.zero=some z∧z.cells.size=s)
    (hx:xs.length=m*s) (hr:∀k,k<m->RL (Rep g.h) (get k) ((xs.drop (k*s)).take s)) (_hn:news.length=m'*s) (hrn:∀k,k<m'->RL (Rep g.h) (new k) ((news.drop (k*s)).take s))
    (iZ:w'.ownsRow B e s v' (m+m') (xs++news)):Cj P (g.setSv L v') w' B L e s b (m+m') (appG m get new):=by
  refine⟨⟨hu,hv0.1⟩,hv0.2,xs++news,by rw[show(g.setSv L v').sv L=v' by simp[Gh.setSv]];exact iZ,?_⟩;intro k hk;show RL (Rep g.h) (match Nat.ble m k with|true=>new (k-m)|false=>get k) _;cases hb:Nat.ble m k with
  | true =>
    have hmk:=qdK hb;have e:((xs++news).drop (k*s)).take s=(news.drop ((k-m)*s)).take s:=by
      rw[List.drop_append,show xs.drop (k*s)=[]from List.drop_eq_nil_of_le (by rw[hx];exact Qz s hmk),OU,hx,<- Nat.sub_mul]
    rw[e];exact hrn (k-m) omY
  | false =>
    have hmk:k<m:=by
      have:¬m<=k:=λh=>by rw[qjJ h]at hb;cases hb
      omega
    have hle:k*s+s<=m*s:=by have:=Qz s (qdl hmk);rw[Uf]at this;exact this
    have e:((xs++news).drop (k*s)).take s=(xs.drop (k*s)).take s:=by
      rw[List.drop_append_of_le_length omY,List.take_append_of_le_length (by simp;omega)]
    rw[e];exact hr k hmk
theorem YF{o:Oper}{args:Array Operand}{ts:Array TypeId}{A:aJ}(S:bW P nt B w0 h0 g σ a w)(hd:dI nt o.dst=true)(bf:o.op = .call {callee := .builtin .append,args,argTypes:=ts})
    (hA:act P Γ o (fK σ.env) (lk σ.aB)=A) (hs:A.safe):jf P nt B w0 h0 r n i o A σ a w Q:=by
  simp only[act,aAp,bf]at hA;split at hA;rename_i s x t t' gp hts;split at hA;rename_i e dst hu htt Gp;have htt:=kP htt;subst htt;have ha:args = #[s,x]:=by rw[<- qdc (xs:=args),gp]
  have ht:ts = #[t,t]:=by rw[<- qdc (xs:=ts),hts]
  subst ha ht;split at hA;rename_i ie z hi hz;obtain⟨zv,Gq,zZ⟩:=iW hz hi;have zgV:∀(v':Value)(w':World),(Builtin.append_ #[t,t] o.type #[a.eval s,a.eval x]).run P w=.ok v' w'->(execOp a.eval o).run P w=.ok (.value v') w':=by
    intro v' w' h;refine fb bf ?_;simp only[builtin,Sem.run_bind,List.map_toArray,o5,qdQ,h,Result.andThen_ok,Sem.run_pure]
  unfold QD at hA;split at hA;rename_i m sz new fps oq;unfold EX at oq;have zgW:sz≠0->U2 g w (a.eval x) m sz new:=by
    intro jH;have jH:0<sz:=by omega
    split at oq;rename_i hx;simp only[bQ,gm]at oq;obtain⟨rfl,rfl,rfl,_⟩:=oq;exact zgS S jH (jv S hx);rename_i M hx;obtain⟨h1,_⟩:=iJ S hx;split at oq;rename_i hM;simp only[bQ,gm]at oq;obtain⟨rfl,rfl,rfl,_⟩:=oq;rw[h1.1];exact zne (S.obj M _ hM);rename_i hM;simp only[bQ,gm]at oq;obtain⟨rfl,rfl,rfl,_⟩:=oq;rw[h1.1];exact zgS S jH (S.obj M _ hM).1;cases oq;cases oq
  have U3:tH new:=by
    split at oq;rename_i hx;simp only[bQ,gm]at oq;obtain⟨rfl,rfl,rfl,_⟩:=oq;exact(jv S hx).un.rows.2;split at oq;rename_i hM;simp only[bQ,gm]at oq;obtain⟨rfl,rfl,rfl,_⟩:=oq;exact(S.obj _ _ hM).1.1;rename_i hM;simp only[bQ,gm]at oq;obtain⟨rfl,rfl,rfl,_⟩:=oq;exact(S.obj _ _ hM).1.un.rows.2;cases oq;cases oq
  split at hA;rename_i L hsL;obtain⟨h1,_⟩:=iJ S hsL;split at hA;rename_i e' s' b' m0 get hL;split at hA;rename_i dh;obtain⟨rfl,rfl,rfl,zgX,iF,_,rO⟩:=dh;subst hA;have rM:(m0+m)*ie.bytes<=140737488355328/\m0+m<=9223372036854775807:=hs;have zZl:sz≠0:=by omega
  have zdh:=zgW zZl;rw[zgX]at zdh;obtain⟨⟨YG,hp⟩,mV,xs,hx,hr⟩:=S.obj L _ hL;obtain⟨v',w',news,df,xG,hg,Ig,lM,hnl,hrn⟩:=Ku (P:=P) (ty:=o.type) hu hi Gq zZ rfl hp S.bs hx zdh rM.2 rM.1;rw[<- h1.1]at df;have hnz:nzG (get 0) (appG m0 get new)=appG m0 get new:=Yq λi=>by
    unfold appG;split;exact(JG rO (YG 0 0) (U3 0 0)).trans (U3 0 _);exact YG 0 _
  rw[hnz];have zgR:=zgU (P:=P) (L:=L) (zmY YG U3 (JG rO (YG 0 0) (U3 0 0))) ⟨hp,mV⟩ hx.1 hr hnl hrn xG;have S':=S.grow (dst:=o.dst) hL hd hg (Ig.imp id .inl) zgR lM σ.log;refine o8 (by simp[bf]) (zgV v' w' df) ⟨g.setSv L v',σ.upd i o.dst ((L,true)::fps) (.cl (.vec L)) [(L,.vec e' ie.size ie.bytes (m0+m) (appG m0 get new))] [L],rfl,?_⟩;rw[zgT];exact S';subst hA;exact hs.elim;subst hA;exact hs.elim;rename_i hsN;split at hA;rename_i gV;split at hA;rename_i dh;obtain⟨zgX,iF⟩:=dh;subst hA;have rM:m*ie.bytes<=140737488355328/\m<=9223372036854775807:=hs;have zdh:=zgW omY;have zaJ:a.eval s=.slice none 0 0:=by
    have:=jv S hsN;generalize a.eval s=v at this;cases this;rfl
  obtain⟨v',w',news,df,xG,hg,Ig,lM,hnl,hrn⟩:=Ku (P:=P) (ty:=o.type) (base:=w.heap.size) (m:=0) (v := .slice none 0 0) (xs:=[]) hu hi Gq zZ zgX.symm iF (kw _)
    (World.ownsRow_nil w _ e sz) zdh omY (by rw[Oa];exact rM.1)
  rw[<- zaJ]at df;rw[Oa,OU]at xG;have zFi:w'.ownsRow B e sz v' m news:=by
    refine⟨xG.1,?_⟩;rcases xG.2 with h|⟨k,cap,cur,h1,h2,h3⟩
    exact .inl h;exact .inr ⟨k,cap,cur,h1,Gv S.bs h2,h3⟩
  have zgR:Cj P (g.setSv dst v') w' B dst e sz ie.bytes m new:=by
    refine⟨⟨U3,iF⟩,⟨ie,zv,hi,zgX.symm,rfl,Gq,by rw[zZ,zgX]⟩,news,?_,hrn⟩;rw[show(g.setSv dst v').sv dst=v' by simp[Gh.setSv]];exact zFi
  have hold:∀b,b<w.heap.size->w'.heap[b]? = w.heap[b]?:=λb hb=>hg.block b hb (by simp[Value.ownBlock])
  have S' := S.newVec (t := dst) (w' := w') gV ⟨⟨hg.os, hg.tape, hg.output, hg.size, fun k hk => hold k (qdt hk S.bs)⟩, hg.drawn⟩ hold
    (λb hb=>(xG.lt b hb).1) zgR
  refine o8 (by simp[bf]) (zgV v' w' df) ⟨g.setSv dst v',σ.upd i o.dst ((dst,true)::fps) (.cl (.vec dst)) [(dst,.vec e sz ie.bytes m new)] [],rfl,?_⟩;rw[fO];refine S'.put (v:=v') hd (d:=.cl (.vec dst)) ⟨by simp[Gh.setSv],lM⟩ ?_ _;intro L hL;simp[cu,dC,bu]at hL;subst hL;exact⟨_,by rw[aW,eX rfl]⟩;subst hA;exact hs.elim;subst hA;exact hs.elim;subst hA;exact hs.elim;subst hA;exact hs.elim;subst hA;exact hs.elim;subst hA;exact hs.elim;subst hA;exact hs.elim
end
end Go.Pm
namespace Go.Pm
variable [aH]
open Go.RowKit (Below)
open Go.MapKept (IsKey findNow_spec run_checkKey)
section
variable{P:Program}{w:World}
abbrev VI(xs:List Int):List Value:=xs.map (Value.int .i64)
def mkI(ag:Bool)(c:List Int):Value:=match ag with|true=>sD c|false=>.int .i64 (c.headD 0)
theorem qC{t:TypeId}{ag:Bool}{n off:Nat}{xs:List Int}(hg:jq P t=some ag)(hs:pU P t=some n)(h1:ag=false→n=1)(hl:off+n≤xs.length) :
  (part t (VI xs).toArray off).run P w=.ok (mkI ag ((xs.drop off).take n)) w:=by
 cases ag with
 | true =>
  simp only[part,Sem.run_bind,nO hg,Result.andThen_ok,OV,run_sizeOf hs,Sem.run_pure];simp[mkI,sD,jqJ,jqj,List.map_take,List.map_drop]
 | false =>
  have:=h1 rfl;subst this;have iw:off<xs.length:=by omega
  simp only[part,Sem.run_bind,nO hg,Result.andThen_ok,qds,qd4];rw[show(VI xs).toArray[off]? = some (.int .i64 xs[off])by simp[iw]];rw[List.drop_eq_getElem_cons iw];rfl
theorem take_split(xs:List Int)(m k r:Nat):(xs.drop m).take (k+r)=(xs.drop m).take k++(xs.drop (m+k)).take r:=by
 rw[List.take_add,List.drop_drop]
theorem zbd{a b c d:List Int}(h:a.length=b.length):decide (a++c=b++d)=(decide (a=b)&&decide (c=d)):=by
 by_cases h1:a=b;subst h1;simp;have:¬(a++c=b++d):=fun e=>h1 (List.append_inj e h).1;simp[h1,this]
theorem take_len{xs:List Int}{m k:Nat}(h:m+k<=xs.length):((xs.drop m).take k).length=k:=by
 rw[qdF,qdd];omega
theorem uO{d:Nat}{t:TypeId}{n:Nat}{ag:Bool}(h:kJ P d t=some n)(hg:jq P t=some ag):ag=false->n=1:=by
 intro e;subst e;cases d with
 | zero=>simp[kJ]at h
 | succ d =>
  simp only[kJ]at h;split at h;split at h;split at h;simp only[bQ]at h;exact h.symm;cases h;cases h;rename_i hu;simp[jq,hu]at hg;rename_i hu;simp[jq,hu]at hg;cases h
def GH (P : Program) (d : Nat) : Option Nat → Field → Option Nat := fun acc f => match acc, f.name != "_", kJ P d f.type, pU P f.type with
 | some m,true,some n,some n'=>match Nat.beq f.offset m&&Nat.beq n n' with|true=>some (m+n)|false=>none
 | _,_,_,_=>none
theorem Kv{d:Nat}:∀l:List Field,l.foldl (GH P d) none=none|[]=>rfl|f::l=>by rw[Yf,show GH P d none f=none from rfl];exact Kv l
theorem Kw{d:Nat}{f:Field}{l:List Field}{m n:Nat}(h:(f::l).foldl (GH P d) (some m)=some n) :
  ∃ k, kJ P d f.type = some k ∧ pU P f.type = some k ∧ f.name ≠ "_" ∧ f.offset = m ∧ l.foldl (GH P d) (some (m + k)) = some n := by
 rw[Yf]at h;cases hs:GH P d (some m) f with
 | none=>rw[hs,Kv]at h;cases h
 | some q =>
  rw[hs]at h;unfold GH at hs;split at hs;rename_i m' k k' e1 e2 e3 e4;simp only[bQ]at e1;subst e1;split at hs;rename_i hb;simp only[gz]at hb;have h1:=kP hb.1;have h2:=kP hb.2;simp only[bQ]at hs;subst hs;subst h2;exact⟨k,e3,e4,by simpa using e2,h1,h⟩;cases hs;cases hs
theorem Pq {d : Nat} : ∀ (l : List Field) (m q : Nat), l.foldl (GH P d) (some m) = some q → m ≤ q ∧ ∀ f ∈ l, f.name ≠ "_" ∧ ∃ k, kJ P d f.type = some k ∧ pU P f.type = some k ∧ f.offset + k ≤ q
  | [],m,q,h=>by
    simp only[List.foldl_nil,bQ]at h;subst h;exact⟨kw _,λf hf=>by simp at hf⟩
  | f::l,m,q,h=>by
    obtain⟨k,h1,h2,h3,h4,h5⟩:=Kw h;obtain⟨h6,h7⟩:=Pq l (m+k) q h5;refine⟨omY,λg hg=>?_⟩;rcases kF.1 hg with rfl|hg
    exact⟨h3,k,h1,h2,omY⟩;exact h7 g hg
theorem qh{d:Nat}{t:TypeId}{n:Nat}(h:kJ P d t=some n):∃ag,jq P t=some ag:=by
 cases d with
 | zero=>simp[kJ]at h
 | succ d =>
  simp only[kJ]at h;cases hu:P.underlying t with|none=>rw[hu]at h;cases h|some x=>unfold jq;rw[hu];exact⟨_,rfl⟩
theorem IX:∀(d:Nat)(t:TypeId)(n:Nat)(ag:Bool),kJ P d t=some n->jq P t=some ag->∀(e:Nat)(xs ys:List Int),xs.length=n->ys.length=n ->
  (Op.equalIn (d+e) t (mkI ag xs) (mkI ag ys)).run P w=.ok (decide (xs=ys)) w
 | 0,t,n,ag,h,_=>by simp[kJ]at h
 | d+1,t,n,ag,h,hg=>by
  intro e xs ys hx hy;rw[show d+1+e=(d+e)+1 by omega];have h0:=h;simp only[kJ]at h;split at h
  ·rename_i hu;have uw:ag=false:=by simp[jq,hu] at hg;exact hg
   subst uw;have hn:=uO h0 hg rfl;subst hn
   match xs,ys,hx,hy with
   | [x],[y],_,_ =>
    simp only[mkI,qjd];rw[run_equalIn_int w (d+e) t .i64 .i64 x y hu];by_cases hxy:x=y<;>simp[hxy]
  rename_i fs hu;split at h;cases h;rename_i Ih;have uw:ag=true:=by simp[jq,hu]at hg;exact hg
  subst uw;have hf:P.fieldsOf t=fs:=by simp[Program.fieldsOf,hu]
  simp only[mkI,sD];rw[run_equalIn_struct w (d+e) t _ _ (by rw[hf];exact hu) Ih,hf]
  have key:∀(l:List Field)(m q:Nat),l.foldl (GH P d) (some m)=some q->q<=xs.length->q<=ys.length ->
    m<=q/\(Op.eqFields (d+e) (VI xs).toArray (VI ys).toArray l).run P w=.ok (decide ((xs.drop m).take (q-m)=(ys.drop m).take (q-m))) w:=by
   intro l
   induction l with
   | nil =>
    intro m q hq _ _;simp only[List.foldl_nil,bQ]at hq;subst hq;exact⟨kw _,by simp[Op.eqFields]⟩
   | cons f l ih =>
    intro m q hq hxl hyl;obtain⟨k,h1,h2,h3,h4,h5⟩:=Kw hq;obtain⟨hle,hr⟩:=ih (m+k) q h5 hxl hyl;obtain⟨ag',uu⟩:=qh h1;have hk1:=uO h1 uu;refine⟨omY,?_⟩;have p1:=qC (w:=w) (xs:=xs) (off:=m) uu h2 hk1 omY;have p2:=qC (w:=w) (xs:=ys) (off:=m) uu h2 hk1 omY;have p3:=IX d f.type k ag' h1 uu e ((xs.drop m).take k) ((ys.drop m).take k) (take_len omY) (take_len omY);rw[show q-m=k+(q-(m+k))by omega,take_split,take_split,zbd (by rw[take_len omY,take_len omY])];simp only[Op.eqFields,h3,ne_eq,not_false_eq_true,OV,Sem.run_bind,h4,p1,p2,p3,Result.andThen_ok];cases hd:decide (List.take k (List.drop m xs)=List.take k (List.drop m ys))with|false=>simp|true=>simpa using hr
  have:=(key fs.toList 0 n h omY omY).2;rw[this];simp only[List.drop_zero,jqz];rw[dq3 omY,dq3 omY];rename_i m0 e0 hu;split at h;rename_i m m' hm Ie;split at h;rename_i hb;have hmm:=kP hb;subst hmm;simp only[bQ]at h;have uw:ag=true:=by simp[jq,hu]at hg;exact hg
  subst uw;obtain⟨ag',uu⟩:=qh hm;have hk1:=uO hm uu;obtain⟨i,hi,his⟩:∃i,P.info? e0=some i/\i.size=m:=by
   unfold pU at Ie;cases hi:P.info? e0 with|none=>rw[hi]at Ie;cases Ie|some i=>rw[hi]at Ie;simp only[QA,bQ]at Ie;exact⟨i,rfl,Ie⟩
  have hc:P.cellsOf e0=m:=by simp[Program.cellsOf,hi,his]
  simp only[mkI,sD];rw[run_equalIn_array w (d+e) _ _ hu hi,hc,qdp];have key:∀(k s:Nat),(s+k)*m<=xs.length->(s+k)*m<=ys.length->(Op.eqItems (d+e) e0 m (VI xs).toArray (VI ys).toArray (List.range' s k)).run P w=.ok (decide ((xs.drop (s*m)).take (k*m)=(ys.drop (s*m)).take (k*m))) w:=by
   intro k
   induction k with
   | zero=>intro s _ _;simp[Op.eqItems]
   | succ k ih =>
    intro s hxl hyl;have e1:(s+(k+1))*m=s*m+(k+1)*m:=Nat.add_mul _ _ _;have e2:(k+1)*m=m+k*m:=by rw[Uf,Nat.add_comm]
    have e3:(s+1)*m=s*m+m:=Uf _ _;have hr:=ih (s+1) (by rw[show s+1+k=s+(k+1)by omega];exact hxl) (by rw[show s+1+k=s+(k+1)by omega];exact hyl);have p1:=qC (w:=w) (xs:=xs) (off:=s*m) uu Ie hk1 omY;have p2:=qC (w:=w) (xs:=ys) (off:=s*m) uu Ie hk1 omY;have p3:=IX d e0 m ag' hm uu e ((xs.drop (s*m)).take m) ((ys.drop (s*m)).take m) (take_len omY) (take_len omY);rw[e2,take_split,take_split,zbd (by rw[take_len omY,take_len omY])];rw[qdr];simp only[Op.eqItems,Sem.run_bind,p1,p2,p3,Result.andThen_ok];rw[e3]at hr;cases hd:decide (List.take m (List.drop (s*m) xs)=List.take m (List.drop (s*m) ys))with|false=>simp|true=>simpa using hr
  have:=key m0 0 (by rw[Oa,h];omega) (by rw[Oa,h];omega);rw[this];simp only[jqy,List.drop_zero,h];rw[dq3 omY,dq3 omY];cases h;cases h;cases h
theorem vX:∀(d:Nat)(t:TypeId)(n:Nat)(ag em:Bool),kJ P d t=some n->jq P t=some ag->∀(e:Nat)(xs:List Int),xs.length=n ->
  (Instr.checkKey em (d+e) t (mkI ag xs)).run P w=.ok () w
 | 0,t,n,ag,em,h,_=>by simp[kJ]at h
 | d+1,t,n,ag,em,h,hg=>by
  intro e xs hx;rw[show d+1+e=(d+e)+1 by omega];have h0:=h;simp only[kJ]at h;split at h;rename_i hu;have uw:ag=false:=by simp[jq,hu]at hg;exact hg
  subst uw;simp only[mkI,Instr.checkKey,Sem.run_bind,run_underlying hu,Result.andThen_ok,Sem.run_pure];rename_i fs hu;split at h;cases h
  ·rename_i Ih;have uw:ag=true:=by simp[jq,hu] at hg;exact hg
   subst uw;simp only[mkI,sD,Instr.checkKey,Sem.run_bind,run_underlying hu,Result.andThen_ok];rw[<- Array.forIn_toList];have deep:=(Pq fs.toList 0 n h).2;clear h h0;generalize fs.toList=L at deep
   induction L with
   | nil=>simp
   | cons f L ih =>
    obtain⟨hn,k,h1,h2,h3⟩:=deep f (by simp);obtain⟨ag',uu⟩:=qh h1;have p1:=qC (w:=w) (xs:=xs) (off:=f.offset) uu h2 (uO h1 uu) omY;have p3:=vX d f.type k ag' em h1 uu e ((xs.drop f.offset).take k) (take_len omY);simp only[List.forIn_cons,Sem.run_bind,hn,ne_eq,not_false_eq_true,OV,Result.andThen_ok,p1,p3,Sem.run_pure];exact ih λy hy=>deep y (by simp[hy])
  rename_i m0 e0 hu;split at h;rename_i m m' hm Ie;split at h
  ·rename_i hb;have hmm:=kP hb;subst hmm;simp only[bQ] at h;have uw:ag=true:=by simp[jq,hu] at hg;exact hg
   subst uw;obtain⟨ag',uu⟩:=qh hm;have hk1:=uO hm uu;simp only[mkI,sD,Instr.checkKey,Sem.run_bind,run_underlying hu,Result.andThen_ok];simp only[Std.Legacy.Range.forIn_eq_forIn_range',Std.Legacy.Range.size,jqz,Nat.add_one_sub_one,Nat.div_one];have deep:∀i∈List.range' 0 m0,i*m+m<=xs.length:=λi hi=>by
    have iw:i<m0:=by simp at hi;exact hi
    have:(i+1)*m<=m0*m:=Qz _ iw;rw[Uf]at this;omega
   generalize List.range' 0 m0=is at deep
   induction is with
   | nil=>simp
   | cons i is ih =>
    have h3:=deep i (by simp);have p1:=qC (w:=w) (xs:=xs) (off:=i*m) uu Ie hk1 h3;have p3:=vX d e0 m ag' em hm uu e ((xs.drop (i*m)).take m) (take_len h3);simp only[List.forIn_cons,Sem.run_bind,run_sizeOf Ie,Result.andThen_ok,p1,p3,Sem.run_pure];exact ih λy hy=>deep y (by simp[hy])
  cases h;cases h;cases h
theorem YJ(kf:KF)(c:List Int):Instr.sameBits 10000 (fC kf c) (fC kf c)=true:=by
 cases kf with
 | one=>simp[fC,Instr.sameBits]
 | ints =>
  have key:∀(l:List Int)(m:Nat),((VI l).zip (VI l)).all (λ(x,y)=>Instr.sameBits (m+1) x y)=true:=by
   intro l m
   induction l with
   | nil=>rfl
   | cons a l ih =>
    simp only[VI,o5,List.zip_cons_cons,qd0,gz];exact⟨by simp[Instr.sameBits],ih⟩
  simp only[fC,sD,Instr.sameBits];simp only[qj6,N9];exact key c 9998
theorem yx{k:TypeId}{kf:KF}{n:Nat}(h:jX P k=some (kf,n)) :
  (kf=.ints/\kJ P 8 k=some n/\jq P k=some true)\/(kf=.one/\kJ P 8 k=some n/\jq P k=some false/\n=1):=by
 unfold jX at h;split at h;rename_i h1 h2;simp only[bQ,gm]at h;obtain⟨rfl,rfl⟩:=h;exact .inl ⟨rfl,h1,h2⟩;rename_i h1 h2;split at h;rename_i hb;simp only[bQ,gm]at h;obtain⟨rfl,rfl⟩:=h;exact .inr ⟨rfl,h1,h2,kP hb⟩;cases h;cases h
theorem IY{k:TypeId}{kf:KF}{n:Nat}(h:jX P k=some (kf,n)):kf=.one->n=1:=by
 rintro rfl;rcases yx h with⟨e,_⟩|⟨_,_,_,h⟩
 cases e;exact h
theorem zwM{k:TypeId}{kf:KF}{n:Nat}(h:jX P k=some (kf,n)){xs ys:List Int}(hx:xs.length=n)(hy:ys.length=n) :
  (Op.equalIn 10000 k (fC kf xs) (fC kf ys)).run P w=.ok (decide (xs=ys)) w:=by
 rcases yx h with⟨rfl,h1,h2⟩|⟨rfl,h1,h2,_⟩
 exact IX (w:=w) 8 k n true h1 h2 9992 xs ys hx hy;exact IX (w:=w) 8 k n false h1 h2 9992 xs ys hx hy
theorem Pv{k:TypeId}{kf:KF}{n:Nat}(em:Bool)(h:jX P k=some (kf,n)){xs:List Int}(hx:xs.length=n) :
  (Instr.checkKey em 10000 k (fC kf xs)).run P w=.ok () w:=by
 rcases yx h with⟨rfl,h1,h2⟩|⟨rfl,h1,h2,_⟩
 exact vX (w:=w) 8 k n true em h1 h2 9992 xs hx;exact vX (w:=w) 8 k n false em h1 h2 9992 xs hx
theorem yz{kt n:Nat}{ag:KF}(h:jX P kt=some (ag,n)){c:List Int}(hc:c.length=n):∀(es:List MapEntry)(en:List (List Int×List Int))(i:Nat),
  es.map (·.key)=en.map (λx=>fC ag x.1)->(∀x∈en,x.1.length=n) ->
   ((Instr.findAsking kt (fC ag c) es i).run P w=.ok none w/\∀x∈en,x.1≠c) \/
   ∃(j:Nat)(e:MapEntry)(v:List Int),(Instr.findAsking kt (fC ag c) es i).run P w=.ok (some (i+j,e.val)) w/\es[j]? = some e/\en[j]? = some (c,v)
 | [],[],i,_,_=>.inl ⟨by simp[Instr.findAsking],by simp⟩
 | [],_::_,i,hk,_=>by simp at hk
 | _::_,[],i,hk,_=>by simp at hk
 | e::es,(k,v)::en,i,hk,hl=>by
  simp only[o5,Gu]at hk;have q:=zwM (w:=w) h hc (hl _ kQ);have q':(Op.equal kt (fC ag c) e.key).run P w=.ok (decide (c=k)) w:=by rw[hk.1];exact q
  by_cases hck:c=k;subst hck;refine .inr ⟨0,e,v,?_,rfl,rfl⟩;simp only[Instr.findAsking,Sem.run_bind,q',Result.andThen_ok,decide_true,OV,Sem.run_pure,qdW];rcases yz h hc es en (i+1) hk.2 (fun x hx=>hl x (jS _ hx))with⟨h1,h2⟩|⟨j,e',v',h1,h2,h3⟩
  refine .inl ⟨?_,fun x hx => ?_⟩;simp only [Instr.findAsking,Sem.run_bind,q',Result.andThen_ok,hck,Jt,qds,qd4];exact h1;rcases kF.1 hx with rfl|hx
  exact λe=>hck e.symm;exact h2 x hx;refine .inr ⟨j+1,e',v',?_,by simpa using h2,by simpa using h3⟩;simp only[Instr.findAsking,Sem.run_bind,q',Result.andThen_ok,hck,Jt,qds,qd4];rw[h1,show i+1+j=i+(j+1)by omega]
theorem run_findKey{kt n:Nat}{ag:KF}(h:jX P kt=some (ag,n)){c:List Int}(hc:c.length=n)(es:List MapEntry)(en:List (List Int×List Int))
    (hk : es.map (·.key) = en.map (fun x => fC ag x.1)) (hl : ∀ x ∈ en, x.1.length = n) :
      ((Instr.findKey kt (fC ag c) es).run P w=.ok none w/\∀x∈en,x.1≠c) \/
      ∃(j:Nat)(e:MapEntry)(v:List Int),(Instr.findKey kt (fC ag c) es).run P w=.ok (some (j,e.val)) w/\es[j]? = some e/\en[j]? = some (c,v):=by
  by_cases lM:ag=.one
  · subst lM;have hn:=IY h rfl;subst hn;have hu:P.underlying kt=some (.int .i64):=by
      obtain⟨h,hg⟩:kJ P 8 kt=some 1/\jq P kt=some false:=by
        rcases yx h with⟨e,_⟩|⟨_,h1,h2,_⟩
        cases e;exact⟨h1,h2⟩
      simp only[kJ]at h;split at h
      assumption
      rename_i hu;simp[jq,hu]at hg;rename_i hu;simp[jq,hu]at hg;cases h
    match c,hc with
    | [a],_ =>
      have Qv:∀x∈es,IsKey (.int .i64) x.key:=by
        intro x hx;have:x.key∈en.map (λx=>fC .one x.1):=hk▸xq.2 ⟨x,hx,rfl⟩;obtain⟨y,_,hy⟩:=xq.1 this;rw[<- hy];exact za8 _
      have hat:∀(j:Nat)(e:MapEntry),es[j]? = some e->∃k v,en[j]? = some ([k],v)/\e.key=.int .i64 k:=by
        intro j e he;have h1:(es.map (·.key))[j]? = some e.key:=by simp[he]
        rw[hk]at h1;simp only[dq4,Ye]at h1;obtain⟨⟨k,v⟩,h2,h3⟩:=h1;have hkl:=hl _ (Jr h2)
        match k,hkl with|[k0],_=>exact⟨k0,v,h2,h3.symm⟩
      simp only[fC,qjd];rcases findNow_spec (za8 a) es 0 Qv with⟨h1,h2⟩|⟨jj,e',h1,h2,h3⟩
      refine .inl ⟨by simp only [Instr.findKey,Sem.run_bind,run_underlying hu,Result.andThen_ok,h1,Sem.run_pure],fun x hx e => ?_⟩;obtain⟨j,hj⟩:=Yo hx;have hlen:es.length=en.length:=by have:=kz List.length hk;simpa using this
      have hjl:j<es.length:=by rw[hlen];exact(AL.1 hj).1
      obtain⟨k,v,h4,h5⟩:=hat j es[j] (Ae hjl);rw[hj]at h4;simp only[bQ]at h4;rw[h4]at e;simp only[Gu,qj9]at e;subst e;exact h2 es[j] (qde hjl) h5;obtain⟨k,v,h4,h5⟩:=hat jj e' h2;rw[h3]at h5;simp only[Value.int.injEq,true_and]at h5;subst h5;exact .inr ⟨jj,e',v,by simp only[Instr.findKey,Sem.run_bind,run_underlying hu,Result.andThen_ok,h1,Sem.run_pure,Oa],h2,h4⟩
  · have hg:jq P kt=some true:=by
      rcases yx h with⟨_,_,h2⟩|⟨e,_⟩
      exact h2;exact absurd e lM
    have hkv:∀c:List Int,∃l,fC ag c=.agg l:=λc=>by
      cases ag with|one=>exact absurd rfl lM|ints=>exact⟨_,rfl⟩
    match es,en,hk with
    | [],[],_ =>
      refine .inl ⟨?_,by simp⟩;obtain⟨x,hu⟩:∃x,P.underlying kt=some x:=by
        cases hu:P.underlying kt with|none=>simp[jq,hu]at hg|some x=>exact⟨x,rfl⟩
      simp only[Instr.findKey,Sem.run_bind,run_underlying hu,Result.andThen_ok,Instr.findNow,Sem.run_pure]
    | [],_::_,hk=>simp at hk
    | _::_,[],hk=>simp at hk
    | e::es,x::en,hk =>
      have hke:e.key=fC ag x.1:=by simp only[o5,Gu]at hk;exact hk.1
      have hf:(Instr.findKey kt (fC ag c) (e::es)).run P w=(Instr.findAsking kt (fC ag c) (e::es)).run P w:=by
        obtain⟨y,hu⟩:∃y,P.underlying kt=some y:=by
          cases hu:P.underlying kt with|none=>simp[jq,hu]at hg|some y=>exact⟨y,rfl⟩
        have hs:Instr.findNow y (fC ag c) (e::es) 0=none:=by
          obtain⟨l1,e1⟩:=hkv c;obtain⟨l2,e2⟩:=hkv x.1;simp only[Instr.findNow,hke,e1,e2];have:Instr.sameNow y (.agg l1) (.agg l2)=none:=by
            cases y<;>rfl
          rw[this]
        simp only[Instr.findKey,Sem.run_bind,run_underlying hu,Result.andThen_ok,hs]
      rw[hf];rcases yz (w:=w) h hc (e::es) (x::en) 0 hk hl with h1|⟨j,e',v,h1,h2,h3⟩
      exact .inl h1;exact .inr ⟨j,e',v,by rw[h1,Oa],h2,h3⟩
theorem Ky{c:List Int}:∀{en:List (List Int×List Int)},(∀x∈en,x.1≠c)→ny c en=none
  | [],_=>rfl
  | (k,v)::r,h=>by
    simp only[ny];rw[fF (h _ kQ)];exact Ky λx hx=>h x (jS _ hx)
theorem Kz {c v : List Int} : ∀ {en : List (List Int × List Int)} {j : Nat}, (en.map (·.1)).Nodup → en[j]? = some (c, v) → ny c en = some v
  | [],j,_,h=>by simp at h
  | (k,u)::r,j,hn,h=>by
    simp only[o5,qdq]at hn;simp only[ny];cases j with
    | zero=>simp at h;rw[eX h.1,h.2]
    | succ j =>
      simp only[Yn]at h;rw[fF (λe=>hn.1 (xq.2 ⟨_,Jr h,e.symm⟩))];exact Kz hn.2 h
end
end Go.Pm
namespace Go.Pm
variable [aH]
open Go.RowKit (Below)
section
variable{P:Program}{Γ:bI}{nt B:Nat}{w0:World}{h0:Fz}{g:Gh}{σ:St}{a:Act}{w:World}{r:Option Nat}{n i:Nat}{Q:Exit->Act->World->Prop}
theorem znf(k:Option IntKind)(x:Int):ja g (.p (zgy k x)) (cellV k x):=by
 cases k with|none=>exact .bool _|some k=>exact .int _ _
theorem zg0(o:Option (List Int)):∀(ks:List (Option IntKind))(i:Nat),RL (ja g) ((zwr o i ks).map .p) (qL o i ks)|[],_=>trivial|k::ks,i=>⟨znf k _,zg0 o ks (i+1)⟩
theorem zwN{xR:Bool}{ks:List (Option IntKind)}{o:Option (List Int)}{d:D1}(h:zgz xR ks o=some d):Ai g d (lQ xR ks o):=by
 have hr:=zg0 (g:=g) o ks 0;unfold zgz at h;cases xR with
 | true =>
  simp only[bQ]at h;rw[<- h];exact⟨_,rfl,hr⟩
 | false =>
  split at h;rename_i l e;cases e
  ·rename_i v _ e;simp only[bQ]at h;rw[<- h];rw[e]at hr;cases hc:qL o 0 ks with|nil=>rw[hc]at hr;exact hr.elim|cons x l=>rw[hc]at hr;simp only[lQ,hc,qjd];exact hr.1
  cases h
theorem U4{xR:Bool}{ks:List (Option IntKind)}{o:Option (List Int)}{d:D1}(h:zgz xR ks o=some d):dC d=[]:=by
 unfold zgz at h;split at h;simp only[bQ]at h;rw[<- h];exact nR _;simp only[bQ]at h;rw[<- h];rfl;cases h
def ztI(c:Cl)(acc:Option (List (Option IntKind))):Option (List (Option IntKind)):=match c,acc with|.p (.int k (.ofNat 0)),some l=>some (some k::l)|.p (.bool false),some l=>some (none::l)|_,_=>none
theorem A7:∀(vs:List Value)(cs:List Cl)(ks:List (Option IntKind))(i:Nat),jo vs=some cs→cs.foldr ztI (some [])=some ks→vs=qL none i ks
  | [],cs,ks,i,h1,h2=>by
    simp only[jo,bQ]at h1;subst h1;simp only[List.foldr_nil,bQ]at h2;subst h2;rfl
  | v::vs,cs,ks,i,h1,h2=>by
    simp only[jo]at h1;split at h1;rename_i x l hx hl;simp only[bQ]at h1;subst h1;rw[List.foldr_cons]at h2;unfold ztI at h2;split at h2;rename_i k l' e1 e2;simp only[bQ]at h2;subst h2;simp only[Cl.p.injEq]at e1;rw[A7 vs l l' (i+1) hl e2];have:v=.int k 0:=by
      rw[e1]at hx;unfold vP at hx;split at hx<;>simp at hx;obtain⟨rfl,rfl⟩:=hx;rfl
    rw[this];rfl;rename_i l' e1 e2;simp only[bQ]at h2;subst h2;simp only[Cl.p.injEq]at e1;rw[A7 vs l l' (i+1) hl e2];have:v=.bool false:=by
      rw[e1]at hx;unfold vP at hx;split at hx<;>simp at hx;subst hx;rfl
    rw[this];rfl;cases h2;cases h1
structure zng (P : Program) (kt vt : Nat) (ag : KF) (m : Nat) (xR : Bool) (ks : List (Option IntKind)) : Prop where
  key:jX P kt=some (ag,m)
  zero:∀w,(zeroValue vt).run P w=.ok (lQ xR ks none) w
  one:xR=false->ks.length=1
theorem U5{kt vt:Nat}{ag:KF}{m:Nat}{xR:Bool}{ks:List (Option IntKind)}(h:Jz P kt vt=some (ag,m,xR,ks)):zng P kt vt ag m xR ks:=by
 unfold Jz at h;split at h
 ·rename_i ag' m' ks' zFj h1 h3 h4;have zero:∀z,(P.info? vt).bind (·.zero)=some z->∀w,(zeroValue vt).run P w=.ok z w/\z.cells.toList=qL none 0 ks':=by
   intro z hz w;unfold zgx at h3;split at h3;rename_i zc hzc;obtain⟨i,v,hi,hv,ho,_⟩:=lJ hzc;rw[hi]at hz;simp only[qj7,hv,bQ]at hz;subst hz;exact⟨kT hi hv,A7 _ _ _ 0 ho h3⟩;cases h3
  cases hb:(zFj||Nat.beq ks'.length 1)with
  | false=>rw[hb]at h;cases h
  | true =>
   rw[hb]at h;cases hz:(P.info? vt).bind (·.zero)with
   | none=>rw[hz]at h;cases h
   | some z =>
    rw[hz]at h;cases zFj with
    | true =>
     cases z with
     | agg cs =>
      simp only[bQ,gm]at h;obtain⟨rfl,rfl,rfl,rfl⟩:=h;refine⟨h1,λw=>?_,λe=>by cases e⟩;obtain⟨r1,r2⟩:=zero _ hz w;rw[r1];simp only[Value.cells]at r2;simp only[lQ,<- r2]
     | _=>cases h
    | false =>
     have hlen:ks'.length=1:=by
      simp only[Bool.false_or]at hb;exact kP hb
     have fin:z.cells.toList=[z]->some (ag',m',false,ks')=some (ag,m,xR,ks)->zng P kt vt ag m xR ks:=by
      intro hcz h;simp only[bQ,gm]at h;obtain⟨rfl,rfl,rfl,rfl⟩:=h;refine⟨h1,λw=>?_,λ_=>hlen⟩;obtain⟨r1,r2⟩:=zero _ hz w;rw[r1];rw[hcz]at r2;simp only[lQ,<- r2,qjd]
     cases z with|agg cs=>cases h|_=>exact fin rfl h
 cases h
theorem zg1{ag:KF}{m:Nat}{d:DV}{c:List Int}{v:Value}(h:zmR ag m d=some c)(uw:ag=.one->m=1)(hv:qM g d v):v=fC ag c/\c.length=m:=by
 unfold zmR at h;split at h;rename_i cs;split at h;rename_i l hl;split at h;rename_i hb;simp only[bQ]at h;subst h;obtain⟨vs,rfl,hr⟩:=hv;exact⟨by rw[za9 hl hr];rfl,kP hb⟩;cases h;cases h;simp only [bQ]at h;subst h;cases hv;exact⟨rfl,(uw rfl).symm⟩;cases h
theorem IZ:∀(ks:List (Option IntKind))(cs:List Cl)(l:List Int)(vs:List Value)(pre:List Int),uC ks cs=some l→RL (ja g) cs vs→vs=qL (some (pre++l)) pre.length ks
  | [],[],l,[],pre,h,_=>rfl
  | [],[],_,_::_,_,_,hr=>hr.elim
  | [],_::_,l,vs,pre,h,_=>by simp[uC]at h
  | k::ks,[],l,vs,pre,h,_=>by cases k<;>simp[uC]at h
  | k::ks,c::cs,l,[],pre,h,hr=>hr.elim
  | k::ks,c::cs,l,v::vs,pre,h,hr=>by
    unfold uC at h;split at h;rename_i e1 e2;cases e1;rename_i k' ks' k2 x r e1 e2;simp only[Gu]at e1 e2;obtain⟨rfl,rfl⟩:=e1;obtain⟨rfl,rfl⟩:=e2;split at h;rename_i hkk;subst hkk;split at h;rename_i l' zK;simp only[bQ]at h;subst h;have ih:=IZ ks cs l' vs (pre++[x]) zK hr.2;have h1:=hr.1;cases h1;rw[show pre++[x]++l'=pre++x::l' by simp,show(pre++[x]).length=pre.length+1 by simp]at ih;rw[ih];simp[qL,cellV,xX];cases h;cases h;rename_i ks' b r e1 e2;simp only[Gu]at e1 e2;obtain⟨rfl,rfl⟩:=e1;obtain⟨rfl,rfl⟩:=e2;split at h;rename_i l' zK;simp only[bQ]at h;subst h;have h1:=hr.1;cases h1;have ih:∀y:Int,vs=qL (some (pre++y::l')) (pre.length+1) ks:=λy=>by
      have ih:=IZ ks cs l' vs (pre++[y]) zK hr.2;rw[show pre++[y]++l'=pre++y::l' by simp,show(pre++[y]).length=pre.length+1 by simp]at ih;exact ih
    rw[ih (match b with|true=>1|false=>0)];cases b<;>simp[qL,cellV,xX];cases h;cases h
theorem znh{xR:Bool}{ks:List (Option IntKind)}{dv:D1}{l:List Int}{v:Value}(h:uC ks dv.cells=some l)(uw:dv.isAgg=xR)(hv:Ai g dv v):v=lQ xR ks (some l):=by
 subst uw;cases dv with
 | c x =>
  have:=IZ (g:=g) ks [x] l [v] [] h ⟨hv,trivial⟩;simp only[OU,Uu]at this;simp only[D1.isAgg,lQ,<- this,qjd]
 | agg cs =>
  obtain⟨vs,rfl,hr⟩:=hv;have:=IZ (g:=g) ks cs l vs [] h hr;simp only[OU,Uu]at this;simp only[D1.isAgg,lQ,<- this]
theorem zbe {kt vt m : Nat} {ag : KF} {xR : Bool} {ks : List (Option IntKind)} (E : zng P kt vt ag m xR ks) {es : Array MapEntry} {en : List (List Int × List Int)} (hen : es.toList.map (fun e => (e.key, e.val)) = en.map (fun x => (fC ag x.1, lQ xR ks (some x.2))))
    (hl : ∀ x ∈ en, x.1.length = m) (hn : (en.map (·.1)).Nodup) {c : List Int} (hc : c.length = m) :
      ((Instr.findKey kt (fC ag c) es.toList).run P w=.ok none w/\ny c en=none/\∀x∈en,x.1≠c) \/
      ∃(j:Nat)(e:MapEntry)(v:List Int),(Instr.findKey kt (fC ag c) es.toList).run P w=.ok (some (j,lQ xR ks (some v))) w/\es[j]? = some e/\en[j]? = some (c,v)/\e.key=fC ag c/\ny c en=some v:=by
  have hk:es.toList.map (·.key)=en.map (λx=>fC ag x.1):=by
    have:=kz (List.map Prod.fst) hen;simpa [qdR,Function.comp_def]using this
  rcases run_findKey (w:=w) E.key hc es.toList en hk hl with⟨h1,h2⟩|⟨j,e,v,h1,h2,h3⟩
  exact .inl ⟨h1,Ky h2,h2⟩;have h4:(es.toList.map (fun e=>(e.key,e.val)))[j]? = some (e.key,e.val):=by simp [h2]
  rw[hen]at h4;simp only[dq4,h3,QA,bQ,gm]at h4;exact .inr ⟨j,e,v,by rw[h1,<- h4.2],by simpa using h2,h3,h4.1.symm,Kz hn h3⟩
theorem QS{kt vt:Nat}{q:MQ}(h:Jz P kt vt=some q):zng P kt vt q.1 q.2.1 q.2.2.1 q.2.2.2:=by
 obtain⟨ag,m,xR,ks⟩:=q;exact U5 h
def zbf(q:MQ)(ok:Bool)(o:Option (List Int)):Value :=
 match ok with|true=>.tuple #[lQ q.2.2.1 q.2.2.2 o,.bool o.isSome]|false=>lQ q.2.2.1 q.2.2.2 o
theorem YL{t kt vt b:Nat}{q:MQ}{ok:Bool}{F:List Int→Option (List Int)}{k:Nat}{es:Array MapEntry}{clock:Nat}(hu:P.underlying t=some (.map kt vt))(E0:Jz P kt vt=some q)
    (xE:w.heap[b]? = some (.map es clock)) (hm:moE q k F es clock) {c:List Int} (hc:c.length=q.2.1) :
    (Instr.lookup t (.map (some b)) (fC q.1 c) ok).run P w=.ok (zbf q ok (F c)) w:=by
  obtain⟨en,M⟩:=hm;have E:=QS E0;have hck:=Pv (P:=P) (w:=w) es.isEmpty E.key hc;rw[M.find c hc];rcases zbe (w:=w) E M.ents (λx hx=>(M.len x hx).1) M.nodup hc with⟨h1,h2,_⟩|⟨j,e,v,h1,_,_,_,h2⟩
  rw [h2];simp only[Instr.lookup,Sem.run_bind,run_underlying hu,Result.andThen_ok,MapKept.run_getObj_map xE,Sem.run_pure,hck,h1,E.zero w];cases ok<;>rfl;rw [h2];simp only[Instr.lookup,Sem.run_bind,run_underlying hu,Result.andThen_ok,MapKept.run_getObj_map xE,Sem.run_pure,hck,h1];cases ok<;>rfl
theorem zdI{o:Oper}{t:TypeId}{x y:Operand}{q:MQ}{ok:Bool}{A:aJ}{F:List Int→Option (List Int)}{fin:DV→aJ}{fp:List (Nat×Bool)}(S:bW P nt B w0 h0 g σ a w)(hd:dI nt o.dst=true)(bf:o.op = .lookup t x y ok)
    (hA:found q (fK σ.env y) ok F fin=A) (hs:A.safe) (lM:q.1=.one->q.2.1=1)
    (Ih:∀d,(fin d).safe->nP (fin d) i o.dst σ (σ.upd i o.dst fp d [] []))
    (df:∀c d,fin d=A->c.length=q.2.1->(Instr.lookup t (a.eval x) (fC q.1 c) ok).run P w=.ok (zbf q ok (F c)) w) :
    jf P nt B w0 h0 r n i o A σ a w Q:=by
  unfold found at hA;split at hA;rename_i c hc;obtain⟨Qs,Ad⟩:=zg1 hc lM (S.ev y);split at hA
  · rename_i d hdv;have hvd:=zwN (g:=g) hdv;have Aa:=U4 hdv;cases ok with
    | true =>
      have hr:=df c _ hA Ad;subst hA;refine dN S hd (by simp[bf]) (d:=.tup [d,.c (.p (.bool (F c).isSome))]) (v:=zbf q true (F c)) (fp:=fp) (Ih _ hs) ?_ ?_ ?_;simp only[execOp,bf,Qs,Sem.run_bind,hr,Result.andThen_ok,Sem.run_pure];exact⟨[_,_],rfl,hvd,.bool _,trivial⟩;intro M hM;rw[show cu (.tup [d,.c (.p (.bool (F c).isSome))])=dC d++([]++[])from rfl,Aa]at hM;simp at hM
    | false =>
      have hr:=df c _ hA Ad;subst hA;refine dN S hd (by simp[bf]) (d:=.one d) (v:=zbf q false (F c)) (fp:=fp) (Ih _ hs) ?_ hvd ?_;simp only[execOp,bf,Qs,Sem.run_bind,hr,Result.andThen_ok,Sem.run_pure];intro M hM;simp[cu,Aa]at hM
  subst hA;exact hs.elim;subst hA;exact hs.elim
theorem YM{o:Oper}{t:TypeId}{x y:Operand}{ok:Bool}{A:aJ}(S:bW P nt B w0 h0 g σ a w)(hd:dI nt o.dst=true)(bf:o.op = .lookup t x y ok)
    (hA:JA P t (fK σ.env x) (fK σ.env y) ok (lk σ.aB)=A) (hs:A.safe):jf P nt B w0 h0 r n i o A σ a w Q:=by
  unfold JA at hA;split at hA;rename_i kt vt L hu hx;split at hA;rename_i q kt' vt' q' k F hE hL;split at hA;rename_i dh;obtain⟨rfl,rfl,rfl⟩:=dh;have E:=QS hE;obtain⟨xH,_⟩:=iJ S hx;have xH:a.eval x=.map (some (oI (g.sv L))):=xH;obtain⟨es,clock,xE,_,hm⟩:=S.obj L _ hL;exact zdI (fp:=[(L,false)]) S hd bf hA hs (IY E.key) (λd _=>rfl) λc d _ hc=>by rw[xH];exact YL hu hE xE hm hc
  subst hA;exact hs.elim;subst hA;exact hs.elim;subst hA;exact hs.elim
theorem Px{c:List Int}(v:List Int):∀{en:List (List Int×List Int)},ny c en=none→∀c',ny c' (en++[(c,v)])=if c'=c then some v else ny c' en
  | [],_,c'=>by
    simp only[OU,ny];by_cases h:c=c';subst h;simp;rw[fF h,fF (λe=>h e.symm)]
  | (k,u)::r,hn,c'=>by
    simp only[ny]at hn;split at hn;cases hn;rename_i hkc;simp only[qdJ,ny];by_cases h:k=c';subst h;rw[eX rfl,eX rfl,fF hkc];rw [fF h,fF h];exact Px v hn c'
theorem Py {c v v' : List Int} : ∀ {en : List (List Int × List Int)} {j : Nat}, (en.map (·.1)).Nodup → en[j]? = some (c, v) → ∀ c', ny c' (en.set j (c, v')) = if c' = c then some v' else ny c' en
  | [],j,_,h,_=>by simp at h
  | (k,u)::r,j,hn,h,c'=>by
    simp only[o5,qdq]at hn;cases j with
    | zero =>
      simp only[qdy,bQ,gm]at h;obtain⟨rfl,rfl⟩:=h;simp only[List.set_cons_zero,ny];by_cases h:k=c';subst h;simp;rw[fF h,fF (λe=>h e.symm),fF h]
    | succ j =>
      simp only[Yn]at h;have hkc:k≠c:=λe=>hn.1 (xq.2 ⟨_,Jr h,e.symm⟩);simp only[List.set_cons_succ,ny];by_cases h2:k=c';subst h2;rw[eX rfl,eX rfl,fF hkc];rw [fF h2,fF h2];exact Py hn.2 h c'
theorem zbg(c v:List Int)(F:List Int->Option (List Int))(x:List Int):Cb c v F x=if x=c then some v else F x:=by
 unfold Cb;by_cases h:x=c<;>simp[h]
theorem Fb:∀{ks:List (Option IntKind)}{cs:List Cl}{l:List Int},uC ks cs=some l→l.length=ks.length
  | [],[],l,h=>by simp[uC]at h;subst h;rfl
  | [],_::_,l,h=>by simp[uC]at h
  | k::ks,[],l,h=>by cases k<;>simp[uC]at h
  | k::ks,c::cs,l,h=>by
    unfold uC at h;split at h;rename_i e1 e2;cases e1;rename_i k' ks' k2 x r e1 e2;simp only[Gu]at e1 e2;obtain⟨rfl,rfl⟩:=e1;obtain⟨rfl,rfl⟩:=e2;split at h;split at h;rename_i l' zK;simp only[bQ]at h;subst h;simp[Fb zK];cases h;cases h;rename_i ks' b r e1 e2;simp only[Gu]at e1 e2;obtain⟨rfl,rfl⟩:=e1;obtain⟨rfl,rfl⟩:=e2;split at h;rename_i l' zK;simp only[bQ]at h;subst h;simp[Fb zK];cases h;cases h
theorem zdJ{t kt vt b:Nat}{q:MQ}{F:List Int→Option (List Int)}{k:Nat}{es:Array MapEntry}{clock:Nat}(hu:P.underlying t=some (.map kt vt))(E0:Jz P kt vt=some q)
    (xE:w.heap[b]? = some (.map es clock)) (hm:moE q k F es clock) {c:List Int} (hc:c.length=q.2.1) (l:List Int) (hll:l.length=q.2.2.2.length) :
    ∃es' BU,(Instr.mapUpdate t (.map (some b)) (fC q.1 c) (lQ q.2.2.1 q.2.2.2 (some l))).run P w=.ok () {w with heap:=w.heap.setIfInBounds b (.map es' BU)}/\moE q (addN (F c) k) (Cb c l F) es' BU:=by
  obtain⟨ag,m,xR,ks⟩:=q;obtain⟨en,h1',h2',hen,hl,hn,hF,jH,hbo,hbn⟩:=hm;simp only at h1' h2' hen hl hn hF hc hll ⊢;have E:=U5 E0;have hck:=Pv (P:=P) (w:=w) false E.key hc;rcases zbe (w:=w) E hen (λx hx=>(hl x hx).1) hn hc with⟨h1,h2,h3⟩|⟨j,e,v,h1,h2,h3,h4,h5⟩
  refine⟨es.push {key:=fC ag c,val:=lQ xR ks (some l),born:=clock},clock+1,?_,en++[(c,l)],h1',h2',?_,?_,?_,?_,?_,?_,?_⟩;simp only[Instr.mapUpdate,Sem.run_bind,run_underlying hu,Result.andThen_ok,MapKept.run_getObj_map xE,hck,h1,MapKept.run_setObj_map _ xE];rw[qj0,Ud,hen,Ud];rfl;intro x hx;rcases dW.1 hx with hx|hx
  exact hl x hx;simp only[kY]at hx;subst hx;exact⟨hc,hll⟩;rw [Ud,qjC];refine⟨hn,by simp,λa ha b hb e=>?_⟩;simp only[o5,qdQ,kY]at hb;obtain⟨x,hx,hxa⟩:=xq.1 ha;exact h3 x hx (by rw[hxa,e,hb]);intro c' hc';rw[zbg,Px l h2,hF c' hc'];rw[hF c hc,h2,jH];simp[addN];intro x hx;rw[qj0]at hx;rcases dW.1 hx with hx|hx
  exact Nat.lt_succ_of_lt (hbo x hx);simp only[kY]at hx;subst hx;exact Nat.lt_succ_self _;rw [qj0,Ud,qjC];refine⟨hbn,by simp,λa ha b hb e=>?_⟩;simp only[o5,qdQ,kY]at hb;obtain⟨x,hx,hxa⟩:=xq.1 ha;have:=hbo x hx;omega;have zl2:(es.modify j λe=>{e with key:=fC ag c,val:=lQ xR ks (some l)}).toList=es.toList.set j {e with key:=fC ag c,val:=lQ xR ks (some l)}:=by
    rw[Array.toList_modify];have h2':es.toList[j]? = some e:=by simpa using h2
    obtain⟨hj,he⟩:=AL.1 h2';apply qdf;intro q;rw[List.getElem?_modify,qjB];by_cases hq:j=q;subst hq;rw[h2'];have oV:j<es.size:=by simpa using hj
    simp[oV];simp[hq]
  have zYI:es.toList.map (λe=>(e.key,e.val))=en.map (λx=>(fC ag x.1,lQ xR ks (some x.2))):=hen;refine⟨es.modify j λe=>{e with key:=fC ag c,val:=lQ xR ks (some l)},clock,?_,en.set j (c,l),h1',h2',?_,?_,?_,?_,?_,?_,?_⟩;have zY9:((es[j]?).map (·.key)).getD (fC ag c)=fC ag c:=by rw [h2];simp [h4]
  have Ih:(Instr.keyThatStays (fC ag c) (fC ag c)).run P w=.ok (fC ag c) w:=by
    simp[Instr.keyThatStays,YJ]
  simp only[Instr.mapUpdate,Sem.run_bind,run_underlying hu,Result.andThen_ok,MapKept.run_getObj_map xE,hck,h1,zY9,Ih,MapKept.run_setObj_map _ xE];rw[zl2,qj2,qj2,zYI];intro x hx;rcases qda hx with hx|rfl
  exact hl x hx;exact⟨hc,hll⟩;rw [qj2];rw[show(en.map (·.1)).set j c=en.map (·.1)from ?_];exact hn;have:(en.map (·.1))[j]? = some c:=by simp [h3]
  obtain⟨hj,he⟩:=AL.1 this;apply qdf;intro q;rw[qjB];by_cases hq:j=q;subst hq;rw[this];simp;simpa using hj;simp[hq];intro c' hc';rw[zbg,Py hn h3,hF c' hc'];rw[hF c hc,h5,List.length_set,jH];rfl;intro x hx;rw[zl2]at hx;rcases qda hx with hx|rfl
  exact hbo x hx;exact hbo e (Jr (by simpa using h2));rw [zl2,qj2];rw[show(es.toList.map (·.born)).set j e.born=es.toList.map (·.born)from ?_];exact hbn;have:(es.toList.map (·.born))[j]? = some e.born:=by simp [h2]
  obtain⟨hj,he⟩:=AL.1 this;apply qdf;intro q;rw[qjB];by_cases hq:j=q;subst hq;rw[this];simp;simpa using hj;simp[hq]
theorem zdK{o:Oper}{t:TypeId}{x y z:Operand}{A:aJ}(S:bW P nt B w0 h0 g σ a w)(hd:dI nt o.dst=true)(bf:o.op = .mapUpdate t x y z)
    (hA:UA P t (fK σ.env x) (fK σ.env y) (fK σ.env z) (lk σ.aB)=A) (hs:A.safe):jf P nt B w0 h0 r n i o A σ a w Q:=by
  unfold UA at hA;split at hA;rename_i kt vt L hu hx;split at hA;rename_i q kt' vt' q' k F hE hL;split at hA;rename_i c dv hc hz;split at hA;rename_i l hl;split at hA;rename_i dh;obtain⟨rfl,rfl,rfl,uw⟩:=dh;subst hA;have E:=QS hE;obtain⟨xH,_⟩:=iJ S hx;have xH:a.eval x=.map (some (oI (g.sv L))):=xH;obtain⟨Qs,Ad⟩:=zg1 hc (IY E.key) (S.ev y);have Gq:a.eval z=lQ q'.2.2.1 q'.2.2.2 (some l):=znh hl uw (by have:=S.ev z;rw[hz]at this;exact this);obtain⟨es,clock,xE,_,hm⟩:=S.obj L _ hL;obtain⟨es',BU,df,Ie⟩:=zdJ (P:=P) hu hE xE hm Ad l (Fb hl);have iw:=(Us.1 xE).1;have hB:=(S.own L _ (oI (g.sv L)) hL rfl).1;refine IV (by simp[bf]) (w':={w with heap:=w.heap.setIfInBounds (oI (g.sv L)) (.map es' BU)}) ?_ ⟨g,_,rfl,?_⟩;simp only[execOp,bf,xH,Qs,Gq,Sem.run_bind,df,Result.andThen_ok,Sem.run_pure];rw [fO];have qy:∀b,¬(oI (g.sv L)=b)->(w.heap.setIfInBounds (oI (g.sv L)) (Obj.map es' BU))[b]? = w.heap[b]?:=λb hb=>by rw[qdV,fF hb]
  have S' := S.write (o' := .mo kt' vt' q' (addN (F c) k) (Cb c l F)) (w' := { w with heap := w.heap.setIfInBounds (oI (g.sv L)) (.map es' BU) }) hL (fun b hb => hb)
    (CJ hB (by simp) (λq hq=>qy q λe=>hq e.symm) rfl rfl rfl rfl) (λb hb=>qy b hb)
    ⟨es',BU,by show(w.heap.setIfInBounds (oI (g.sv L)) _)[oI (g.sv L)]? = _;simp[iw],hE,Ie⟩ (λM hM=>by simp[dU]at hM)
  exact S'.put (d:=.junk) hd trivial (λM hM=>by simp[cu,dC,bu]at hM) _;subst hA;exact hs.elim;subst hA;exact hs.elim;subst hA;exact hs.elim;subst hA;exact hs.elim;subst hA;exact hs.elim
theorem bW.newMo(S:bW P nt B w0 h0 g σ a w){t kt vt:Nat}{q:MQ}(ht:lk σ.aB t=none)(hE:Jz P kt vt=some q) :
  bW P nt B w0 h0 (g.setSv t (.map (some w.heap.size))) {σ with aB:=(t,.mo kt vt q 0 (λ_=>none))::σ.aB} a (w.alloc (.map #[] 0)):=by
 have jb:∀L o,lk σ.aB L=some o->L≠t:=λL o h e=>by subst e;rw[ht]at h;cases h
 have fB:∀L o,lk σ.aB L=some o->iV g (g.setSv t (.map (some w.heap.size))) L:=λL o h=>⟨rfl,by simp[Gh.setSv,jb L o h],rfl⟩;have hold:∀b,b<w.heap.size->(w.alloc (.map #[] 0)).heap[b]? = w.heap[b]?:=λb hb=>heap_alloc_old w _ b hb;have jZ:∀L o,lk ((t,AO.mo kt vt q 0 (λ_=>none))::σ.aB) L=some o->(L=t/\o=.mo kt vt q 0 (λ_=>none))\/(L≠t/\lk σ.aB L=some o):=by
  intro L o h;rw[aW]at h;split at h;rename_i e;simp at h;exact .inl ⟨e.symm,h.symm⟩;rename_i e;exact .inr ⟨λe'=>e e'.symm,h⟩
 have iC:∀L o b,lk σ.aB L=some o->gQ (g.setSv t (.map (some w.heap.size))) L o b->gQ g L o b:=λL o b ho cO=>Eq.mp (qjT (gG (fB L o ho)) _) cO;refine S.change (g':=g.setSv t (.map (some w.heap.size))) fB (λ_ _ h=>h) ?_ (λb o h=>.inl h) (xx.of ⟨(Below.refl B w).alloc S.bs _,kw _⟩) ?_ ?_ ?_ ?_ ?_;exact S.hw.same λb o h=>hold b (uJ S.hw h);intro L o ho;rcases jZ L o ho with⟨rfl,rfl⟩|⟨_,ho⟩
 have E:=QS hE;exact⟨#[],0,by rw[show oI ((g.setSv L (.map (some w.heap.size))).sv L)=w.heap.size by simp[Gh.setSv,oI]];exact heap_alloc_new w _,hE,[],IY E.key,E.one,rfl,λx hx=>by simp at hx,qjx,λc _=>rfl,rfl,λe he=>by simp at he,by simp⟩;refine jM (S.obj L o ho) (fB L o ho) (fun M hM => ?_) (fun _ _ h=>h) (fun b cO=>hold b (iI (S.obj L o ho) cO));obtain⟨o',kH⟩:=S.clO L o ho M hM;exact fB M o' kH;intro L o b ho cO;rcases jZ L o ho with⟨rfl,rfl⟩|⟨_,ho⟩
 ·simp [gQ,Gh.setSv,oI]at cO;subst cO;refine⟨S.bs,?_⟩;cases hh:g.h w.heap.size with|none=>exact hh|some x=>exact absurd (uJ S.hw hh) omY
 exact S.own L o b ho (iC L o b ho cO);intro L o b L' o' ho kH cO iq;rcases jZ L o ho with⟨rfl,rfl⟩|⟨hn,oh⟩<;>rcases jZ L' o' kH with⟨rfl,rfl⟩|⟨hn',mY⟩
 rfl;simp [gQ,Gh.setSv,oI]at cO;subst cO;exact absurd (iI (S.obj L' o' mY) (iC _ _ _ mY iq)) omY;simp [gQ,Gh.setSv,oI]at iq;subst iq;exact absurd (iI (S.obj L o oh) (iC _ _ _ oh cO)) omY;exact S.sep L o b L' o' oh mY (iC _ _ _ oh cO) (iC _ _ _ mY iq);intro L o ho;refine⟨o,?_⟩;rw[aW,fF (λe=>jb L o ho e.symm)];exact ho;intro L o ho M hM;have fin:∀M o,lk σ.aB M=some o->∃o',lk ((t,AO.mo kt vt q 0 (λ_=>none))::σ.aB) M=some o':=λM o h=>⟨o,by rw[aW,fF (λe=>jb M o h e.symm)];exact h⟩;rcases jZ L o ho with⟨rfl,rfl⟩|⟨_,ho⟩
 simp[dU]at hM;obtain⟨o',kH⟩:=S.clO L o ho M hM;exact fin M o' kH
theorem YN{o:Oper}{t kt vt:TypeId}{q:MQ}{A:aJ}(S:bW P nt B w0 h0 g σ a w)(hd:dI nt o.dst=true)(bf:o.op = .makeMap t none)(hE:Jz P kt vt=some q)
    (hA:EU (lk σ.aB) o.dst (.mo kt vt q 0 (λ_=>none)) (λt=>.cl (.mo t))=A) (hs:A.safe):jf P nt B w0 h0 r n i o A σ a w Q:=by
  unfold EU at hA;split at hA;rename_i L hL;split at hA;rename_i jZ;subst hA;have S':=S.newMo (kt:=kt) (vt:=vt) jZ hE;refine o8 (by simp[bf]) (v:=.map (some w.heap.size)) (w':=w.alloc (.map #[] 0)) ?_ ⟨g.setSv L (.map (some w.heap.size)),_,rfl,?_⟩;simp[execOp,bf,Instr.makeMap];rw [fO];refine S'.put (σ:={σ with aB:=(L,AO.mo kt vt q 0 (λ_=>none))::σ.aB}) hd (d:=.cl (.mo L)) ?_ ?_ _;simp[qM,Ai,ja,Gh.setSv,oI];intro M hM;simp[cu,dC,bu]at hM;subst hM;exact⟨_,by rw[aW,eX rfl]⟩;subst hA;exact hs.elim;subst hA;exact hs.elim
end
end Go.Pm
namespace Go.Pm
variable [aH]
open Go.RowKit (Below)
section
variable{P:Program}{Γ:bI}{nt B:Nat}{w0:World}{h0:Fz}{g:Gh}{σ:St}{a:Act}{w:World}{r:Option Nat}{n i:Nat}{Q:Exit->Act->World->Prop}
theorem zg2{h:Fz}{n s l k:Nat}{get:Nat→List PV}{v:Value}(hr:Rep h (.sl n s get) v)(hl:l≤k)(hk:k≤n) :
  ∃a len cap,v=.slice a len cap/\len=n/\len<=cap/\Rep h (.sl (k-l) s (slG get l)) (sliced a l k cap s):=by
 have hu:tH get:=hr.un.rows.2;cases hr with
 | sl0=>exact⟨none,0,0,rfl,rfl,kw _,by
   obtain rfl:k=0:=by omega
   obtain rfl:l=0:=by omega
   exact .sl0 _ _ (vS hu _)⟩
 | sle _ _ a cap=>exact⟨some a,0,cap,rfl,rfl,AP _,by
   obtain rfl:k=0:=by omega
   obtain rfl:l=0:=by omega
   unfold sliced;split;exact .sle _ _ _ _ (vS hu _);exact .sle _ _ _ _ (vS hu _)⟩
 | sl _ _ _ _ b o cap C ty fr vs hb ku hlen hc hr =>
  refine⟨_,n,cap,rfl,rfl,ku,?_⟩;unfold sliced;by_cases hkl:k-l=0;rw [hkl];split;exact .sle _ _ _ _ (vS hu _);exact .sle _ _ _ _ (vS hu _);rw [fF omY];simp only[QA,addr_add];refine .sl (k-l) s (slG get l) (vS hu _) b (o+l*s) (cap-l) C ty fr (λi=>vs (i+l)) hb omY (λi hi=>hlen (i+l) omY) (λi j x hi hj=>?_) (λi j x hi hj=>hr (i+l) j x omY hj);have:=hc (i+l) j x omY hj;rw[Nat.add_mul]at this;rw[show o+l*s+i*s+j=o+(i*s+l*s)+j by omega];exact this
theorem U6(S:bW P nt B w0 h0 g σ a w){x:Option Operand}{j:Option Int}(h:ET (fK σ.env) x=some j):(j=none/\x.map a.eval=none)\/∃k q,j=some q/\x.map a.eval=some (.int k q):=by
 cases x with
 | none=>simp only[ET,bQ]at h;exact .inl ⟨h.symm,rfl⟩
 | some x =>
  simp only[ET]at h;split at h;rename_i k q hx;simp only[bQ]at h;exact .inr ⟨k,q,h.symm,by rw[QA,jW S hx]⟩;cases h
theorem zdL{o:Oper}{t:TypeId}{x:Operand}{lo hi:Option Operand}{A:aJ}(S:bW P nt B w0 h0 g σ a w)(hd:dI nt o.dst=true)(bf:o.op = .slice t x lo hi none)
    (hA:Ce P t (fK σ.env x) (ET (fK σ.env) lo) (ET (fK σ.env) hi)=A) (hs:A.safe):jf P nt B w0 h0 r n i o A σ a w Q:=by
  unfold Ce at hA;split at hA;rename_i e m s get lo' kX hu hx hlo hhi;split at hA;rename_i q hq;split at hA;rename_i hb;have hsq:=kP hb;subst hsq;subst hA;obtain⟨h1,h2,h3⟩:0<=lo'.getD 0/\lo'.getD 0<=kX.getD (m:Int)/\kX.getD (m:Int)<=(m:Int):=hs;have hv:=jv S hx;obtain⟨ad,len,cap,hav,hlen,ku,hr⟩:=zg2 (l:=(lo'.getD 0).toNat) (k:=(kX.getD (m:Int)).toNat) hv omY omY;subst hlen;have hue:P.underlying t=some (.slice (P.elem t)):=by simp[Program.elem,hu]
  have Gt:P.elem t=e:=by simp[Program.elem,hu]
  have jH:=run_sizeOf (w:=w) hq;have df:(Instr.slice t (a.eval x) (lo.map a.eval) (hi.map a.eval) none).run P w=.ok (sliced ad (lo'.getD 0).toNat (kX.getD (len:Int)).toNat cap s) w:=by
    rw[hav,run_slice_any w t ad len cap hue,Gt];have hb:(Instr.sliceBounds true len cap (lo.map a.eval) (hi.map a.eval) none).run P w=.ok ((lo'.getD 0).toNat,(kX.getD (len:Int)).toNat,cap) w:=by
      rcases U6 S hlo with⟨rfl,e1⟩|⟨k1,q1,rfl,e1⟩<;>rcases U6 S hhi with⟨rfl,e2⟩|⟨k2,q2,rfl,e2⟩<;>rw[e1,e2]<;>simp only[qdE,Option.getD_none]at h1 h2 h3 ⊢
      simp[Instr.sliceBounds];simp[Instr.sliceBounds,run_sliceBound w k2 q2 cap _ omY omY];simp[Instr.sliceBounds,run_sliceBound w k1 q1 len _ omY omY];simp[Instr.sliceBounds,run_sliceBound w k2 q2 cap _ omY omY,run_sliceBound w k1 q1 q2.toNat _ omY omY]
    rw[hb];simp only[Result.andThen_ok,jH]
  refine dN S hd (by simp[bf]) (d:=.p (.sl (kX.getD (len:Int)-lo'.getD 0).toNat s (slG get (lo'.getD 0).toNat))) (v:=sliced ad (lo'.getD 0).toNat (kX.getD (len:Int)).toNat cap s) (fp:=[]) rfl ?_ ?_ (kD _);simp[execOp,bf,Instr.sliceAt,run_underlying hu,df];rw [show(kX.getD (len:Int)-lo'.getD 0).toNat=(kX.getD (len:Int)).toNat-(lo'.getD 0).toNat by omega];exact hr;subst hA;exact hs.elim;subst hA;exact hs.elim;subst hA;exact hs.elim
end
end Go.Pm
namespace Go.Pm
variable [aH]
open Go.RowKit (Below)
section
variable{P:Program}{Γ:bI}{nt B:Nat}{w0:World}{h0:Fz}{g:Gh}{σ:St}{a:Act}{w:World}{r:Option Nat}{n i:Nat}{Q:Exit->Act->World->Prop}
theorem bW.newObj(S:bW P nt B w0 h0 g σ a w){t:Nat}{o:AO}{g':Gh}{w':World}(ht:lk σ.aB t=none)(hh:g'.h=g.h)(hs:∀M,M≠t→iV g g' M)
    (hb:JR B w w') (hold:∀b,b<w.heap.size->w'.heap[b]? = w.heap[b]?) (hv:∀b,gQ g' t o b->w.heap.size<=b) (Aa:dU o=[]) (hr:NU P g' w' B t o) :
    bW P nt B w0 h0 g' {σ with aB:=(t,o)::σ.aB} a w':=by
  have jb:∀L o,lk σ.aB L=some o->L≠t:=λL o h e=>by subst e;rw[ht]at h;cases h
  have fB:∀L o,lk σ.aB L=some o->iV g g' L:=λL o h=>hs L (jb L o h);have jZ:∀L x,lk ((t,o)::σ.aB) L=some x->(L=t/\x=o)\/(L≠t/\lk σ.aB L=some x):=by
    intro L x h;rw[aW]at h;split at h;rename_i e;simp at h;exact .inl ⟨e.symm,h.symm⟩;rename_i e;exact .inr ⟨λe'=>e e'.symm,h⟩
  have iC:∀L o b,lk σ.aB L=some o->gQ g' L o b->gQ g L o b:=λL o b ho cO=>Eq.mp (qjT (gG (fB L o ho)) _) cO;have hle:jP g.h g'.h:=by rw[hh];exact λ_ _ h=>h
  refine S.change (g':=g') fB hle ?_ (λb o h=>by rw[hh]at h;exact .inl h) (.of hb) ?_ ?_ ?_ ?_ ?_;rw[hh];exact S.hw.same λb o h=>hold b (uJ S.hw h);intro L x hx;rcases jZ L x hx with⟨rfl,rfl⟩|⟨_,hx⟩
  exact hr;refine jM (S.obj L x hx) (fB L x hx) (fun M hM => ?_) hle (fun b cO=>hold b (iI (S.obj L x hx) cO));obtain⟨o',kH⟩:=S.clO L x hx M hM;exact fB M o' kH;intro L x b' hx cO;rcases jZ L x hx with⟨rfl,rfl⟩|⟨_,hx⟩
  · have h1:=hv b' cO;refine⟨Gv S.bs h1,?_⟩;rw[hh];cases hq:g.h b' with|none=>rfl|some x=>exact absurd (uJ S.hw hq) omY
  rw[hh];exact S.own L x b' hx (iC L x b' hx cO);intro L x b' L' x' hx xW cO iq;rcases jZ L x hx with⟨rfl,rfl⟩|⟨hn,OM⟩<;>rcases jZ L' x' xW with⟨rfl,rfl⟩|⟨hn',YC⟩
  rfl;have:=hv b' cO;exact absurd (iI (S.obj L' x' YC) (iC _ _ _ YC iq)) omY;have:=hv b' iq;exact absurd (iI (S.obj L x OM) (iC _ _ _ OM cO)) omY;exact S.sep L x b' L' x' OM YC (iC _ _ _ OM cO) (iC _ _ _ YC iq);intro L o ho;refine⟨o,?_⟩;rw[aW,fF (λe=>jb L o ho e.symm)];exact ho;intro L x hx M hM;rcases jZ L x hx with⟨rfl,rfl⟩|⟨_,hx⟩
  rw[Aa]at hM;simp at hM;obtain⟨o',kH⟩:=S.clO L x hx M hM;exact⟨o',by rw[aW,fF (λe=>jb M o' kH e.symm)];exact kH⟩
theorem Pz{z:Array Value}{s m i:Nat}(hz:z.size=s)(hi:i<m):((madeCells z (m*s)).toList.drop (i*s)).take s=z.toList:=by
 have hii:i*s+s<=m*s:=by have:=Qz s (qdl hi);rw[Uf]at this;exact this
 apply qdf;intro j;rw[IL];split;rename_i hj;rw[qdg];have:(madeCells z (m*s)).toList[i*s+j]? = some z[(i*s+j)%z.size]!:=by
  simp only[madeCells,qjl,dq4];rw[Array.toList_range,qd8 omY];rfl
 rw[this,hz,qdD i s,jqb,qj8 hj];have oV:j<z.size:=by omega
 simp[oV];rename_i hj;rw[qdh (by simp;omega)]
theorem Oj{o:Oper}{t:TypeId}{x y:Operand}{A:aJ}(S:bW P nt B w0 h0 g σ a w)(hd:dI nt o.dst=true)(bf:o.op = .makeSlice t x y)
    (hA:rZ P Γ t (fK σ.env x) (fK σ.env y) o.dst (lk σ.aB)=A) (hs:A.safe):jf P nt B w0 h0 r n i o A σ a w Q:=by
  unfold rZ at hA;split at hA
  · rename_i e k1 j k2 j2 dst hu hx hy Gp;split at hA
    · rename_i ie z hi hz gV;obtain⟨i',zv,hi2,Gq,hov,hlen⟩:=lJ hz;rw[hi] at hi2;simp only[bQ] at hi2;subst hi2;have zZ:zv.cells.size=ie.size:=by have:=(kG (g:=g) _ _ hov).length;simp at this;omega
      have xH:=jW S hx;have Qs:=jW S hy
      have made:∀(hs:0<=j/\j=j2/\j<=1000000)(zg:ie.bytes<=1000000),∃w',(execOp a.eval o).run P w=.ok (.value (.slice (some ⟨w.heap.size,0,none⟩) j.toNat j.toNat)) w' /\
          w'.ownsRow B e ie.size (.slice (some ⟨w.heap.size,0,none⟩) j.toNat j.toNat) j.toNat (madeCells zv.cells (j.toNat*ie.size)).toList/\JR B w w'/\∀b,b<w.heap.size->w'.heap[b]? = w.heap[b]?:=by
        intro hs zg;obtain⟨h0,rfl,h1⟩:=hs;have hj:j=((j.toNat:Nat):Int):=by omega
        have hmul:ie.bytes*j.toNat<=281474976710656:=Gv (jqk zg (show j.toNat<=1000000 by omega)) (by decide);obtain⟨w',hr,iZ,hg⟩:=run_make_full (P:=P) w B t e ie zv ie.size hu hi Gq rfl k1 k2 j.toNat hmul (by simp only[maxLen];omega) S.bs;refine⟨w',?_,iZ,⟨⟨hg.os,hg.tape,hg.output,hg.size,λk hk=>hg.block k (qdt hk S.bs) (by simp)⟩,JP (gI _ _ _ _ hr)⟩,λb hb=>hg.block b hb (by simp)⟩;rw[<- hj]at hr;simp only[execOp,bf,xH,Qs,Sem.run_bind,hr,Result.andThen_ok,Sem.run_pure]
      split at hA
      · split at hA
        · rename_i e2 hue;split at hA
          · rename_i i2 z2 zFk zLI dh;simp only[gz,Ug] at dh;have hs1:=kP dh.1;split at hA
            · rename_i l2 hl2 Ur;have zg3:0 < i2.size:=qjD (qdK Ur);subst hA;obtain⟨w',df,iZ,rG,hold⟩:=made hs dh.2;obtain⟨i3,zv2,hi3,zPz,zPA,z1Z⟩:=lJ zLI;rw[zFk] at hi3;simp only[bQ] at hi3;subst hi3;have zwP:zv2.cells.size=i2.size:=by have:=(kG (g:=g) _ _ zPA).length;simp at this;omega
              have lW:(g.setVv dst (.slice (some ⟨w.heap.size,0,none⟩) j.toNat j.toNat) (λ_=>.slice none 0 0)).sv dst=.slice (some ⟨w.heap.size,0,none⟩) j.toNat j.toNat:=by simp[Gh.setVv]
              have hiv:(g.setVv dst (.slice (some ⟨w.heap.size,0,none⟩) j.toNat j.toNat) (λ_=>.slice none 0 0)).iv dst=λ_=>.slice none 0 0:=by simp[Gh.setVv]
              have hz1:zv.cells.toList=[.slice none 0 0]:=by
                match hl:zv.cells.toList,hov with
                | [],h=>simp[jo]at h
                | [v],h =>
                  simp only[jo]at h;split at h;rename_i x' l' h1 h2;simp only[bQ]at h2;subst h2;simp only[bQ,Gu,Cl.p.injEq,qj9]at h;subst h;unfold vP at h1;split at h1<;>simp at h1;rfl;cases h
                | v::u::l,h =>
                  simp only[jo]at h;split at h;rename_i x' l' h1 h2;simp only[bQ,Gu]at h;obtain⟨_,rfl⟩:=h;split at h2;simp at h2;cases h2;cases h
              have S2 := S.newObj (t := dst) (o := .vv e ie.bytes e2 i2.size i2.bytes j.toNat (fun _ => 0) (fun _ _ => l2)) (g' := g.setVv dst (.slice (some ⟨w.heap.size, 0, none⟩) j.toNat j.toNat) (fun _ => .slice none 0 0)) (w' := w')
                gV rfl (λM hM=>⟨rfl,by simp[Gh.setVv,hM],by simp[Gh.setVv,hM]⟩) rG hold (λb hb=>by
                  rcases hb with hb|⟨i,_,hb⟩
                  rw[lW]at hb;simp only[Value.ownBlock,bQ]at hb;omega;rw[hiv]at hb;cases hb) rfl (by
                refine⟨⟨λ_ _ _ _=>IR zLI hl2,zg3⟩,⟨ie,zv,hi,hs1,rfl,Gq,by rw[zZ,hs1]⟩,⟨i2,zv2,zFk,rfl,rfl,zPz,zwP⟩,?_,λi kX=>?_,λi k _ h=>?_⟩
                rotate_left
                rw[hiv];exact⟨rfl,λ_=>rfl,[],World.ownsRow_nil _ _ _ _,λ_ h=>absurd h (Ut _)⟩;rw[hiv]at h;cases h;rw[lW,hiv];rw[hs1]at iZ;have:(madeCells zv.cells (j.toNat*1)).toList=(List.range j.toNat).map λ_=>Value.slice none 0 0:=by
                  apply qdf;intro q;by_cases hq:q<j.toNat;have h1:=Pz (z:=zv.cells) (s:=1) (by rw [zZ,hs1]) hq;have h2:=kz (λl=>l[0]?) h1;simp only[IL,qdg]at h2;rw[eX (by decide)]at h2;simp only[Nat.mul_one,qdW]at h2;rw[Nat.mul_one,h2,hz1];simp[hq];rw[qdh (by simp[madeCells];omega),qdh (by simp;omega)]
                rw[this]at iZ;exact iZ)
              refine o8 (by simp[bf]) df ⟨g.setVv dst (.slice (some ⟨w.heap.size,0,none⟩) j.toNat j.toNat) (λ_=>.slice none 0 0),_,rfl,?_⟩;rw[fO];refine S2.put (v:=.slice (some ⟨w.heap.size,0,none⟩) j.toNat j.toNat) hd (d:=.cl (.vec dst)) ⟨lW.symm,rfl⟩ ?_ _;intro M hM;simp[cu,dC,bu]at hM;subst hM;exact⟨_,by rw[aW,eX rfl]⟩
            subst hA;exact hs.elim
          subst hA;exact hs.elim
        subst hA;exact hs.elim
      split at hA;rename_i l hl;split at hA;rename_i dh;simp only[gz,Ug]at dh;subst hA;obtain⟨w',df,iZ,rG,hold⟩:=made hs dh.2;have lW:(g.setSv dst (.slice (some ⟨w.heap.size,0,none⟩) j.toNat j.toNat)).sv dst=.slice (some ⟨w.heap.size,0,none⟩) j.toNat j.toNat:=by simp[Gh.setSv]
      have nH:=kG (g:=g) _ _ hov;rw[nS hl]at nH;have nH:=RL.map_left.1 nH
      have S2 := S.newVec (t := dst) (w' := w') (e := e) (s := ie.size) (b := ie.bytes) (n := j.toNat) (get := fun _ => zO P e l) (v := .slice (some ⟨w.heap.size, 0, none⟩) j.toNat j.toNat) gV rG hold
        (λb hb=>by simp[Value.ownBlock]at hb;omega) ⟨⟨JH (yg (uF nH)),omY⟩,⟨ie,zv,hi,rfl,rfl,Gq,zZ⟩,_,by rw[lW];exact iZ,λi kX=>by rw[Pz zZ kX];exact uF nH⟩
      refine o8 (by simp[bf]) df ⟨g.setSv dst (.slice (some ⟨w.heap.size,0,none⟩) j.toNat j.toNat),_,rfl,?_⟩;rw[fO];refine S2.put (v:=.slice (some ⟨w.heap.size,0,none⟩) j.toNat j.toNat) hd (d:=.cl (.vec dst)) ⟨lW.symm,rfl⟩ ?_ _;intro M hM;simp[cu,dC,bu]at hM;subst hM;exact⟨_,by rw[aW,eX rfl]⟩;subst hA;exact hs.elim;subst hA;exact hs.elim
    subst hA;exact hs.elim
  subst hA;exact hs.elim
end
end Go.Pm
namespace Go.Pm
variable [aH]
open Go.RowKit (Below)
section
variable{P:Program}{Γ:bI}{nt B:Nat}{w0:World}{h0:Fz}{g:Gh}{σ:St}{a:Act}{w:World}{r:Option Nat}{n i:Nat}{Q:Exit->Act->World->Prop}
theorem KA{h:Fz}{x:PA}{v:Value}(hx:nN h x v):Ai ⟨h,g.bk,g.sv,g.iv⟩ (IM x) v:=by
 cases x with
 | one p=>exact hx
 | agg cs =>
  obtain⟨vs,rfl,hr⟩:=hx;exact⟨vs,rfl,RL.map_left.2 hr⟩
theorem QT{h:Fz}{rs:List PA}{v:Value}(hr:qg h rs v):qM ⟨h,g.bk,g.sv,g.iv⟩ (resD rs) v:=by
 have tup:∀l:List PA,(∃vs:List Value,v=.tuple vs.toArray/\RL (nN h) l vs)->qM ⟨h,g.bk,g.sv,g.iv⟩ (.tup (l.map IM)) v:=by
  rintro l ⟨vs,hv,hr2⟩;exact⟨vs,hv,RL.map_left.2 (RL.mono hr2 λ_ _ h=>KA h)⟩
 match rs,hr with|[],hr=>exact tup _ hr|[x],hr=>exact KA hr|x::y::l,hr=>exact tup _ hr
theorem vY(x:PA):dC (IM x)=[]:=by
 cases x with|one p=>rfl|agg cs=>exact nR cs
theorem CQ(rs:List PA):cu (resD rs)=[]:=by
 have tup:∀l:List PA,cu (.tup (l.map IM))=[]:=by
  intro l
  induction l with|nil=>rfl|cons x l ih=>simp only[o5,cu,oD,vY,OU]at ih ⊢;exact ih
 match rs with|[]=>exact tup _|[x]=>exact vY x|x::y::l=>exact tup _
theorem ed{f:FuncId}{args:Array Value}(h:dm P f):(callFunc f args).run P w=.ok (.enter f args) w:=by
 obtain⟨fn,h1,h2,h3⟩:=h;have h2':fn.body.isNone=false:=by simpa using h2
 simp only[callFunc,Sem.run_bind,run_program,Result.andThen_ok,h1,h3,h2',qds,qd4,Sem.run_pure]
theorem CS(S:bW P nt B w0 h0 g σ a w):∀(l:List Operand),RL (qM g) (l.map (fK σ.env)) (l.map a.eval)|[]=>trivial|x::r=>⟨S.ev x,CS S r⟩
theorem YP{h:Fz}{l:List PV}{vs:List Value}(hr:RL (Rep h) l vs):RL (nN h) (l.map .one) vs:=RL.map_left.2 hr
theorem KC{h:Fz}{l:List PV}{vs:List Value}(h1:l.length=vs.length)(h2:∀(j:Nat)(x:PV)(v:Value),l[j]? = some x->vs[j]? = some v->Rep h x v):RL (Rep h) l vs:=RL.of_get h1 h2
theorem bW.swap(S:bW P nt B w0 h0 g σ a w){u:List (Nat×AO)}{kl K:List Nat}{g':Gh}{w':World}(hle:jP g.h g'.h)(Jp:Hw g'.h w')(sV:∀M,g'.bk M=g.bk M)(hs:∀M,M∉kl→iV g g' M)
    (hkl:∀L∈kl,lk u L≠none) (hX:YA g.h K w w') (hK:∀b∈K,∃L o o',lk u L=some o/\lk σ.aB L=some o'/\gQ g L o' b)
    (hv:∀L o,lk u L=some o->NU P g' w' B L o) (cO:∀L o b,lk u L=some o->gQ g' L o b->(b∈K\/w.heap.size<=b)/\g'.h b=none)
    (IK:∀L o b L' o',lk u L=some o->lk u L'=some o'->gQ g' L o b->gQ g' L' o' b->L=L')
    (Aa:∀L o,lk u L=some o->∀M∈dU o,∃o',lk σ.aB M=some o') (hnK:∀b o,g'.h b=some o->g.h b=some o\/w.heap.size<=b\/b∈K) (log:List (Nat×Nat×Nat)) :
    bW P nt B w0 h0 g' ⟨kills (gB kl) σ.env,u++kills (eY kl) σ.aB,log⟩ a w':=by
  have jZ:∀M x,lk (u++kills (eY kl) σ.aB) M=some x->lk u M=some x\/(lk u M=none/\M∉kl/\∃o,lk σ.aB M=some o/\x=eY kl o):=by
    intro M x h;rw[gU]at h;cases hM:lk u M with
    | some y=>rw[hM]at h;exact .inl h
    | none =>
      rw[hM]at h;simp only[]at h;rw[oJ]at h;obtain⟨o,ho,rfl⟩:=Ye.1 h;exact .inr ⟨rfl,λhk=>hkl M hk hM,o,ho,rfl⟩
  have xP:∀M o,lk σ.aB M=some o->∃x,lk (u++kills (eY kl) σ.aB) M=some x:=by
    intro M o h;rw[gU];cases lk u M with|some y=>exact⟨y,rfl⟩|none=>simp only[];rw[oJ,h];exact⟨_,rfl⟩
  have Kt:∀M o,M∉kl->gQ g' M (eY kl o)=gQ g M o:=by
    intro M o jb;have:=hs M jb;funext k;cases o<;>simp[eY,gQ,this.1,this.2.1,this.2.2]
  have hKB:∀b∈K,B<=b/\g.h b=none:=λb hb=>by
    obtain⟨L,_,o',_,h2,h3⟩:=hK b hb;exact S.own L o' b h2 h3
  have EJ:∀M o k,lk u M=none->lk σ.aB M=some o->gQ g M o k->k∉K:=λM o k h1 h2 h3 hk=>by
    obtain⟨L,x,o',h4,h5,h6⟩:=hK k hk;rw[S.sep M o k L o' h2 h5 h3 h6,h4]at h1;cases h1
  have hold:∀M o k,lk u M=none->lk σ.aB M=some o->gQ g M o k->w'.heap[k]? = w.heap[k]?:=λM o k h1 h2 h3 =>
    hX.block k (iI (S.obj M o h2) h3) (EJ M o k h1 h2 h3)
  refine⟨S.dfr.mono hle,S.size,?_,?_,?_,?_,Jp,λb o h=>hle _ _ (S.le0 b o h),?_,S.below.trans ⟨hX.os,hX.tape,hX.output,hX.size,hX.drawn,λk hk=>hX.block k (qdt hk S.bs) (λhkK=>by have:=(hKB k hkK).1;omega)⟩,Gv S.bs hX.size,?_,?_⟩;intro t d ht;rw[oJ]at ht;obtain⟨d',fZ,rfl⟩:=Ye.1 ht;exact zbc hle sV hs (S.env t d' fZ);intro M x hx;rcases jZ M x hx with hx|⟨hn,jb,o,ho,rfl⟩
  exact hv M x hx
  · have Ya:∀k,gQ g M o k→w'.heap[k]? = w.heap[k]? := fun k hk=>hold M o k hn ho hk;have hr:=S.obj M o ho;have hsM:=hs M jb;cases o with
    | box ty cs =>
      obtain⟨C,hC,hr⟩:=hr;exact⟨C,by rw[sV M,Ya _ rfl];exact hC,CO hle sV hs hr⟩
    | _=>exact jM (o:=eY kl _) hr hsM (λL hL=>by simp[dU,eY]at hL) hle Ya
  intro M x k hx hk;rcases jZ M x hx with hx|⟨hn,jb,o,ho,rfl⟩
  obtain⟨h1,h2⟩:=cO M x k hx hk;exact⟨h1.elim (λh=>(hKB k h).1) (λh=>Gv S.bs h),h2⟩
  · rw [Kt M o jb]at hk;obtain⟨h1,h2⟩:=S.own M o k ho hk;refine⟨h1,?_⟩;cases hh:g'.h k with
    | none=>rfl
    | some y =>
      rcases hnK k y hh with h3|h3|h3
      rw[h2]at h3;cases h3;exact absurd (iI (S.obj M o ho) hk) omY;exact(EJ M o k hn ho hk h3).elim
  intro M x k M' x' hx xW hk jD;have Qu:∀M o L y,lk u M=none->lk σ.aB M=some o->gQ g M o k->lk u L=some y->gQ g' L y k->False:=by
    intro M o L y hn ho hk hy jD;rcases(cO L y k hy jD).1 with h|h
    exact EJ M o k hn ho hk h;exact absurd (iI (S.obj M o ho) hk) omY
  rcases jZ M x hx with hx|⟨hn,jb,o,ho,rfl⟩<;>rcases jZ M' x' xW with xW|⟨hn',zf2,o2,oh,rfl⟩
  exact IK M x k M' x' hx xW hk jD;rw [Kt M' o2 zf2]at jD;exact(Qu M' o2 M x hn' oh jD hx hk).elim;rw [Kt M o jb]at hk;exact(Qu M o M' x' hn ho hk xW jD).elim;rw [Kt M o jb]at hk;rw [Kt M' o2 zf2]at jD;exact S.sep M o k M' o2 ho oh hk jD;intro b o h;rcases hnK b o h with h|h|h
  exact S.hn b o h;exact .inr (Gv S.bs h);exact .inr (hKB b h).1;intro t d ht M hM;rw[oJ]at ht;obtain⟨d',fZ,rfl⟩:=Ye.1 ht;obtain⟨o,ho⟩:=S.clE t d' fZ M (Pn M hM);exact xP M o ho;intro M x hx N hN;rcases jZ M x hx with hx|⟨hn,jb,o,ho,rfl⟩
  obtain⟨o',kH⟩:=Aa M x hx N hN;exact xP N o' kH;obtain⟨o2,oh⟩:=S.clO M o ho N (Po N hN);exact xP N o2 oh
theorem bW.frozen0(S:bW P nt B w0 h0 g σ a w):fG g (lk σ.aB) [] g.h :=
 ⟨λ_ _ h=>h,λ_ _ _ _ _ _ _ h=>by simp at h,λL s n get h=>(S.obj L _ h).1,λ_ _ _ _ _ _ _ _ _ _ h=>by simp at h,
  λ_ _ _ _ _ _ _ _ h=>by simp at h,λL l h=>S.obj L _ h,λb hb o ho=>by rw[hb]at ho;cases ho⟩
def kO(g:Gh)(L:Nat):AO→List Nat|.box _ _=>[g.bk L]|.vec _ _ _ _ _=>(g.sv L).ownBlock.toList|.mo _ _ _ _ _=>[oI (g.sv L)]|_=>[]
theorem QU{L:Nat}{o:AO}{b:Nat}(h:b∈kO g L o):gQ g L o b:=by
 cases o with|box ty cs=>simp only[kO,kY]at h;exact h.symm|vec e s b' n get=>simpa [kO,gQ]using h|mo kt vt q n F=>simp only[kO,kY]at h;exact h.symm|_=>simp[kO]at h
theorem zg4(L:Nat)(o:AO):(kO g L o).Nodup:=by
 cases o with|vec e s b' n get=>simp only[kO];cases(g.sv L).ownBlock<;>simp|_=>simp[kO]
def U7:AO→Prop|.box _ _=>True|.vec _ _ _ _ _=>True|.mo _ _ _ _ _=>True|_=>False
theorem Fe{L:Nat}{o:AO}{b:Nat}(ho:U7 o)(h:gQ g L o b):b∈kO g L o:=by
 cases o with|box ty cs=>simp only[kO,kY];exact h.symm|vec e s b' n get=>simpa [kO,gQ]using h|mo kt vt q n F=>simp only[kO,kY];exact h.symm|_=>exact ho.elim
def kB(g:Gh)(ob:Nat->Option AO)(L:Nat):List Nat:=match ob L with|some o=>kO g L o|none=>[]
theorem KD{α:Type}{f:α→List Nat}:∀{l:List α},l.Nodup→(∀x∈l,(f x).Nodup)→(∀x y b,x∈l→y∈l→b∈f x→b∈f y→x=y)→(l.flatMap f).Nodup
  | [],_,_,_=>by simp
  | x::l,hn,h1,h2=>by
    rw[oD,qjC];obtain⟨hx,hl⟩:=qdq.1 hn;refine⟨h1 x kQ,KD hl (λy hy=>h1 y (jS _ hy)) (λy z b hy hz=>h2 y z b (jS _ hy) (jS _ hz)),?_⟩;intro b hb c hc e;subst e;obtain⟨y,hy,hby⟩:=lD.1 hc;exact hx (by rw[h2 x y b kQ (jS _ hy) hb hby];exact hy)
theorem Ff{α:Type}{f:α→List Nat}:∀{l:List α},(l.flatMap f).Nodup→∀x y b,x∈l→y∈l→b∈f x→b∈f y→x=y
  | [],_,_,_,_,hx,_,_,_=>by simp at hx
  | z::l,hn,x,y,b,hx,hy,h1,h2=>by
    rw[oD,qjC]at hn;obtain⟨_,hl,hd⟩:=hn;rcases kF.1 hx with ex|xW<;>rcases kF.1 hy with ey|hy'
    rw[ex,ey];rw[ex]at h1;exact(hd b h1 b (lD.2 ⟨y,hy',h2⟩) rfl).elim;rw[ey]at h2;exact(hd b h2 b (lD.2 ⟨x,xW,h1⟩) rfl).elim;exact Ff hl x y b xW hy' h1 h2
theorem mi:∀{l:List Nat},lY l=true→l.Nodup
  | [],_=>qjx
  | x::l,h=>by
    simp only[lY,gz,N8]at h;exact qdq.2 ⟨by simpa using h.1,mi h.2⟩
def YQ [dD](g:Gh)(sf:kR):Prop:=∀f np ls,sf=some (f,np,ls)->dD.f=f/\dD.np=np/\dD.bs=ls.map g.bk
theorem zbh:∀{caps:List sZ}{ls:List Nat}{cv:List Value},JF caps ls=true→RL (Ir g) caps cv→cv=(ls.map g.bk).map xJ
  | [],[],[],_,_=>rfl
  | [],[],_::_,_,h=>h.elim
  | [],_::_,_,h,_=>by cases h
  | .v _::_,[],_,h,_=>by cases h
  | .v _::_,_::_,_,h,_=>by cases h
  | .b _::_,[],_,h,_=>by cases h
  | .b _::_,_::_,[],_,h=>h.elim
  | .b L::caps,M::ls,v::cv,h,hr=>by
    simp only[JF,gz]at h;have e:=kP h.1;subst e;rw[o5,o5,<- zbh h.2 hr.2];have:=hr.1;simp only[Ir]at this;rw[this];rfl
theorem U8:∀{caps:List sZ}{ls:List Nat},JF caps ls=true→RL (Ir g) caps ((ls.map g.bk).map xJ)
  | [],[],_=>trivial
  | [],_::_,h=>by cases h
  | .v _::_,[],h=>by cases h
  | .v _::_,_::_,h=>by cases h
  | .b _::_,[],h=>by cases h
  | .b L::caps,M::ls,h=>by
    simp only[JF,gz]at h;have e:=kP h.1;subst e;exact⟨rfl,U8 h.2⟩
theorem U9{sf:kR}{f:FuncId}{caps:List sZ}{x:XC}(h:zww sf f caps=some x):∃np ls,sf=some (f,np,ls)/\JF caps ls=true/\x=.slf f np ls.length:=by
 unfold zww at h;split at h;rename_i f' np ls;split at h;rename_i hc;simp only[gz]at hc;have e:=kP hc.1;subst e;simp only[bQ]at h;exact⟨np,ls,rfl,hc.2,h.symm⟩;cases h;cases h
theorem zbi [dD]{sf:kR}(Uc:YQ g sf)(S:bW P nt B w0 h0 g σ a w):∀{cells:List Cl}{cs:List XC}{ms:List Nat}{vs:List Value},iO sf (lk σ.aB) cells=some (cs,ms)->RL (ja g) cells vs ->
  RL (xcR P g.h w B) cs vs/\uH cs vs=ms.flatMap (kB g (lk σ.aB))/\∀M∈ms,∃o,lk σ.aB M=some o/\U7 o
 | [],cs,ms,[],h,_=>by
  simp only[iO,bQ,gm]at h;obtain⟨rfl,rfl⟩:=h;exact⟨trivial,rfl,λM hM=>by simp at hM⟩
 | [],_,_,_::_,_,hr=>hr.elim
 | _::_,_,_,[],_,hr=>hr.elim
 | c::cells,cs,ms,v::vs,h,hr=>by
  simp only[iO]at h;split at h;rename_i l ms' h1;obtain⟨i1,i2,i3⟩:=zbi Uc S h1 hr.2;split at h;rename_i p;simp only[bQ,gm]at h;obtain⟨rfl,rfl⟩:=h;exact⟨⟨hr.1,i1⟩,by simp only[uH,xcK,OU];exact i2,i3⟩;rename_i M;split at h;rename_i e s b n get hM;simp only[bQ,gm]at h;obtain⟨rfl,rfl⟩:=h;obtain⟨hp,hi,hx⟩:=S.obj M _ hM;have hv:v=g.sv M:=hr.1.1;refine⟨⟨⟨hr.1.2,hp,hi,by rw[hv];exact hx⟩,i1⟩,?_,λK hK=>?_⟩;simp only [uH,xcK,oD,i2,hv];rw[show kB g (lk σ.aB) M=(g.sv M).ownBlock.toList by simp only[kB,hM,kO]];rcases kF.1 hK with e|hK
  rw[e];exact⟨_,hM,trivial⟩;exact i3 K hK;cases h;rename_i M;split at h;rename_i kt vt q n F hM;simp only[bQ,gm]at h;obtain⟨rfl,rfl⟩:=h;obtain⟨es,clock,hh,hx⟩:=S.obj M _ hM;have hv:v=.map (some (oI (g.sv M))):=hr.1;refine⟨⟨⟨_,es,clock,hv,hh,hx⟩,i1⟩,?_,λK hK=>?_⟩;simp only [uH,xcK,oD,i2,hv];rw[show kB g (lk σ.aB) M=[oI (g.sv M)]by simp only[kB,hM,kO]];rfl;rcases kF.1 hK with e|hK
  rw[e];exact⟨_,hM,trivial⟩;exact i3 K hK;cases h;split at h;rename_i x hx;simp only[bQ,gm]at h;obtain⟨rfl,rfl⟩:=h;obtain⟨np,ls,e1,e2,rfl⟩:=U9 hx;obtain⟨q1,q2,q3⟩:=Uc _ _ _ e1;obtain⟨cv,hv,hcv⟩:=hr.1;refine⟨⟨⟨q1.symm,q2.symm,by rw[q3,qdO],by rw[hv,zbh e2 hcv,<- q1,<- q3];rfl⟩,i1⟩,by simp only[uH,xcK,OU];exact i2,i3⟩;cases h;cases h;cases h
def isB(ob:Nat->Option AO)(L:Nat):Prop:=∃o,ob L=some o/\U7 o
theorem zg5 [dD]{sf:kR}(S:bW P nt B w0 h0 g σ a w)(Uc:YQ g sf){d:DV}{x:XA}{ls ms:List Nat}{v:Value}(h:zQ sf (lk σ.aB) d=some (x,ls,ms))(hr:qM g d v) :
  zi P g.h w B x v/\UH w x v=ls.flatMap (kB g (lk σ.aB))/\∀L∈ls,isB (lk σ.aB) L:=by
 have data:rU (lk σ.aB) d=some (x,ls,ms)->zi P g.h w B x v/\UH w x v=ls.flatMap (kB g (lk σ.aB))/\∀L∈ls,isB (lk σ.aB) L:=by
  intro h;unfold rU at h;split at h;rename_i y hy;simp only[bQ,gm]at h;obtain⟨rfl,rfl,rfl⟩:=h;exact⟨S.frozen0.repD hy (λ_ h=>h) hr,rfl,λL hL=>by simp at hL⟩;cases h
 unfold zQ at h;split at h;rename_i L;split at h;rename_i ty cells hL;split at h;rename_i cs ms' hc;simp only[bQ,gm]at h;obtain⟨rfl,rfl,rfl⟩:=h;obtain⟨C,hC,TZ⟩:=S.obj L _ hL;obtain⟨i1,i2,i3⟩:=zbi Uc S hc TZ;have hv:v=.pointer (some ⟨g.bk L,0,none⟩):=hr;subst hv;refine⟨⟨_,C,rfl,hC,i1⟩,?_,λK hK=>?_⟩;simp only [UH,hC,oD,i2];rw[show kB g (lk σ.aB) L=[g.bk L]by simp only[kB,hL,kO]];rfl;rcases kF.1 hK with e|hK
 rw[e];exact⟨_,hL,trivial⟩;exact i3 K hK;cases h;exact data h;exact data h
theorem zbj [dD]{sf:kR}(S:bW P nt B w0 h0 g σ a w)(Uc:YQ g sf):∀{ds:List DV}{xs:List XA}{ls ms:List Nat}{vs:List Value},jU sf (lk σ.aB) ds=some (xs,ls,ms)->RL (qM g) ds vs ->
  RL (zi P g.h w B) xs vs/\nz w xs vs=ls.flatMap (kB g (lk σ.aB))/\∀L∈ls,isB (lk σ.aB) L
 | [],xs,ls,ms,[],h,_=>by
  simp only[jU,bQ,gm]at h;obtain⟨rfl,rfl,rfl⟩:=h;exact⟨trivial,rfl,λL hL=>by simp at hL⟩
 | [],_,_,_,_::_,_,hr=>hr.elim
 | _::_,_,_,_,[],_,hr=>hr.elim
 | d::ds,xs,ls,ms,v::vs,h,hr=>by
  simp only[jU]at h;split at h;rename_i x bl m1 xs' bls m2 h1 h2;simp only[bQ,gm]at h;obtain⟨rfl,rfl,rfl⟩:=h;obtain⟨i1,i2,i3⟩:=zg5 S Uc h1 hr.1;obtain⟨j1,j2,j3⟩:=zbj S Uc h2 hr.2;refine⟨⟨i1,j1⟩,by simp only[nz,i2,j2,qdH],λL hL=>?_⟩;rcases dW.1 hL with h|h
  exact i3 L h;exact j3 L h;cases h
theorem GI(S:bW P nt B w0 h0 g σ a w){ls:List Nat}(hn:ls.Nodup):(ls.flatMap (kB g (lk σ.aB))).Nodup:=by
 refine KD hn (λL _=>?_) λL L' b _ _ h1 h2=>?_;unfold kB;split;exact zg4 L _;exact qjx;unfold kB at h1 h2;split at h1;rename_i o ho;split at h2;rename_i o' kH;exact S.sep L o b L' o' ho kH (QU h1) (QU h2);simp at h2;simp at h1
def cN:List Cl→List Value→List (Nat×Value)|.vec M::cs,v::vs=>(M,v)::cN cs vs|.mo M::cs,v::vs=>(M,v)::cN cs vs|_::cs,_::vs=>cN cs vs|_,_=>[]
def aN(w:World)(ob:Nat->Option AO)(d:DV)(v:Value):List (Nat×Value) :=
 match d,v with
 | .one (.c (.ptr L 0)),.pointer (some a)=>match ob L,w.heap[a.block]? with|some (.box _ cells),some (.cells C _ _)=>cN cells C.toList|_,_=>[]
 | _,_=>[]
def asN(w:World)(ob:Nat→Option AO):List DV→List Value→List (Nat×Value)|d::ds,v::vs=>aN w ob d v++asN w ob ds vs|_,_=>[]
theorem oK{sf:kR}{ob:Nat->Option AO}{L:Nat}:zQ sf ob (.one (.c (.ptr L 0)))=match ob L with
  | some (.box ty cells)=>match iO sf ob cells with|some (cs,ms)=>some (.box ty cs,L::ms,ms)|none=>none
  | _=>rU ob (.one (.c (.ptr L 0))):=rfl
section put
variable [dD]{sf:kR}{h':Fz}{w':World}{g':Gh}(hh:g'.h=h')(sV:∀M,g'.bk M=g.bk M)(Uc:YQ g' sf)
include hh Uc
theorem CU:∀{cells l:List Cl}{ys cs:List XC}{u:List (Nat×AO)}{ls:List Nat}{vs:List Value},gY cells ys=some (l,u)->iO sf (lk σ.aB) cells=some (cs,ls)->RL (xcR P h' w' B) ys vs->(∀x∈cN cells vs,g'.sv x.1=x.2) ->
  RL (ja g') l vs/\(∀x∈u,U7 x.2/\dU x.2=[]/\NU P g' w' B x.1 x.2)/\uH ys vs=u.flatMap (λx=>kO g' x.1 x.2)/\u.map (·.1)=ls/\(cN cells vs).map (·.1)=ls/\∀M∈l.flatMap bu,M∈cells.flatMap bu
 | [],l,[],cs,u,ls,vs,h,h2,hr,_=>by
  simp only[gY,bQ,gm]at h;obtain⟨rfl,rfl⟩:=h;simp only[iO,bQ,gm]at h2;obtain⟨rfl,rfl⟩:=h2;cases vs with|nil=>exact⟨trivial,λx hx=>by simp at hx,rfl,rfl,rfl,λM hM=>hM⟩|cons=>exact hr.elim
 | c::cells,l,y::ys,cs,u,ls,[],h,h2,hr,_=>hr.elim
 | c::cells,l,y::ys,cs,u,ls,v::vs,h,h2,hr,lW=>by
  unfold gY at h;split at h;rename_i e;simp at e;rename_i p zaK q pR e1 e2;simp only[Gu]at e1 e2;obtain⟨rfl,rfl⟩:=e1;obtain⟨rfl,rfl⟩:=e2;split at h;rename_i l1 u1 hp;simp only[bQ,gm]at h;obtain⟨rfl,rfl⟩:=h;simp only[iO]at h2;split at h2;rename_i c1 m1 hc;simp only[bQ,gm]at h2;obtain⟨rfl,rfl⟩:=h2;obtain⟨i1,i2,i3,i4,i5,i6⟩:=CU hp hc hr.2 (λx hx=>lW x hx);refine⟨⟨by have:=hr.1;show Rep g'.h q v;rw[hh];exact this,i1⟩,i2,by simp only[uH,xcK,OU];exact i3,i4,i5,λM hM=>?_⟩;simp only[oD,bu,OU]at hM ⊢;exact i6 M hM;cases h2;cases h;rename_i M zaK e s b n get pR e1 e2;simp only[Gu]at e1 e2;obtain⟨rfl,rfl⟩:=e1;obtain⟨rfl,rfl⟩:=e2;split at h;rename_i l1 u1 hp;simp only[bQ,gm]at h;obtain⟨rfl,rfl⟩:=h;simp only[iO]at h2;split at h2;rename_i c1 m1 hc;split at h2;simp only [bQ,gm]at h2;obtain⟨rfl,rfl⟩:=h2;obtain⟨i1,i2,i3,i4,i5,i6⟩:=CU hp hc hr.2 (λx hx=>lW x (jS _ hx));have hv:g'.sv M=v:=lW (M,v) kQ;obtain⟨h1,hp1,hi1,hx1⟩:=hr.1;refine⟨⟨⟨hv.symm,h1⟩,i1⟩,λx hx=>?_,?_,by simp[i4],by simp[cN,i5],λK hK=>?_⟩;rcases kF.1 hx with e|hx
  subst e;refine⟨trivial,rfl,hp1,hi1,?_⟩;show zS g'.h w' B e s (g'.sv M) n get;rw[hv,hh];exact hx1;exact i2 x hx;simp only[uH,xcK,oD,kO,hv,i3];simp only [oD,dW]at hK ⊢;exact hK.imp_right (i6 K);cases h2;cases h2;cases h;rename_i M zaK kt vt q n F pR e1 e2;simp only[Gu]at e1 e2;obtain⟨rfl,rfl⟩:=e1;obtain⟨rfl,rfl⟩:=e2;split at h;rename_i l1 u1 hp;simp only[bQ,gm]at h;obtain⟨rfl,rfl⟩:=h;simp only[iO]at h2;split at h2;rename_i c1 m1 hc;split at h2;simp only [bQ,gm]at h2;obtain⟨rfl,rfl⟩:=h2;obtain⟨i1,i2,i3,i4,i5,i6⟩:=CU hp hc hr.2 (λx hx=>lW x (jS _ hx));have hv:g'.sv M=v:=lW (M,v) kQ;obtain⟨b,es,clock,h1,hh1,hx1⟩:=hr.1;subst h1;have hb:oI (g'.sv M)=b:=by rw[hv];rfl
  refine⟨⟨by show Value.map (some b)=.map (some (oI (g'.sv M)));rw[hb],i1⟩,λx hx=>?_,?_,by simp[i4],by simp[cN,i5],λK hK=>?_⟩;rcases kF.1 hx with e|hx
  subst e;exact⟨trivial,rfl,es,clock,by rw[hb];exact hh1,hx1⟩;exact i2 x hx;simp only[uH,xcK,oD,kO,hb,i3];rfl;simp only [oD,dW]at hK ⊢;exact hK.imp_right (i6 K);cases h2;cases h2;cases h;rename_i f caps zaK f2 np2 n2 pR e1 e2;simp only[Gu]at e1 e2;obtain⟨rfl,rfl⟩:=e1;obtain⟨rfl,rfl⟩:=e2;split at h;rename_i l1 u1 hp;simp only[bQ,gm]at h;obtain⟨rfl,rfl⟩:=h;simp only[iO]at h2;split at h2;rename_i c1 m1 hc;split at h2;rename_i x hx;simp only[bQ,gm]at h2;obtain⟨rfl,rfl⟩:=h2;obtain⟨i1,i2,i3,i4,i5,i6⟩:=CU hp hc hr.2 (λx hx=>lW x hx);obtain⟨np,ls,e1,e2,rfl⟩:=U9 hx;obtain⟨q1,q2,q3⟩:=Uc _ _ _ e1;obtain⟨_,_,_,hv⟩:=hr.1;refine⟨⟨⟨(ls.map g'.bk).map xJ,by rw[hv,<- q1,<- q3];rfl,U8 e2⟩,i1⟩,i2,by simp only[uH,xcK,OU];exact i3,i4,i5,λM hM=>?_⟩;simp only[oD,dW]at hM ⊢;exact hM.imp_right (i6 M);cases h2;cases h2;cases h;cases h
 | [],_,_::_,_,_,_,_,h,_,_,_=>by simp[gY]at h
 | _::_,_,[],_,_,_,_,h,_,_,_=>by simp[gY]at h
include sV
theorem zwR(S:bW P nt B w0 h0 g σ a w){d:DV}{x y:XA}{u:List (Nat×AO)}{ls ms:List Nat}{v:Value}(h:Ip (lk σ.aB) d y=some u)(h2:zQ sf (lk σ.aB) d=some (x,ls,ms))(hd:qM g d v)(hr:zi P h' w' B y v)
    (lW:∀x∈aN w' (lk σ.aB) d v,g'.sv x.1=x.2) :
    (∀x∈u,U7 x.2/\(∀M∈dU x.2,∃o',lk σ.aB M=some o')/\NU P g' w' B x.1 x.2)/\UH w' y v=u.flatMap (λx=>kO g' x.1 x.2)/\u.map (·.1)=ls/\(aN w' (lk σ.aB) d v).map (·.1)=ms:=by
  have data:rU (lk σ.aB) d=some (x,ls,ms)->ls=[]/\ms=[]:=by
    intro h;unfold rU at h;split at h;simp only[bQ,gm]at h;exact⟨h.2.1.symm,h.2.2.symm⟩;cases h
  unfold Ip at h;split at h;rename_i L;split at h;rename_i Yl cells hL;rw[oK,hL]at h2;dsimp only at h2;split at h2;rename_i cs ms' hc;simp only[bQ,gm]at h2;obtain⟨rfl,rfl,rfl⟩:=h2;split at h;rename_i ty Ij;split at h;rename_i l u' hty hp;simp only[bQ]at h;subst h;have hty:=kP hty;subst hty;obtain⟨k,C,rfl,hC,nH⟩:=hr;have hk:k=g.bk L:=by
    have hd:Value.pointer (some ⟨k,0,none⟩)=.pointer (some ⟨g.bk L,0,none⟩):=hd;simpa using hd
  subst hk;simp only[aN,hL,hC]at lW ⊢;obtain⟨i1,i2,i3,i4,i5,i6⟩:=CU (P:=P) (B:=B) hh Uc hp hc nH lW;refine⟨λx hx=>?_,?_,by simp[i4],i5⟩;rcases kF.1 hx with e|hx
  subst e;refine⟨trivial,λM hM=>S.clO L _ hL M (i6 M hM),C,?_,i1⟩;show w'.heap[g'.bk L]? = _;rw[sV];exact hC;obtain⟨j1,j2,j3⟩:=i2 x hx;exact⟨j1,λM hM=>by rw[j2]at hM;simp at hM,j3⟩;simp only[UH,hC,oD,kO,sV,i3];rfl;cases h;cases h;cases h2;rename_i sW;have hx:rU (lk σ.aB) (.one (.c (.ptr L 0)))=some (x,ls,ms):=by
    rw[oK]at h2;cases hL:lk σ.aB L with
    | none=>rw[hL]at h2;exact h2
    | some o =>
      rw[hL]at h2;cases o with|box ty cells=>exact absurd hL (sW _ _)|_=>exact h2
  obtain⟨rfl,rfl⟩:=data hx;split at h;simp only [bQ]at h;subst h;refine⟨λx hx=>by simp at hx,rfl,rfl,?_⟩;have e:aN w' (lk σ.aB) (.one (.c (.ptr L 0))) v=[]:=by
    cases v with
    | pointer p=>cases p with
      | none=>rfl
      | some ad =>
        simp only[aN];cases hL:lk σ.aB L with
        | none=>rfl
        | some o =>
          cases o with|box ty cells=>exact(sW _ _ hL).elim|_=>rfl
    | _=>rfl
  rw[e];rfl;cases h;rename_i sW;have hx:rU (lk σ.aB) d=some (x,ls,ms):=by
    unfold zQ at h2;split at h2;exact(sW _ rfl).elim;exact h2
  obtain⟨rfl,rfl⟩:=data hx;split at h;simp only [bQ]at h;subst h;refine⟨λx hx=>by simp at hx,rfl,rfl,?_⟩;have e:aN w' (lk σ.aB) d v=[]:=by
    unfold aN;split;exact(sW _ rfl).elim;rfl
  rw[e];rfl;cases h
theorem zbk(S:bW P nt B w0 h0 g σ a w):∀{ds:List DV}{xs ys:List XA}{u:List (Nat×AO)}{ls ms:List Nat}{vs:List Value},jL (lk σ.aB) ds ys=some u->jU sf (lk σ.aB) ds=some (xs,ls,ms)->RL (qM g) ds vs->RL (zi P h' w' B) ys vs ->
  (∀x∈asN w' (lk σ.aB) ds vs,g'.sv x.1=x.2) ->
  (∀x∈u,U7 x.2/\(∀M∈dU x.2,∃o',lk σ.aB M=some o')/\NU P g' w' B x.1 x.2)/\nz w' ys vs=u.flatMap (λx=>kO g' x.1 x.2)/\u.map (·.1)=ls/\(asN w' (lk σ.aB) ds vs).map (·.1)=ms
 | [],xs,[],u,ls,ms,vs,h,h2,hd,hr,_=>by
  simp only[jL,bQ]at h;subst h;simp only[jU,bQ,gm]at h2;obtain⟨rfl,rfl,rfl⟩:=h2;cases vs with|nil=>exact⟨λx hx=>by simp at hx,rfl,rfl,rfl⟩|cons=>exact hr.elim
 | d::ds,xs,y::ys,u,ls,ms,[],h,h2,hd,hr,_=>hr.elim
 | d::ds,xs,y::ys,u,ls,ms,v::vs,h,h2,hd,hr,lW=>by
  simp only[jL]at h;split at h;rename_i u1 u2 e1 e2;simp only[bQ]at h;subst h;simp only[jU]at h2;split at h2;rename_i x bl m1 xs' bls m2 h3 h4;simp only[bQ,gm]at h2;obtain⟨rfl,rfl,rfl⟩:=h2;obtain⟨i1,i2,i3,i4⟩:=zbk S e2 h4 hd.2 hr.2 (λx hx=>lW x (dW.2 (.inr hx)));obtain⟨j1,j2,j3,j4⟩:=zwR hh sV Uc S e1 h3 hd.1 hr.1 (λx hx=>lW x (dW.2 (.inl hx)));exact⟨λx hx=>(dW.1 hx).elim (j1 x) (i1 x),by simp only[nz,i2,j2,qdH],by simp[i3,j3],by simp[asN,i4,j4]⟩;cases h2;cases h
 | [],_,_::_,_,_,_,_,h,_,_,_,_=>by simp[jL]at h
 | _::_,_,[],_,_,_,_,h,_,_,_,_=>by simp[jL]at h
end put
theorem Fg {α : Type} : ∀ {l : List (Nat × α)} {k : Nat} {x : α}, (l.map (·.1)).Nodup → (k, x) ∈ l → lk l k = some x
  | [],_,_,_,h=>by simp at h
  | (j,y)::l,k,x,hn,h=>by
    rw[o5,qdq]at hn;rw[aW];rcases kF.1 h with e|h'
    simp only[gm]at e;rw[eX e.1.symm,e.2];rw [fF (fun e=>hn.1 (by rw [e];exact xq.2 ⟨_,h',rfl⟩))];exact Fg hn.2 h'
theorem zk{α:Type}{l:List (Nat×α)}{k:Nat}(h:k∈l.map (·.1)):∃x,lk l k=some x:=by
 cases hk:lk l k with
 | some x=>exact⟨x,rfl⟩
 | none =>
  obtain⟨⟨j,x⟩,hx,rfl⟩:=xq.1 h;exact(QN hk x hx).elim
theorem zg6{sf:kR}{ob:Nat->Option AO}{d:DV}{x:XA}{ls ms:List Nat}(h:zQ sf ob d=some (x,ls,ms)):∀M∈ms,M∈ls:=by
 have data:rU ob d=some (x,ls,ms)->∀M∈ms,M∈ls:=by
  intro h;unfold rU at h;split at h;simp only[bQ,gm]at h;rw[<- h.2.2];exact λM hM=>by simp at hM
  cases h
 unfold zQ at h;split at h;split at h;split at h;simp only[bQ,gm]at h;rw[<- h.2.1,<- h.2.2];exact λM hM=>jS _ hM;cases h;exact data h;exact data h
theorem PD{sf:kR}{ob:Nat→Option AO}:∀{ds:List DV}{xs:List XA}{ls ms:List Nat},jU sf ob ds=some (xs,ls,ms)→∀M∈ms,M∈ls
  | [],xs,ls,ms,h=>by
    simp only[jU,bQ,gm]at h;rw[<- h.2.2];exact λM hM=>by simp at hM
  | d::ds,xs,ls,ms,h=>by
    simp only[jU]at h;split at h;rename_i x bl m1 xs' bls m2 h1 h2;simp only[bQ,gm]at h;obtain⟨rfl,rfl,rfl⟩:=h;intro M hM;exact dW.2 ((dW.1 hM).imp (zg6 h1 M) (PD h2 M));cases h
theorem A8(x:Cl):fQ [] x=x:=by cases x<;>rfl
theorem GK(x:D1):fM [] x=x:=by
 cases x with|c y=>simp only[fM,A8]|agg cs=>simp only[fM,show fQ []=id from funext A8,qjr]
theorem YR(x:DV):gB [] x=x:=by
 cases x with|one y=>simp only[gB,GK]|tup ds=>simp only[gB,show fM []=id from funext GK,qjr]
theorem YS(x:AO):eY [] x=x:=by
 cases x with|box ty cs=>simp only[eY,show fQ []=id from funext A8,qjr]|_=>rfl
theorem KE{α:Type}{f:α→α}(hf:∀x,f x=x):∀l:List (Nat×α),kills f l=l|[]=>rfl|(k,x)::l=>by simp only[kills,hf x,KE hf l]
theorem QV{dst:Option Nat}{fp:List (Nat×Bool)}{d:DV}{u:List (Nat×AO)}{ms:List Nat} :
  σ.upd i dst fp d u ms=⟨YB dst d (kills (gB ms) σ.env),u++kills (eY ms) σ.aB,σ.log⟩:=by
 cases ms with|nil=>rw[fO,KE YR,KE YS]|cons L r=>cases dst<;>rfl
theorem zbl [dD] {sf : kR} {ob : Nat → Option AO} {h' : Fz} {w' : World} : ∀ {cells : List Cl} {l : List Cl} {ys cs : List XC} {u : List (Nat × AO)} {ms : List Nat} {vs : List Value}, gY cells ys = some (l, u) → iO sf ob cells = some (cs, ms) → RL (xcR P h' w' B) ys vs → (cN cells vs).map (·.1) = ms
  | [],l,ys,cs,u,ms,vs,h,h2,hr=>by
    simp only[iO,bQ,gm]at h2;rw[<- h2.2];cases vs<;>rfl
  | c::cells,l,[],cs,u,ms,vs,h,h2,hr=>by simp[gY]at h
  | c::cells,l,y::ys,cs,u,ms,[],h,h2,hr=>hr.elim
  | c::cells,l,y::ys,cs,u,ms,v::vs,h,h2,hr=>by
    have hx:∃l1 u1,gY cells ys=some (l1,u1):=by
      unfold gY at h;split at h;rename_i e;simp at e;rename_i e1 e2;simp only[Gu]at e1 e2;obtain⟨rfl,rfl⟩:=e1;obtain⟨rfl,rfl⟩:=e2;split at h;rename_i hp;exact⟨_,_,hp⟩;cases h;rename_i e1 e2;simp only[Gu]at e1 e2;obtain⟨rfl,rfl⟩:=e1;obtain⟨rfl,rfl⟩:=e2;split at h;rename_i hp;exact⟨_,_,hp⟩;cases h;rename_i e1 e2;simp only[Gu]at e1 e2;obtain⟨rfl,rfl⟩:=e1;obtain⟨rfl,rfl⟩:=e2;split at h;rename_i hp;exact⟨_,_,hp⟩;cases h;rename_i e1 e2;simp only[Gu]at e1 e2;obtain⟨rfl,rfl⟩:=e1;obtain⟨rfl,rfl⟩:=e2;split at h;rename_i hp;exact⟨_,_,hp⟩;cases h;cases h
    obtain⟨l1,u1,hp⟩:=hx;simp only[iO]at h2;split at h2;rename_i c1 m1 hc;have ih:=zbl hp hc hr.2;split at h2;simp only[bQ,gm]at h2;rw[<- h2.2];exact ih;split at h2;simp only[bQ,gm]at h2;rw[<- h2.2];simp only[cN,o5,ih];cases h2;split at h2;simp only[bQ,gm]at h2;rw[<- h2.2];simp only[cN,o5,ih];cases h2;split at h2;simp only[bQ,gm]at h2;rw[<- h2.2];exact ih;cases h2;cases h2;cases h2
theorem zni [dD]{sf:kR}{ob:Nat->Option AO}{h':Fz}{w':World}{d:DV}{x y:XA}{u:List (Nat×AO)}{ls ms:List Nat}{v:Value}(h:Ip ob d y=some u)(h2:zQ sf ob d=some (x,ls,ms))(hr:zi P h' w' B y v):(aN w' ob d v).map (·.1)=ms:=by
 have data:rU ob d=some (x,ls,ms)->ms=[]:=by
  intro h;unfold rU at h;split at h;simp only[bQ,gm]at h;exact h.2.2.symm;cases h
 unfold Ip at h;split at h;rename_i L;split at h;rename_i Yl cells hL;rw[oK,hL]at h2;dsimp only at h2;split at h2;rename_i cs ms' hc;simp only[bQ,gm]at h2;obtain⟨rfl,rfl,rfl⟩:=h2;split at h;split at h;rename_i l u' hty hp;obtain⟨k,C,rfl,hC,nH⟩:=hr;simp only[aN,hL,hC];exact zbl hp hc nH;cases h;cases h;cases h2;rename_i sW;have hx:rU ob (.one (.c (.ptr L 0)))=some (x,ls,ms):=by
  rw[oK]at h2;cases hL:ob L with
  | none=>rw[hL]at h2;exact h2
  | some o =>
   rw[hL]at h2;cases o with|box ty cells=>exact absurd hL (sW _ _)|_=>exact h2
 rw[data hx];have e:aN w' ob (.one (.c (.ptr L 0))) v=[]:=by
  cases v with
  | pointer p=>cases p with
   | none=>rfl
   | some ad =>
    simp only[aN];cases hL:ob L with
    | none=>rfl
    | some o =>
     cases o with|box ty cells=>exact absurd hL (sW _ _)|_=>rfl
  | _=>rfl
 rw[e];rfl;rename_i sW;have hx:rU ob d=some (x,ls,ms):=by
  unfold zQ at h2;split at h2;exact(sW _ rfl).elim;exact h2
 rw[data hx];have e:aN w' ob d v=[]:=by
  unfold aN;split;exact(sW _ rfl).elim;rfl
 rw[e];rfl
theorem Va [dD] {sf : kR} {ob : Nat → Option AO} {h' : Fz} {w' : World} : ∀ {ds : List DV} {xs ys : List XA} {u : List (Nat × AO)} {ls ms : List Nat} {vs : List Value}, jL ob ds ys = some u → jU sf ob ds = some (xs, ls, ms) → RL (zi P h' w' B) ys vs → (asN w' ob ds vs).map (·.1) = ms
  | [],xs,ys,u,ls,ms,vs,h,h2,hr=>by
    simp only[jU,bQ,gm]at h2;rw[<- h2.2.2];cases vs<;>rfl
  | d::ds,xs,[],u,ls,ms,vs,h,h2,hr=>by simp[jL]at h
  | d::ds,xs,y::ys,u,ls,ms,[],h,h2,hr=>hr.elim
  | d::ds,xs,y::ys,u,ls,ms,v::vs,h,h2,hr=>by
    simp only[jL]at h;split at h;rename_i u1 u2 e1 e2;simp only[jU]at h2;split at h2;rename_i x bl m1 xs' bls m2 h3 h4;simp only[bQ,gm]at h2;rw[<- h2.2.2];simp only[asN,Ud,zni e1 h3 hr.1,Va e2 h4 hr.2];cases h2;cases h
theorem zbm:∀{caps:List sZ}{ls:List Nat}{cv:List Value},UB caps=some ls→RL (Ir g) caps cv→∀(k L:Nat),ls[k]? = some L→cv[k]? = some (xJ (g.bk L))
  | [],ls,cv,h,hr,k,L,hk=>by simp only[UB,bQ]at h;subst h;simp at hk
  | .v _::_,ls,cv,h,hr,k,L,hk=>by cases h
  | .b M::caps,ls,[],h,hr,k,L,hk=>hr.elim
  | .b M::caps,ls,v::cv,h,hr,k,L,hk=>by
    simp only[UB]at h;split at h
    · rename_i l hl;simp only[bQ]at h;subst h;cases k with
      | zero =>
        simp only[qdy,bQ]at hk ⊢;subst hk;exact hr.1
      | succ k =>
        rw[Yn]at hk ⊢;exact zbm hl hr.2 k L hk
    cases h
theorem zg7{gf np:Nat}{caps:List sZ}{cv pre:List Value}(hr:RL (Ir g) caps cv)(hp:pre.length=np):∀f np' ls,zdm gf np caps=some (f,np',ls)->∀(k L:Nat),ls[k]? = some L->(pre++cv)[np'+k]? = some (xJ (g.bk L)):=by
 intro f np' ls h k L hk;unfold zdm at h;split at h;rename_i l hl;simp only[bQ,gm]at h;obtain⟨rfl,rfl,rfl⟩:=h;rw[List.getElem?_append_right omY,show np+k-pre.length=k by omega];exact zbm hl hr k L hk;cases h
theorem PE:∀{cells l:List Cl}{ys:List XC}{u:List (Nat×AO)},gY cells ys=some (l,u)→l.length=cells.length∧(∀x∈u,kS x.2=false)∧∀f caps,l=[.clo f caps]→cells=[.clo f caps]
  | [],l,ys,u,h=>by
    cases ys with
    | nil =>
      simp only[gY,bQ,gm]at h;obtain⟨rfl,rfl⟩:=h;exact⟨rfl,λx hx=>by simp at hx,λf caps e=>by cases e⟩
    | cons y ys=>simp[gY]at h
  | c::cells,l,ys,u,h=>by
    cases ys with
    | nil=>cases c<;>simp[gY]at h
    | cons y ys =>
      have ih:=λl' u' h'=>@PE cells l' ys u' h'
      have vc:∀(M:Nat)(o:AO)(l':List Cl)(u':List (Nat×AO))(c':Cl),kS o=false->(∀f caps,c' ≠ .clo f caps)->gY cells ys=some (l',u') ->
          (c'::l').length=(c::cells).length/\(∀x∈(M,o)::u',kS x.2=false)/\∀f caps,c'::l'=[.clo f caps]->c::cells=[.clo f caps]:=λM o l' u' c' ho hc h'=>by
        obtain⟨i1,i2,i3⟩:=ih l' u' h';refine⟨by simp[i1],λx hx=>?_,λf caps e=>(hc f caps (List.cons.inj e).1).elim⟩;rcases kF.1 hx with rfl|hx
        exact ho;exact i2 x hx
      cases c with
      | p v =>
        cases y with
        | p v' =>
          simp only[gY]at h;split at h;rename_i l' u' h';simp only[bQ,gm]at h;obtain⟨rfl,rfl⟩:=h;obtain⟨i1,i2,i3⟩:=ih l' u' h';exact⟨by simp[i1],i2,λf caps e=>by cases e⟩;cases h
        | _=>simp[gY]at h
      | vec M =>
        cases y with
        | vec e s b n get =>
          simp only[gY]at h;split at h;rename_i l' u' h';simp only[bQ,gm]at h;obtain⟨rfl,rfl⟩:=h;exact vc M _ l' u' _ rfl (λ_ _ e=>by cases e) h';cases h
        | _=>simp[gY]at h
      | mo M =>
        cases y with
        | mo kt vt q n F =>
          simp only[gY]at h;split at h;rename_i l' u' h';simp only[bQ,gm]at h;obtain⟨rfl,rfl⟩:=h;exact vc M _ l' u' _ rfl (λ_ _ e=>by cases e) h';cases h
        | _=>simp[gY]at h
      | clo f0 zZ2 =>
        cases y with
        | slf f2 np2 n2 =>
          simp only[gY]at h;split at h;rename_i l' u' h';simp only[bQ,gm]at h;obtain⟨rfl,rfl⟩:=h;obtain⟨i1,i2,i3⟩:=ih l' u' h';refine⟨by simp[i1],i2,λf caps e=>?_⟩;obtain⟨e3,e4⟩:=List.cons.inj e;subst e4;rw[e3,qdw i1.symm];cases h
        | _=>simp[gY]at h
      | _=>cases y<;>simp[gY]at h
theorem PG{ob:Nat→Option AO}:∀{ds:List DV}{ys:List XA}{u:List (Nat×AO)},jL ob ds ys=some u→∀x∈u,kS x.2=true→ob x.1=some x.2
  | [],[],u,h=>by simp only[jL,bQ]at h;subst h;intro x hx;simp at hx
  | [],_::_,_,h=>by simp[jL]at h
  | _::_,[],_,h=>by simp[jL]at h
  | d::ds,y::ys,u,h=>by
    simp only[jL]at h;split at h;rename_i u1 u2 e1 e2;simp only[bQ]at h;subst h;intro x hx hc;rcases dW.1 hx with hx|hx
    unfold Ip at e1;split at e1;split at e1;rename_i L Yl cells hL;split at e1;rename_i ty cs;split at e1;rename_i l u' hty OO;simp only[bQ]at e1;subst e1;obtain⟨_,h1,h2⟩:=PE OO;rcases kF.1 hx with rfl|hx
    have ht:=kP hty;subst ht;unfold kS at hc;split at hc;rename_i ty2 f caps e3;simp only[AO.box.injEq]at e3;obtain⟨rfl,rfl⟩:=e3;rw[hL,h2 f caps rfl];cases hc;rw[h1 x hx]at hc;cases hc;cases e1;cases e1;split at e1;simp only[bQ]at e1;subst e1;simp at hx;cases e1;split at e1;simp only[bQ]at e1;subst e1;simp at hx;cases e1;exact PG e2 x hx hc;cases h
theorem zdM{ms:List Nat}{o:AO}(h:kS o=true):eY ms o=o:=by
 unfold kS at h;split at h;rfl;cases h
theorem zg9{α:Type}{f:α->α}{l:List (Nat×α)}{n:Nat}:lk (kills f l) n=(lk l n).map f:=by
 induction l with
 | nil=>rfl
 | cons x l ih =>
  obtain⟨k,a⟩:=x;rw[kills,aW,aW,ih];split<;>rfl
theorem PH : ∀ {u rest : List (Nat × AO)}, (u.map (·.1)).Nodup → (∀ x ∈ u, kS x.2 = true → lk rest x.1 = some x.2) → ∀ L : Nat, lk ((u.filter fun x => !kS x.2) ++ rest) L = lk (u ++ rest) L
  | [],_,_,_,_=>rfl
  | (k,o)::u,rest,hn,h,L=>by
    rw[o5,qdq]at hn;have ih:=PH hn.2 (λy hy=>h y (jS _ hy)) L;cases hc:kS o with
    | false =>
      rw[List.filter_cons_of_pos (by simp[hc]),qdJ,qdJ,aW,aW,ih]
    | true =>
      rw[List.filter_cons_of_neg (by simp[hc]),qdJ,aW,ih];split
      · rename_i e;subst e;have h0:=h (k,o) kQ hc;rw[gU];cases hu:lk u k with|none=>exact h0|some o2=>exact(hn.1 (xq.2 ⟨_,fH hu,rfl⟩)).elim
      rfl
theorem bW.objs_congr(S:bW P nt B w0 h0 g σ a w){l:List (Nat×AO)}(h:∀L,lk l L=lk σ.aB L):bW P nt B w0 h0 g {σ with aB:=l} a w :=
 ⟨S.dfr,S.size,S.env,λL o ho=>S.obj L o (by rw[<- h];exact ho),λL o b ho=>S.own L o b (by rw[<- h];exact ho),
  λL o b L' o' ho kH=>S.sep L o b L' o' (by rw[<- h];exact ho) (by rw[<- h];exact kH),S.hw,S.le0,S.hn,S.below,S.bs,
  λt d ht L hL=>by rw[h];exact S.clE t d ht L hL,λL o ho M hM=>by rw[h];exact S.clO L o (by rw[<- h];exact ho) M hM⟩
theorem Vb{sf:kR}{gf:FuncId}{C:MK}{ds:List DV}{vals:List Value}(Gs:jk P Γ)(S:bW P nt B w0 h0 g σ a w)
    (hC:Γ.mt gf=some C) (OT:RL (qM g) ds vals)
    (ku:∀f np ls,sf=some (f,np,ls)->∀(k L:Nat),ls[k]? = some L->vals[np+k]? = some (xJ (g.bk L)))
    {xs ys:List XA} {ls ms:List Nat} {rs:List PA} {u:List (Nat×AO)} (has:jU sf (lk σ.aB) ds=some (xs,ls,ms)) (hCx:(C xs).o=some (rs,ys)) (OO:jL (lk σ.aB) ds ys=some u)
    (dh:(lY ls&&Nat.ble ms.length 1&&ms.all λM=>((u.filter λx=>!kS x.2).map (·.1)).contains M)=true) (d:Option Nat) :
    dm P gf/\Calls P gf vals.toArray w λe w'=>∃g',QJ g'.h rs e/\bW P nt B w0 h0 g' ⟨kills (gB ms) σ.env,u.filter (λx=>!kS x.2)++kills (eY ms) σ.aB,σ.log⟩ a w':=by
  letI:dD:=match sf with|some (f,np,ls)=>⟨f,np,ls.map g.bk⟩|none=>⟨0,0,[]⟩
  have Uc:YQ g sf:=λf np ls e=>by subst e;exact⟨rfl,rfl,rfl⟩
  have lW:∀k b,(dD.bs)[k]? = some b->vals[dD.np+k]? = some (xJ b):=by
    cases sf with
    | none=>intro k b hk;have hk:([]:List Nat)[k]? = some b:=hk;simp at hk
    | some y =>
      obtain⟨f,np,ls⟩:=y;intro k b hk;have hk:(ls.map g.bk)[k]? = some b:=hk;rw[dq4]at hk;obtain⟨L,hL,rfl⟩:=Ye.1 hk;exact ku f np ls rfl k L hL
  have zlU:=dh;simp only[gz,Ug]at zlU;have dh:=zlU.1;obtain⟨x1,x2,x3⟩:=zbj S Uc has OT;have hkb:∀b∈nz w xs vals,∃L∈ls,∃o',lk σ.aB L=some o'/\gQ g L o' b:=λb hb=>by
    rw[x2]at hb;obtain⟨L,hL,hb⟩:=lD.1 hb;unfold kB at hb;split at hb;rename_i o' kH;exact⟨L,hL,o',kH,QU hb⟩;simp at hb
  obtain⟨fJ,vZ⟩:=Gs.mt gf C hC xs ys rs hCx w g.h B vals x1 lW (by rw[x2];exact GI S (mi dh.1)) (λb hb=>by
    obtain⟨L,_,o',h1,h2⟩:=hkb b hb;exact S.own L o' b h1 h2) S.hw S.bs
  refine⟨fJ,vZ.mono ?_⟩;rintro e w' ⟨h',oU,Yd,zLF,iZ,hle,Jp,hn',hX⟩;let nv:=asN w' (lk σ.aB) ds vals;let g':Gh:=⟨h',g.bk,λM=>match lk nv M with|some x=>x|none=>g.sv M,g.iv⟩;have zPC:ms.Nodup:=by
    match ms,dh.2 with|[],_=>exact qjx|[x],_=>simp|_::_::_,h=>simp at h
  have Qv:nv.map (·.1)=ms:=Va OO has Yd;obtain⟨p1,p2,p3,p4⟩:=zbk (P:=P) (B:=B) (g:=g) (h':=h') (w':=w') (g':=g') rfl (λ_=>rfl) (λf np ls e=>Uc f np ls e) S OO has OT Yd (λx hx=>by
    have:=Fg (l:=nv) (by rw[Qv];exact zPC) (show(x.1,x.2)∈nv from hx);show(match lk nv x.1 with|some x=>x|none=>g.sv x.1)=x.2;rw[this])
  have hul:∀L∈ls,∃o',lk u L=some o':=λL hL=>zk (by rw[p3];exact hL);have S1:=S.swap (u:=u) (kl:=ms) (K:=nz w xs vals) (g':=g') hle Jp (λ_=>rfl) (λM hM=>⟨rfl,by
      show(match lk nv M with|some x=>x|none=>g.sv M)=g.sv M;cases hk:lk nv M with|none=>rfl|some x=>exact(hM (by rw[<- Qv];exact xq.2 ⟨_,fH hk,rfl⟩)).elim,rfl⟩)
    (λL hL=>by obtain⟨x,hx⟩:=hul L (PD has L hL);rw[hx];simp) hX
    (λb hb=>by obtain⟨L,hL,o',h1,h2⟩:=hkb b hb;obtain⟨x,hx⟩:=hul L hL;exact⟨L,x,o',hx,h1,h2⟩)
    (λL x hx=>(p1 _ (fH hx)).2.2)
    (λL x b hx hb=>iZ b (by rw[p2];exact lD.2 ⟨_,fH hx,Fe (p1 _ (fH hx)).1 hb⟩))
    (λL x b L' x' hx xW hb mW=>by
      rw[p2]at zLF;have:=Ff zLF (L,x) (L',x') b (fH hx) (fH xW) (Fe (p1 _ (fH hx)).1 hb) (Fe (p1 _ (fH xW)).1 mW);exact kz Prod.fst this)
    (λL x hx=>(p1 _ (fH hx)).2.1) (λb o h=>hn' b o h) σ.log
  refine⟨g',oU,S1.objs_congr λL=>PH (by rw[p3];exact mi dh.1) (λx hx hc=>?_) L⟩;rw[zg9,PG OO x hx hc];exact kz some (zdM hc)
theorem zbn{sf:kR}{o:Oper}{A:aJ}{gf:FuncId}{C:MK}{ds:List DV}{vals:List Value}(Gs:jk P Γ)(S:bW P nt B w0 h0 g σ a w)(hd:dI nt o.dst=true)(zf:∀c,o.op ≠ .defer c)
    (hC:Γ.mt gf=some C) (df:dm P gf->(execOp a.eval o).run P w=.ok (.enter gf vals.toArray) w) (OT:RL (qM g) ds vals)
    (ku:∀f np ls,sf=some (f,np,ls)->∀(k L:Nat),ls[k]? = some L->vals[np+k]? = some (xJ (g.bk L)))
    (hA:tC C sf ds (lk σ.aB)=A) (hs:A.safe):jf P nt B w0 h0 r n i o A σ a w Q:=by
  unfold tC at hA;split at hA;rename_i xs ls ms has;split at hA;rename_i rs ys hCx;split at hA;rename_i hpm;unfold pV at hA;split at hA;rename_i u OO;split at hA;rename_i dh;subst hA;obtain⟨fJ,vZ⟩:=Vb Gs S hC OT ku has hCx OO dh none;refine qO zf (w':=w) (f:=gf) (args:=vals.toArray) (df fJ) (vZ.mono ?_);rintro e w' ⟨g',oU,S1⟩;unfold QJ at oU;rw[hpm]at oU;obtain⟨v,rfl,og⟩:=oU;refine⟨v,rfl,g',_,rfl,?_⟩;rw[QV];exact S1.put (v:=v) (d:=resD rs) hd (QT (g:=g') og) (λL hL=>by rw[CQ]at hL;simp at hL) σ.log;subst hA;exact hs.elim;subst hA;exact hs.elim;subst hA;exact hs.elim;subst hA;exact hs.elim;subst hA;exact hs.elim
end
end Go.Pm
namespace Go.Pm
variable [aH]
open Go.RowKit (Below)
section
variable{P:Program}{Γ:bI}{nt B:Nat}{w0:World}{h0:Fz}{g:Gh}{σ:St}{a:Act}{w:World}{r:Option Nat}{n i:Nat}{Q:Exit->Act->World->Prop}
def znj(d:DV):List Cl:=match d with | .one (.c c)=>[c]|_=>[.junk]
theorem CV (S : bW P nt B w0 h0 g σ a w) : ∀ (l : List Operand), RL (ja g) (l.flatMap fun x => znj (fK σ.env x)) (l.map a.eval)
  | []=>trivial
  | x::r=>by
    have h:=S.ev x;simp only[oD,o5];unfold znj;cases he:fK σ.env x with
    | one d =>
      cases d with|c c=>rw[he]at h;exact⟨h,CV S r⟩|agg cs=>exact⟨trivial,CV S r⟩
    | tup ds=>exact⟨trivial,CV S r⟩
theorem KG{h:Fz}{l:List PV}{vs:List Value}(hr:RL (Rep h) l vs):l.length=vs.length/\∀(j:Nat)(x:PV)(v:Value),l[j]? = some x->vs[j]? = some v->Rep h x v :=
 ⟨hr.length,λj x v hx hv=>by obtain⟨u,hu,X7⟩:=hr.get j x hx;rw[hu]at hv;simp only[bQ]at hv;rw[<- hv];exact X7⟩
theorem zbo(S:bW P nt B w0 h0 g σ a w):∀(l:List Operand){cs:List sZ},Cf (fK σ.env) l=some cs→RL (Ir g) cs (l.map a.eval)∧∀L∈lF cs,∃o,lk σ.aB L=some o
  | [],cs,h=>by simp only[Cf,bQ]at h;subst h;exact⟨trivial,λL hL=>by simp[lF]at hL⟩
  | x::l,cs,h=>by
    simp only[Cf]at h;split at h;rename_i c Ij hc hl;simp only[bQ]at h;subst h;obtain⟨i1,i2⟩:=zbo S l hl;have hx:=S.ev x;have hxl:=S.evLab x;unfold zE2 at hc;split at hc;rename_i v he;simp only[bQ]at hc;subst hc;rw[he]at hx;exact⟨⟨hx,i1⟩,i2⟩;rename_i L he;simp only[bQ]at hc;subst hc;rw[he]at hx hxl;refine⟨⟨hx,i1⟩,λM hM=>?_⟩;simp only[lF,kF]at hM;rcases hM with rfl|hM
    exact hxl M (by simp[cu,dC,bu]);exact i2 M hM;cases hc;cases h
theorem QX:∀{cs:List sZ}{vs:List Value},RL (Ir g) cs vs→RL (qM g) (cs.map capD) vs|[],[],_=>trivial|[],_::_,h=>h.elim|_::_,[],h=>h.elim|.v _::_,_::_,h=>⟨h.1,QX h.2⟩|.b _::_,_::_,h=>⟨h.1,QX h.2⟩
theorem zdN{ev:Operand->DV}{fs ls:List Operand}{l:List PV}(h:OX ev fs ls=some l):∃x cs,fs=[x]/\ls=[]/\ev x=.one (.agg cs)/\jT cs=some l:=by
 unfold OX at h;split at h;rename_i x;split at h;rename_i cs hx;exact⟨x,cs,rfl,rfl,hx,h⟩;cases h;cases h
theorem QY{o:Oper}{f:FuncId}{first caps:Array Operand}{A:aJ}(S:bW P nt B w0 h0 g σ a w)(hd:dI nt o.dst=true)(bf:o.op = .makeFunc (.func f) first caps)
    (hA:act P Γ o (fK σ.env) (lk σ.aB)=A) (hs:A.safe):jf P nt B w0 h0 r n i o A σ a w Q:=by
  simp only[act,aMf,bf]at hA;have e:∀l:Array Operand,l.map a.eval=(l.toList.map a.eval).toArray:=λl=>by cases l;simp
  split at hA;split at hA;rename_i cs hf hc;subst hA;obtain⟨i1,i2⟩:=zbo S caps.toList hc;refine o8 (by simp[bf]) (v:=.func (.func f) #[] (caps.toList.map a.eval).toArray) (w':=w) ?_ ⟨g,_,rfl,?_⟩;simp only[execOp,bf,Instr.makeFunc,Sem.run_bind,Sem.run_pure,Result.andThen_ok,e,hf,qdQ];rw [fO];exact S.put (d:=.cl (.clo f cs)) hd ⟨_,rfl,i1⟩ (λL hL=>i2 L (by simpa [cu,dC,bu]using hL)) _;subst hA;exact hs.elim;split at hA;rename_i l hb;subst hA;obtain⟨x,cs,e1,e2,hx,hl⟩:=zdN hb;have h1:=S.ev x;rw[hx]at h1;obtain⟨vs,hv,hr⟩:=h1;rw[nS hl]at hr;have hr:RL (λ(x:PV) y=>ja g (.p x) y) l vs:=RL.map_left.1 hr;have hr:RL (Rep g.h) l vs:=hr.mono λ_ _ h=>h;have r1:=KG hr;refine o8 (by simp[bf]) (v:=.func (.func f) #[.agg vs.toArray] #[]) (w':=w) ?_ ⟨g,_,rfl,?_⟩;simp only[execOp,bf,Instr.makeFunc,Sem.run_bind,Sem.run_pure,Result.andThen_ok,e,e1,e2,o5,qdQ,hv];rw [fO];exact S.put (d:=.p (.fna f l)) hd (Rep.fna f l vs r1.1 r1.2) (kD _) _;split at hA;rename_i l u l' u' h1 h2;subst hA;have h1:tq (lk σ.aB) (first.toList.flatMap λx=>znj (fK σ.env x))=some (l,u):=h1;have h2:tq (lk σ.aB) (caps.toList.flatMap λx=>znj (fK σ.env x))=some (l',u'):=h2;obtain⟨h',S1,F⟩:=S.freeze ((IU h1).append (IU h2));have r1:=KG (F.repL h1 (λy hy=>dW.2 (.inl hy)) (CV S first.toList));have r2:=KG (F.repL h2 (λy hy=>dW.2 (.inr hy)) (CV S caps.toList));have hv:Rep h' (.fn f l l') (.func (.func f) (first.toList.map a.eval).toArray (caps.toList.map a.eval).toArray):=.fn f l l' _ _ r1.1 r2.1 r1.2 r2.2;refine o8 (by simp[bf]) (v:=.func (.func f) (first.toList.map a.eval).toArray (caps.toList.map a.eval).toArray) (w':=w) ?_ ⟨⟨h',g.bk,g.sv,g.iv⟩,_,rfl,?_⟩;simp only[execOp,bf,Instr.makeFunc,Sem.run_bind,Sem.run_pure,Result.andThen_ok,e];rw [fO];exact S1.put (d:=.p (.fn f l l')) hd hv (λL hL=>by simp[cu,dC,bu]at hL) _;subst hA;exact hs.elim
theorem I4{h h':Fz}{p:PV}{v:Value}(hs:jI p=true)(hr:Rep h' p v):Rep h p v:=by
 cases hr with|bool b=>exact .bool b|int k n=>exact .int k n|_=>cases hs
theorem CW{h h':Fz}:∀{l:List PV}{vs:List Value},l.all jI=true→RL (Rep h') l vs→RL (Rep h) l vs
  | [],[],_,_=>trivial
  | [],_::_,_,hr=>hr.elim
  | _::_,[],_,hr=>hr.elim
  | p::l,v::vs,hs,hr=>by
    simp only[qd0,gz]at hs;exact⟨I4 hs.1 hr.1,CW hs.2 hr.2⟩
theorem zbp{h h':Fz}{x:PA}{v:Value}(hs:zgu x=true)(hr:nN h' x v):nN h x v:=by
 cases x with
 | one p=>exact I4 hs hr
 | agg cs =>
  obtain⟨vs,rfl,hr⟩:=hr;exact⟨vs,rfl,CW hs hr⟩
theorem KH{h h':Fz}:∀{l:List PA}{vs:List Value},l.all zgu=true→RL (nN h') l vs→RL (nN h) l vs
  | [],[],_,_=>trivial
  | [],_::_,_,hr=>hr.elim
  | _::_,[],_,hr=>hr.elim
  | p::l,v::vs,hs,hr=>by
    simp only[qd0,gz]at hs;exact⟨zbp hs.1 hr.1,KH hs.2 hr.2⟩
theorem zha{h h':Fz}{rs:List PA}{v:Value}(hs:Ux rs=true)(hr:qg h' rs v):qg h rs v:=by
 match rs,hs,hr with
 | [],_,⟨vs,e,r⟩=>exact⟨vs,e,KH rfl r⟩
 | [x],hs,hr =>
  simp only[Ux,qd0,List.all_nil,qjU]at hs;exact zbp hs hr
 | x::y::l,hs,⟨vs,e,r⟩=>exact⟨vs,e,KH hs r⟩
def yA(h h' h2:Fz):Fz:=λb=>match h b,h' b with|none,some _=>none|_,_=>h2 b
theorem Vd{h h' h2:Fz}(h1:jP h h')(h3:jP h' h2):jP h (yA h h' h2):=λb o hb=>by
 show(match h b,h' b with|none,some _=>none|_,_=>h2 b)=some o;rw[hb];exact h3 b o (h1 b o hb)
theorem Fh{h h' h2:Fz}:jP (yA h h' h2) h2:=λb o hb=>by
 have hb:(match h b,h' b with|none,some _=>none|_,_=>h2 b)=some o:=hb;split at hb;cases hb;exact hb
theorem PI{h h' h2:Fz}{n:Nat}(h1:jP h h')(hn:∀b o,h2 b=some o->h' b=some o\/n<=b)(b:Nat)(o:UF)(hb:yA h h' h2 b=some o):h b=some o\/n<=b:=by
 have Ur:=Fh b o hb;have hb:(match h b,h' b with|none,some _=>none|_,_=>h2 b)=some o:=hb;rcases hn b o Ur with h4|h4
 ·cases e:h b with
  | none=>rw[e,h4]at hb;cases hb
  | some x =>
   have:=h1 b x e;rw[h4]at this;exact .inl this.symm
 exact .inr h4
theorem YT{h h' h2:Fz}{k:Nat}(hk:h2 k=none):yA h h' h2 k=none:=by
 show(match h k,h' k with|none,some _=>none|_,_=>h2 k)=none;split;rfl;exact hk
theorem zbq:∀{l:List PV}{o:Nat}{x y:PV},zgv l=true→l[o]? = some x→l[o+1]? = some y→jI x=true→jI y=true→False
  | [],o,x,y,_,hx,_,_,_=>by simp at hx
  | [a],0,x,y,_,_,hy,_,_=>by simp at hy
  | [a],o+1,x,y,_,hx,_,_,_=>by simp at hx
  | a::b::r,0,x,y,h,hx,hy,h1,h2=>by
    simp at hx hy;subst hx hy;simp[zgv,h1,h2]at h
  | a::b::r,o+1,x,y,h,hx,hy,h1,h2=>by
    simp only[zgv,gz]at h;exact zbq (l:=b::r) h.2 (by simpa using hx) (by simpa using hy) h1 h2
theorem KI{h h':Fz}{p q:PV}{v:Value}(hs:jI p=true)(hp:Rep h p v)(hq:Rep h' q v):jI q=true:=by
 cases hp with
 | bool b=>cases hq with|bool=>rfl
 | int k n=>cases hq with|int=>rfl
 | _=>cases hs
theorem Ve{u:lX}(h:zaU u=true):∀x∈u,∃l,x.2=.fbox l/\∀v∈l,jI v=false:=by
 intro y hy;unfold zaU at h;split at h;rcases kF.1 hy with rfl|hy
 refine⟨_,rfl,fun v hv => ?_⟩;have:=Af.1 h v hv;simpa using this;rcases kF.1 hy with rfl|hy
 exact⟨_,rfl,λv hv=>by simp only[kY]at hv;subst hv;rfl⟩;simp at hy;cases h
theorem PK{g:Gh}{ob:Nat→Option AO}{u:lX}{h' h2:Fz}(F:fG g ob u h')(hu:fA ob u)(sW:∀x∈u,∃l,x.2 = .fbox l∧∀v∈l,jI v=false)(hle:jP h' h2){p:PV}(ha:Anch p) :
  ∀{v:Value},Rep h2 p v->Rep (yA g.h h' h2) p v:=by
 induction ha with
 | scal v h=>intro x hr;exact I4 h hr
 | nils=>intro x hr;cases hr;exact .nils
 | sl n s get h Gt ih =>
  intro x hr;cases hr with
  | sl0 _ _ Ii=>exact .sl0 _ _ Ii
  | sle _ _ a cap Ii=>exact .sle _ _ a cap Ii
  | sl _ _ _ Ii b o cap C ty fr vs hb ku hlen hc hr =>
   cases n with
   | zero=>exact .sle _ _ _ _ Ii
   | succ m =>
   refine .sl _ _ _ Ii b o cap C ty fr vs ?_ ku hlen hc λi j x hi hx=>ih i x (Jr hx) (hr i j x hi hx);show(match g.h b,h' b with|none,some _=>none|_,_=>h2 b)=_;cases e1:g.h b with
   | some y=>exact hb
   | none =>
    cases e2:h' b with
    | none=>exact hb
    | some y =>
     exfalso;have hy:y=.fz (.cells C ty fr):=by
      have:=hle b y e2;rw[hb]at this;exact(Yg this).symm
     subst hy;obtain⟨L,x,o',hm,hL,hk⟩:=F.new b e1 _ e2;obtain⟨l0,hl0,hns⟩:=sW _ hm;simp only at hl0;subst hl0;rcases hu _ hm with⟨e,s,b',n,get',_,e3⟩|⟨Yl,cells,l,us,e4,e3,e5,e6⟩|⟨te,bb,e,s,b',n,ln,get',_,e3⟩
     cases e3;simp only at e3 e4;cases e3;rw[hL]at e4;simp only[bQ]at e4;subst e4;obtain⟨C',X8,nH⟩:=F.box L Yl cells l0 us hL e5 e6 hm;have hk:g.bk L=b:=hk;subst hk;rw[e2]at X8;simp only[bQ,UF.fz.injEq,Obj.cells.injEq]at X8;obtain⟨rfl,rfl,rfl⟩:=X8;obtain⟨j,x0,hx0,hs0⟩:=h 0;have c0:=hc 0 j x0 omY hx0;have hl:=nH.length;have iw:o+0*s+j<l0.length:=by
      have:=(Us.1 c0).1;simp only[qd7]at hl;omega
     obtain⟨v0,hv0,r0⟩:=nH.get _ _ (Ae iw);have hv0:C[o+0*s+j]? = some v0:=by simpa using hv0
     rw[hv0]at c0;simp only[bQ]at c0;subst c0;have:=KI hs0 (hr 0 j x0 omY hx0) r0;rw[hns _ (qde iw)]at this;cases this;cases e3
theorem CX{x y:PV}(h:Sm x y):jI x=jI y:=by cases h<;>rfl
theorem zhb:∀{d:Nat}{x y:PV},Sm x y->Ag d x=true->Ag d y=true:=by
 intro d
 induction d with
 | zero=>intro x y _ h;cases h
 | succ d ih =>
  intro x y hs h;have hs2:=CX hs;cases hs with
  | sl n m s g g' hl hg =>
   have hr:=(Sm.rows (.sl n m s g g' hl hg)).2 0 0;simp only[Ag,gz,qjm,Af]at h ⊢;obtain⟨⟨x,hx,hxs⟩,h2⟩:=h;obtain⟨j,hj⟩:=Yo hx;obtain⟨y,hy,r⟩:=RL.get hr j x hj;refine⟨⟨y,Jr hy,by rw[<- CX r];exact hxs⟩,λz hz=>?_⟩;obtain⟨k,hk⟩:=Yo hz;obtain⟨u,hu,r⟩:=RL.get' hr k z hk;exact ih r (h2 u (Jr hu))
  | int k a b=>rfl
  | bool a b=>rfl
  | fp l l' o hl hg=>exact h
  | atom p hp=>exact h
theorem Vf{d:Nat}{g:Nat->List PV}(hu:tH g)(h:(g 0).all (Ag d)=true){i:Nat}{x:PV}(hx:x∈g i):Ag d x=true:=by
 obtain⟨j,hj⟩:=Yo hx;obtain⟨y,hy,r⟩:=RL.get' (hu 0 i) j x hj;exact zhb r (Af.1 h y (Jr hy))
theorem Vg:∀{d:Nat}{x:PV},Ag d x=true->Sm x x->Anch x:=by
 intro d
 induction d with
 | zero=>intro x h;cases h
 | succ d ih =>
  intro x h hs;unfold Ag at h;split at h;exact .nils;rename_i n s g;rw[gz]at h;have hu:tH g:=hs.rows.2;refine .sl _ _ _ (λi=>?_) λi y hy=>?_;obtain⟨x,hx,hxs⟩:=qjm.1 h.1;obtain⟨j,hj⟩:=Yo hx;obtain⟨y,hy,r⟩:=RL.get (hu 0 i) j x hj;exact⟨j,y,hy,by rw[<- CX r];exact hxs⟩;refine ih (Vf hu h.2 hy) ?_;obtain⟨j,hj⟩:=Yo hy;obtain⟨z,hz,r⟩:=RL.get (hu i i) j y hj;rw[hj]at hz;cases hz;exact r;exact .scal _ h
theorem zwT{l m:List PV}(h:RS l m)(hs:sc2 l=true):sc2 m=true:=by
 simp only[sc2,gz,Af,Ug]at hs ⊢;refine⟨λx hx=>?_,by rw[<- h.length];exact hs.2⟩;obtain⟨j,hj⟩:=Yo hx;obtain⟨y,hy,r⟩:=RL.get' h j x hj;rw[<- CX r];exact hs.1 y (Jr hy)
theorem zhc{l m:List PV}(h:RS l m)(hs:l.all jI=true):m.all jI=true:=by
 rw[Af]at hs ⊢;intro x hx;obtain⟨j,hj⟩:=Yo hx;obtain⟨y,hy,r⟩:=RL.get' h j x hj;rw[<- CX r];exact hs y (Jr hy)
theorem bW.borrow(S:bW P nt B w0 h0 g σ a w){u:lX}{h' h2 hx:Fz}{w':World}(F:fG g (lk σ.aB) u h')(hb:xx h' w.heap.size w w')(Ya:Hw h2 w')
    (h1:jP g.h hx) (h3:jP hx h2) (h4:∀b o,hx b=some o->g.h b=some o\/w.heap.size<=b):bW P nt B w0 h0 ⟨hx,g.bk,g.sv,g.iv⟩ σ a w' :=
  S.world h1 (λb x mW=>Ya b x (h3 b x mW)) h4 ⟨hb.os,hb.tape,hb.output,hb.size,hb.drawn,λk hk=>hb.block k hk⟩
theorem ownsRow_base{w:World}{base B e s n:Nat}{v:Value}{xs:List Value}(h:w.ownsRow base e s v n xs)(hB:∀k,base<=k->v.ownBlock=some k->B<=k):w.ownsRow B e s v n xs:=by
 refine⟨h.1,?_⟩;rcases h.2 with hn|⟨k,cap,cur,rfl,hk,rest⟩
 exact .inl hn;exact .inr ⟨k,cap,cur,rfl,hB k hk rfl,rest⟩
theorem zbr{args:Array Operand}{ev:Operand->DV}{p:DV}(h:args.toList.map ev=[p]):∃x,args = #[x]/\ev x=p:=by
 match hl:args.toList,h with
 | [x],h =>
  simp at h;exact⟨x,by rw[<- qdc (xs:=args),hl],h⟩
 | [],h=>simp at h
 | _::_::_,h=>simp at h
theorem znk{e m s:Nat}{get:Nat->List PV}{args:Array Operand}(S:bW P nt B w0 h0 g σ a w)(h:zwv P e (args.toList.map (fK σ.env))=some (m,s,get)):∃x,args = #[x]/\Rep g.h (.sl m s get) (a.eval x):=by
 generalize hl:args.toList.map (fK σ.env)=l at h;unfold zwv at h;split at h;cases h;obtain⟨x,rfl,hx⟩:=zbr hl;exact⟨x,rfl,jv S hx⟩;split at h;rename_i z hz;split at h;rename_i k hk;cases h;obtain⟨x,rfl,hx⟩:=zbr hl;have:=jv S hx;refine⟨x,rfl,?_⟩;generalize a.eval x=v at this;cases this;exact .sl0 _ _ λ_ _=>IR hz hk;cases h;cases h;cases h
theorem Vh{α:Type}:∀{l m:List α}{x:α},JE l=some (m,x)→l=m++[x]
  | [],m,x,h=>by cases h
  | d::r,m,x,h=>by
    simp only[JE]at h;split at h;rename_i l' y e;cases h;rw[Vh e];rfl
    · rename_i e;cases h;cases r with
      | nil=>rfl
      | cons y r =>
        simp only[JE]at e;split at e<;>cases e
theorem PM{f:Operand->DV}{args:Array Operand}{ds:List DV}{d:DV}(h:JE (args.toList.map f)=some (ds,d)):∃(xs:List Operand)(x:Operand),args.toList=xs++[x]/\ds=xs.map f/\f x=d:=by
 obtain⟨xs,ys,e1,e2,e3⟩:=List.map_eq_append_iff.1 (Vh h)
 match ys,e3 with
 | [x],e3 =>
  simp only[o5,qdQ,Gu,qj9]at e3;exact⟨xs,x,e1,e2.symm,e3⟩
theorem Vj{f:Operand->Value}{args:Array Operand}{xs:List Operand}{x:Operand}(h:args.toList=xs++[x]):(#[]++Array.map f args ++ #[])=(xs.map f++[f x]).toArray:=by
 have e:args=(xs++[x]).toArray:=by rw[<- h]
 subst e;simp
theorem zhd{o:Oper}{f:Operand}{args:Array Operand}{ts:Array TypeId}{A:aJ}{gf:FuncId}{e s b:Nat}{F:List PA→Nat→(Nat→List PV)→ae (Nat×(Nat→List PV))}(fP:fU P gf (.grow e s b F))(S:bW P nt B w0 h0 g σ a w)(hd:dI nt o.dst=true)
    (bf:o.op=.call {callee:=.value f,args,argTypes:=ts}) (NR:a.eval f=.func (.func gf) #[] #[])
    (hA:kC P Γ o (.grow e s b F) (args.toList.map (fK σ.env)) (lk σ.aB)=A) (hs:A.safe):jf P nt B w0 h0 r n i o A σ a w Q:=by
  unfold kC at hA;simp only at hA;split at hA;rename_i ds L NS;obtain⟨xs,x,gp,rfl,hx⟩:=PM NS;split at hA;rename_i az e' s' b' n get has hL;split at hA;rename_i m get' hF;split at hA;rename_i dh;obtain⟨rfl,rfl,rfl⟩:=dh;subst hA;obtain⟨⟨xH,lM⟩,_⟩:=iJ S hx;obtain⟨iF,mV,ys,Yd,hr⟩:=S.obj L _ hL;have hav:=S.frozen0.repDs has (λy hy=>hy) (CS S xs);obtain⟨fJ,df⟩:=fP w g.h B az (xs.map a.eval) (g.sv L) n get m get' hF hav (by rw[<- xH];exact lM) iF mV ⟨ys,Yd,hr⟩ (λk hk=>S.own L _ k hL hk) S.hw S.bs;refine qO (by simp[bf]) (w':=w) (f:=gf) (args:=(xs.map a.eval++[g.sv L]).toArray) ?_ (df.mono ?_);simp only [execOp,bf,resolve,NR,Deferred.ofValue,Sem.run_bind,Sem.run_pure,Result.andThen_ok,invoke];rw[show(#[]++Array.map a.eval args ++ #[])=(xs.map a.eval++[g.sv L]).toArray by rw[<- xH];exact Vj gp];exact ed fJ;rintro r0 w' ⟨h2,v',rfl,Vk,YG,⟨zs,zZ,hrz⟩,hblk,hle,Ya,hn2,hX⟩;let g':Gh:=⟨h2,g.bk,λM=>if M=L then v' else g.sv M,g.iv⟩;have lW:g'.sv L=v':=eX rfl;have zhe:∀M x,lk [(L,AO.vec e' s' b' m get')] M=some x->M=L/\x=.vec e' s' b' m get':=λM x h=>by
    rw[aW]at h;split at h;rename_i e;exact⟨e.symm,(Yg h).symm⟩;cases h
  have S1 := S.swap (u := [(L, .vec e' s' b' m get')]) (kl := [L]) (K := (g.sv L).ownBlock.toList) (g' := g') hle Ya (fun _ => rfl)
    (λM hM=>⟨rfl,fF λe=>hM (by rw[e];exact kY.2 rfl),rfl⟩)
    (λM hM=>by rw[kY.1 hM,aW,eX rfl];simp) hX
    (λk hk=>⟨L,_,_,by rw[aW,eX rfl],hL,(show(g.sv L).ownBlock=some k by simpa using hk)⟩)
    (λM x hx=>by obtain⟨rfl,rfl⟩:=zhe M x hx;exact⟨⟨YG,iF.2⟩,mV,zs,by rw[lW];exact zZ,hrz⟩)
    (λM x k hx hk=>by obtain⟨rfl,rfl⟩:=zhe M x hx;exact hblk k (by rw[<- lW];exact hk))
    (λM x k M' x' hx xW _ _=>by rw[(zhe M x hx).1,(zhe M' x' xW).1])
    (λM x hx N hN=>by obtain⟨rfl,rfl⟩:=zhe M x hx;simp[dU]at hN) (λk y hk=>hn2 k y hk) σ.log
  refine⟨v',rfl,g',_,rfl,?_⟩;rw[QV];refine S1.put (v:=v') hd (d:=.cl (.vec L)) ⟨lW.symm,Vk⟩ (λM hM=>?_) σ.log;simp[cu,dC,bu]at hM;subst hM;exact⟨_,by rw[jqA,aW,eX rfl]⟩;subst hA;exact hs.elim;subst hA;exact hs.elim;subst hA;exact hs.elim;rename_i ds NS;obtain⟨xs,x,gp,rfl,hx⟩:=PM NS;split at hA;rename_i az dst has Gp;split at hA;rename_i ie z gV hi hz;split at hA;rename_i l hl;split at hA;rename_i m get' hF;split at hA;rename_i dh;obtain⟨jH,rfl,iF⟩:=dh;subst hA;obtain⟨zv,Gq,zZ⟩:=iW hz hi;have xH:a.eval x=.slice none 0 0:=by
    have:=jv S hx;generalize a.eval x=v at this;cases this;rfl
  have hnb:(a.eval x).ownBlock=none:=by rw[xH];rfl
  have hav:=S.frozen0.repDs has (λy hy=>hy) (CS S xs);have mV:∃i z,P.info? e=some i/\i.size=s/\i.bytes=ie.bytes/\i.zero=some z/\z.cells.size=s:=⟨ie,zv,hi,jH,rfl,Gq,by rw[zZ,jH]⟩;obtain⟨fJ,df⟩:=fP w g.h B az (xs.map a.eval) (a.eval x) 0 (λ_=>l) m get' hF hav (by rw[xH];rfl) ⟨JH (IR hz hl),iF⟩ mV ⟨[],by rw[xH];exact World.ownsRow_nil w B e s,λi hi=>absurd hi omY⟩ (λk hk=>by rw[hnb]at hk;cases hk) S.hw S.bs;refine qO (by simp[bf]) (w':=w) (f:=gf) (args:=(xs.map a.eval++[a.eval x]).toArray) ?_ (df.mono ?_);simp only [execOp,bf,resolve,NR,Deferred.ofValue,Sem.run_bind,Sem.run_pure,Result.andThen_ok,invoke];rw[Vj gp];exact ed fJ;rintro r0 w' ⟨h2,v',rfl,Vk,YG,⟨zs,zwP,hrz⟩,hblk,hle,Ya,hn2,hX⟩;have sV:∀k,v'.ownBlock=some k->w.heap.size<=k/\h2 k=none:=λk hk=>by
    obtain⟨h3,h4⟩:=hblk k hk;exact⟨h3.elim (λh=>by rw[hnb]at h;simp at h) id,h4⟩
  have S2:=S.world hle Ya (λk y hk=>by
    rcases hn2 k y hk with h|h|h
    exact .inl h;exact .inr h;rw[hnb]at h;simp at h) ⟨hX.os,hX.tape,hX.output,hX.size,hX.drawn,λk hk=>hX.block k hk (by rw[hnb];simp)⟩
  have S3:=S2.adopt (t:=dst) (v:=v') (e:=e) (s:=s) (b:=ie.bytes) (n:=m) (get:=get') gV (λk hk=>⟨Gv S.bs (sV k hk).1,(sV k hk).2,λL o ho cO=>by
      have iq:gQ g L o k:=cO;have:=iI (S.obj L o ho) iq;have:=(sV k hk).1;omega⟩) (by
    refine⟨⟨YG,iF⟩,mV,zs,?_,hrz⟩;rw[show((⟨h2,g.bk,g.sv,g.iv⟩:Gh).setSv dst v').sv dst=v' by simp[Gh.setSv]];exact zwP)
  refine⟨v',rfl,(⟨h2,g.bk,g.sv,g.iv⟩:Gh).setSv dst v',_,rfl,?_⟩;rw[fO];refine S3.put (v:=v') hd (d:=.cl (.vec dst)) ⟨by simp[Gh.setSv],Vk⟩ ?_ _;intro L hL;simp[cu,dC,bu]at hL;subst hL;exact⟨_,by rw[aW,eX rfl]⟩;subst hA;exact hs.elim;subst hA;exact hs.elim;subst hA;exact hs.elim;subst hA;exact hs.elim;subst hA;exact hs.elim;subst hA;exact hs.elim
theorem znl{o:Oper}{f:Operand}{args:Array Operand}{ts:Array TypeId}{A:aJ}{gf:FuncId}(Gs:jk P Γ)(S:bW P nt B w0 h0 g σ a w)(hd:dI nt o.dst=true)
    (bf:o.op=.call {callee:=.value f,args,argTypes:=ts}) (NR:a.eval f=.func (.func gf) #[] #[])
    (hA:kC P Γ o (Γ.own gf) (args.toList.map (fK σ.env)) (lk σ.aB)=A) (hs:A.safe):jf P nt B w0 h0 r n i o A σ a w Q:=by
  have enter:∀x,args = #[x]->dm P gf->(execOp a.eval o).run P w=.ok (.enter gf #[a.eval x]) w:=by
    rintro x rfl fJ;simp only[execOp,bf,resolve,NR,Deferred.ofValue,Sem.run_bind,Sem.run_pure,Result.andThen_ok,invoke];rw[show(#[]++Array.map a.eval #[x] ++ #[]) = #[a.eval x]by simp];exact ed fJ
  have fP:=Gs.own gf;unfold kC at hA;split at hA;subst hA;exact hs.elim;rename_i e s b hk;rw[hk]at fP;split at hA;rename_i L hf caps gp;obtain⟨x,y,rfl,hx,hy⟩:=J5 gp;obtain⟨⟨xH,lM⟩,_⟩:=iJ S hx;split at hA;rename_i e' s' b' m get ag hL uw;split at hA
  · rename_i dh;obtain⟨rfl,rfl,rfl⟩:=dh;subst hA;have rM:zwt m (λi j=>(JC (Γ.cfn hf) caps ag get i j).isSome) (nJ (Γ.cfn hf) caps ag get):=hs;obtain⟨iF,mV,xs,hxs,hr⟩:=S.obj L _ hL;have iZ:∀k,(g.sv L).ownBlock=some k->g.h k=none:=λk hk=>(S.own L _ k hL hk).2;have sU:=jv S hy;generalize Qs:a.eval y=yv at sU;cases sU with
    | fn _ _ _ fv cv l1 l2 hf1 EI =>
      have e1:fv=[]:=qdw l1.symm;subst e1;obtain⟨ii,zz,hi1,hi2,_⟩:=mV;obtain⟨fJ,df⟩:=fP w g.h B (g.sv L) m get hf caps cv ag (Γ.cfn hf) (Gs.cmp hf) (KC l2 EI) uw ⟨ii,hi1,hi2⟩ iF.2 ⟨xs,hxs,hr⟩ (by rw[<- xH];exact lM) S.hw iZ S.bs rM;refine qO (by simp[bf]) (w':=w) (f:=gf) (args:=#[a.eval x,a.eval y]) ?_ ?_;simp only [execOp,bf,resolve,NR,Deferred.ofValue,Sem.run_bind,Sem.run_pure,Result.andThen_ok,invoke];rw[show(#[]++Array.map a.eval #[x,y] ++ #[]) = #[a.eval x,a.eval y]by simp];exact ed fJ;rw [xH,Qs];refine df.mono ?_;rintro r0 w' ⟨rfl,⟨xs',zPD,uA⟩,hg⟩;refine⟨.tuple #[],rfl,g,_,rfl,?_⟩;rw[fO];have hold:∀k,k<w.heap.size->¬(g.sv L).ownBlock=some k->w'.heap[k]? = w.heap[k]?:=λk hk jb=>hg.block k hk (λe=>jb e.symm)
      have S' := S.write2 (o' := .vec e' s' b' m (JD m (nJ (Γ.cfn hf) caps ag get) get)) hL (fun b hb => hb) ⟨⟨hg.os, hg.tape, hg.output, hg.size, fun k hk => hold k (qdt hk S.bs) (fun e => by have := (S.own L _ k hL e).1; omega)⟩, hg.drawn⟩
        hold ⟨⟨vS iF.1 _,iF.2⟩,⟨ii,zz,hi1,hi2,by assumption⟩,xs',zPD,uA⟩ (λM hM=>by simp[dU]at hM)
      exact S'.put (d:=.tup []) hd ⟨[],rfl,trivial⟩ (λL hL=>by simp[cu]at hL) _
  subst hA;exact hs.elim;subst hA;exact hs.elim;subst hA;exact hs.elim;rename_i e s b hk;rw[hk]at fP;split at hA;rename_i m s' get dst gp Gp;obtain⟨x,rfl,hx⟩:=znk S gp;split at hA;rename_i ie z gV hi hz;split at hA;rename_i dh;obtain⟨rfl,jH,rfl,iF⟩:=dh;subst hA;have rM:m*ie.bytes<=140737488355328/\m<=9223372036854775807:=hs;obtain⟨zv,Gq,zZ⟩:=iW hz hi;obtain⟨fJ,df⟩:=fP w g.h (a.eval x) m get hx S.hw rM.1 rM.2;refine qO (by simp[bf]) (w':=w) (f:=gf) (args:=#[a.eval x]) (enter x rfl fJ) (df.mono ?_);rintro r0 w' ⟨h',v',rfl,lM,⟨xs,hxs,hr⟩,hnh,hb,hle,Jp,hn'⟩;refine⟨v',rfl,?_⟩;have S2:=S.world hle Jp hn' hb;have sV:∀k,v'.ownBlock=some k->w.heap.size<=k:=λk hk=>(hxs.lt k hk).1;have S3:=S2.adopt (t:=dst) (v:=v') (e:=e) (s:=s') (b:=ie.bytes) (n:=m) (get:=get) gV (λk hk=>⟨Gv S.bs (sV k hk),hnh k hk,λL o ho cO=>by
      have iq:gQ g L o k:=cO;have:=iI (S.obj L o ho) iq;have:=sV k hk;omega⟩) (by
    refine⟨⟨hx.un.rows.2,iF⟩,⟨ie,zv,hi,jH,rfl,Gq,by rw[zZ,jH]⟩,xs,?_,hr⟩;rw[show((⟨h',g.bk,g.sv,g.iv⟩:Gh).setSv dst v').sv dst=v' by simp[Gh.setSv]];exact ownsRow_base hxs λk hk _=>Gv S.bs hk)
  refine⟨(⟨h',g.bk,g.sv,g.iv⟩:Gh).setSv dst v',_,rfl,?_⟩;rw[fO];refine S3.put (v:=v') hd (d:=.cl (.vec dst)) ⟨by simp[Gh.setSv],lM⟩ ?_ _;intro L hL;simp[cu,dC,bu]at hL;subst hL;exact⟨_,by rw[aW,eX rfl]⟩;subst hA;exact hs.elim;subst hA;exact hs.elim;subst hA;exact hs.elim;rename_i e s b F hk;rw[hk]at fP;split at hA;rename_i az u dst has Gp;split at hA;rename_i n get rs ie z hF gV hi hz;split at hA
  · rename_i dh;obtain⟨jH,rfl,iF,zFn,zFo⟩:=dh;subst hA;obtain⟨zv,Gq,zZ⟩:=iW hz hi;obtain⟨h',S1,F'⟩:=S.freeze (yt has);have gp:=F'.repDs has (λy hy=>hy) (CS S args.toList);obtain⟨fJ,df⟩:=fP w h' az (args.toList.map a.eval) n get rs hF gp S1.hw;refine qO (by simp[bf]) (w':=w) (f:=gf) (args:=(args.toList.map a.eval).toArray) ?_ (df.mono ?_);simp only [execOp,bf,resolve,NR,Deferred.ofValue,Sem.run_bind,Sem.run_pure,Result.andThen_ok,invoke];rw[show(#[]++Array.map a.eval args ++ #[])=(args.toList.map a.eval).toArray by cases args;simp];exact ed fJ;rintro r0 w' ⟨h2,v',xs,rfl,hxr,lM,YG,⟨ys,Yd,hr⟩,hnh,hb,hle,Ya,hn2⟩;have hlr:∀i,i<n->RL (Rep (yA g.h h' h2)) (get i) ((ys.drop (i*s)).take s):=λi hi=>by
      cases u with
      | nil =>
        refine(hr i hi).mono λ_ _ h=>Rep.mono (λb o hbo=>?_) h;show(match g.h b,h' b with|none,some _=>none|_,_=>h2 b)=some o;cases e1:g.h b with
        | some y=>exact hbo
        | none =>
          cases e2:h' b with
          | none=>exact hbo
          | some y =>
            obtain⟨L,x,o',hm,_⟩:=F'.new b e1 _ e2;simp at hm
      | cons x l =>
        have h3:=zFn;unfold zgC at h3;split at h3;rename_i e;cases e;split at h3;rename_i e;exact(hr i hi).mono_mem λp v hp h=>PK F' (yt has) (Ve e) hle (Vg (Vf YG h3 hp) (by
          obtain⟨j,hj⟩:=Yo hp;obtain⟨z,hz,r⟩:=RL.get (YG i i) j p hj;rw[hj]at hz;cases hz;exact r)) h
        exact CW (zhc (YG 0 i) h3) (hr i hi)
    have S2:=S.borrow F' hb Ya (Vd F'.le hle) Fh (PI F'.le hn2);have sV:∀k,v'.ownBlock=some k->w.heap.size<=k:=λk hk=>(Yd.lt k hk).1;have S3:=S2.adopt (t:=dst) (v:=v') (e:=e) (s:=s) (b:=ie.bytes) (n:=n) (get:=get) gV (λk hk=>⟨Gv S.bs (sV k hk),YT (hnh k hk),λL o ho cO=>by
        have iq:gQ g L o k:=cO;have:=iI (S.obj L o ho) iq;have:=sV k hk;omega⟩) (by
      refine⟨⟨YG,iF⟩,⟨ie,zv,hi,jH,rfl,Gq,by rw[zZ,jH]⟩,ys,?_,hlr⟩;rw[show((⟨yA g.h h' h2,g.bk,g.sv,g.iv⟩:Gh).setSv dst v').sv dst=v' by simp[Gh.setSv]];exact ownsRow_base Yd λk hk _=>Gv S.bs hk)
    refine⟨UG v' xs rs,rfl,(⟨yA g.h h' h2,g.bk,g.sv,g.iv⟩:Gh).setSv dst v',_,rfl,?_⟩;rw[fO];have hvx:RL (Rep (yA g.h h' h2)) rs xs:=CW zFo hxr;cases rs with
    | nil =>
      refine S3.put (v:=v') hd (d:=.cl (.vec dst)) ⟨by simp[Gh.setSv],lM⟩ ?_ _;intro L hL;simp[cu,dC,bu]at hL;subst hL;exact⟨_,by rw[aW,eX rfl]⟩
    | cons x l =>
      refine S3.put (v:=.tuple (v'::xs).toArray) hd (d:=.tup (.c (.vec dst)::(x::l).map λv=>.c (.p v))) ⟨v'::xs,rfl,⟨by simp[Gh.setSv],lM⟩,?_⟩ ?_ _;refine RL.map_left.2 (hvx.mono λ_ _ h=>h);intro L hL;have Qx:L=dst:=by
        simp only[cu,oD,dW,lD,xq]at hL;rcases hL with hL|⟨d,⟨v,_,rfl⟩,hL⟩
        simpa [dC,bu]using hL;simp[dC,bu]at hL
      subst Qx;exact⟨_,by rw[aW,eX rfl]⟩
  subst hA;exact hs.elim;subst hA;exact hs.elim;subst hA;exact hs.elim;rename_i e s b F hk;rw[hk]at fP;exact zhd (Γ:=Γ) fP S hd bf NR hA hs
theorem znm{g:Gh}{ob:Nat→Option AO}{u:lX}{h' h2:Fz}{n s:Nat}{get:Nat→List PV}{v:Value}(F:fG g ob u h')(hu:fA ob u)(sW:u.all ztB=true)(hle:jP h' h2)(hg:∀i,sc2 (get i)=true)
    (hr:Rep h2 (.sl n s get) v):Rep (yA g.h h' h2) (.sl n s get) v:=by
  cases hr with
  | sl0 _ _ Ii=>exact .sl0 _ _ Ii
  | sle _ _ a cap Ii=>exact .sle _ _ a cap Ii
  | sl _ _ _ Ii b o cap C ty fr vs hb ku hlen hc hr =>
    cases n with
    | zero=>exact .sle _ _ _ _ Ii
    | succ m =>
    have hsc:∀i j x,(get i)[j]? = some x->jI x=true:=λi j x hx=>by
      have:=hg i;simp only[sc2,gz,Af]at this;exact this.1 x (Jr hx)
    refine .sl _ _ _ Ii b o cap C ty fr vs ?_ ku hlen hc λi j x hi hx=>I4 (hsc i j x hx) (hr i j x hi hx);show(match g.h b,h' b with|none,some _=>none|_,_=>h2 b)=_;cases e1:g.h b with
    | some y=>exact hb
    | none =>
      cases e2:h' b with
      | none=>exact hb
      | some y =>
        exfalso;have hy:y=.fz (.cells C ty fr):=by
          have:=hle b y e2;rw[hb]at this;exact(Yg this).symm
        subst hy;obtain⟨L,x,o',hm,hL,hk⟩:=F.new b e1 _ e2;have hna:=Af.1 sW _ hm;have z1R:2<=(get 0).length:=by
          have:=hg 0;simp only[sc2,gz,Ug]at this;exact this.2
        rcases hu _ hm with⟨e,s,b',n,get',_,e3⟩|⟨Yl,cells,l,us,e4,e3,e5,e6⟩|⟨te,bb,e,s,b',n,ln,get',_,e3⟩
        simp only at e3;subst e3;cases hna;simp only at e3 e4;subst e3;rw[hL]at e4;simp only[bQ]at e4;subst e4;obtain⟨C',X8,nH⟩:=F.box L Yl cells l us hL e5 e6 hm;have hk:g.bk L=b:=hk;subst hk;rw[e2]at X8;simp only[bQ,UF.fz.injEq,Obj.cells.injEq]at X8;obtain⟨rfl,rfl,rfl⟩:=X8;obtain⟨x0,hx0⟩:∃x,(get 0)[0]? = some x:=⟨_,Ae omY⟩;obtain⟨x1,hx1⟩:∃x,(get 0)[1]? = some x:=⟨_,Ae omY⟩;have c0:=hc 0 0 x0 omY hx0;have c1:=hc 0 1 x1 omY hx1;simp only[jqy,qdW]at c0 c1;have hl:=nH.length;have l0:o<l.length:=by
          have:=(Us.1 c0).1;simp at hl;omega
        have l1:o+1<l.length:=by
          have:=(Us.1 c1).1;simp at hl;omega
        obtain⟨v0,hv0,r0⟩:=nH.get o _ (Ae l0);obtain⟨v1,hv1,r1⟩:=nH.get (o+1) _ (Ae l1);have hv0:C[o]? = some v0:=by simpa using hv0
        have hv1:C[o+1]? = some v1:=by simpa using hv1
        rw[hv0]at c0;rw[hv1]at c1;simp only[bQ]at c0 c1;subst c0 c1;exact zbq hna (Ae l0) (Ae l1) (KI (hsc 0 0 x0 hx0) (hr 0 0 x0 omY hx0) r0) (KI (hsc 0 1 x1 hx1) (hr 0 1 x1 omY hx1) r1);simp only at e3;subst e3;cases hna
theorem zhf{g:Gh}{ob:Nat->Option AO}{u:lX}{h' h2:Fz}{r:List PA}{v:Value}(F:fG g ob u h')(hu:fA ob u)(hl:Uy u r=true)(hle:jP h' h2)(hr:qg h2 r v):qg (yA g.h h' h2) r v:=by
 unfold Uy at hl;split at hl
 ·rename_i n s get x us;have Ii:Sm (.sl n s get) (.sl n s get):=Rep.un (h:=h2) (v:=v) hr;have YG:tH get:=Ii.rows.2;cases hg:sc2 (get 0)with
  | true =>
   simp only[hg]at hl;exact znm (n:=n) (s:=s) (get:=get) (v:=v) F hu hl hle (λi=>zwT (YG 0 i) hg) hr
  | false =>
   simp only[hg,gz]at hl;exact PK F hu (λy hy=>Ve hl.1 y hy) hle (Vg hl.2 Ii) hr
 cases hl
theorem Vl{o:Oper}{gf:FuncId}{args:Array Operand}{az pre post:List PA}{pv qv:List Value}{u:lX}{A:aJ}(fP:jk P Γ)(S:bW P nt B w0 h0 g σ a w)(hd:dI nt o.dst=true)
    (zf:∀c,o.op ≠ .defer c) (zY2:RL (nN g.h) pre pv) (zLW:RL (nN g.h) post qv) (has:iy (lk σ.aB) (args.toList.map (fK σ.env))=some (az,u))
    (zFp:dm P gf->(execOp a.eval o).run P w=.ok (.enter gf (pv++args.toList.map a.eval++qv).toArray) w) {jc:List Nat} {rs:List PA}
    (hC:(Γ.fn gf (pre++az++post)).o=some rs) (hA:kZ jc u rs=A):jf P nt B w0 h0 r n i o A σ a w Q:=by
    obtain⟨h',S1,F⟩:=S.freeze (yt has);have gp:=F.repDs has (λy hy=>hy) (CS S args.toList);have up:∀{l:List PA}{vs:List Value},RL (nN g.h) l vs->RL (nN h') l vs:=λhr=>hr.mono λx v hx=>by
      cases x with
      | one p=>exact Rep.mono F.le hx
      | agg cs=>obtain⟨ws,e,hr⟩:=hx;exact⟨ws,e,hr.mono λ_ _ h=>h.mono F.le⟩
    have Gs:RL (nN h') (pre++az++post) (pv++args.toList.map a.eval++qv):=((up zY2).append gp).append (up zLW);obtain⟨fJ,df⟩:=fP.fn gf (pre++az++post) rs hC w h' _ Gs S1.hw;refine qO zf (w':=w) (f:=gf) (args:=(pv++args.toList.map a.eval++qv).toArray) (zFp fJ) (df.mono ?_);rintro e w' ⟨h2,v,rfl,og,hb,hle,Ya,hn2⟩;refine⟨v,rfl,?_⟩;have fin:∀{g':Gh},bW P nt B w0 h0 g' σ a w'->qg g'.h rs v->∃g'' σ',σ'=σ.upd i o.dst (rd jc) (resD rs) [] []/\bW P nt B w0 h0 g'' σ' (a.put o.dst v) w':=λS2 hr =>
      ⟨_,_,rfl,by rw[fO];exact S2.put (v:=v) (d:=resD rs) hd (QT hr) (λL hL=>by rw[CQ]at hL;simp at hL) σ.log⟩
    subst hA;unfold kZ;cases hsc:Ux rs with
    | true=>exact fin (S.borrow F hb Ya (λ_ _ h=>h) (λb x hx=>hle b x (F.le b x hx)) (λ_ _ h=>.inl h)) (zha hsc og)
    | false =>
      cases hl:Uy u rs with
      | true=>exact fin (S.borrow F hb Ya (Vd F.le hle) Fh (PI F.le hn2)) (zhf F (yt has) hl hle og)
      | false =>
        exact⟨⟨h2,g.bk,g.sv,g.iv⟩,_,rfl,by
          rw[fO];exact(S1.world hle Ya hn2 hb).put (v:=v) (d:=resD rs) hd (QT (g:=g) og) (λL hL=>by rw[CQ]at hL;simp at hL) σ.log⟩
theorem zhg{o:Oper}{f:Operand}{args:Array Operand}{ts:Array TypeId}{A:aJ}(fP:jk P Γ)(S:bW P nt B w0 h0 g σ a w)(hd:dI nt o.dst=true)
    (bf:o.op=.call {callee:=.value f,args,argTypes:=ts})
    (hA:act P Γ o (fK σ.env) (lk σ.aB)=A) (hs:A.safe):jf P nt B w0 h0 r n i o A σ a w Q:=by
  simp only[act,aCl,bf]at hA;split at hA;rename_i gf caps hf;split at hA;rename_i C hC;obtain⟨cv,NR,ku⟩:=(iJ S hf).1;refine zbn (vals:=args.toList.map a.eval++cv) fP S hd (by simp[bf]) hC (λfJ=>?_) ((CS S args.toList).append (QX ku)) (zg7 ku (by simp)) hA hs;simp only[execOp,bf,resolve,NR,Deferred.ofValue,Sem.run_bind,Sem.run_pure,Result.andThen_ok,invoke];rw[show(#[]++Array.map a.eval args++cv.toArray)=(args.toList.map a.eval++cv).toArray by cases args;simp];exact ed fJ;subst hA;exact hs.elim;rename_i gf first caps hf
  split at hA
  · rename_i C hC;have sU:=jv S hf;generalize NR:a.eval f=fvv at sU;cases sU with
    | fn _ _ _ fv cv l1 l2 hf1 EI =>
      have hp:∀{l:List PV}{vs:List Value},RL (Rep g.h) l vs->RL (qM g) (l.map λv=>DV.p v) vs:=λhr=>RL.map_left.2 hr;refine zbn (vals:=fv++args.toList.map a.eval++cv) fP S hd (by simp[bf]) hC (λfJ=>?_) (((hp (KC l1 hf1)).append (CS S args.toList)).append (hp (KC l2 EI))) (λ_ _ _ e=>by cases e) hA hs;simp only[execOp,bf,resolve,NR,Deferred.ofValue,Sem.run_bind,Sem.run_pure,Result.andThen_ok,invoke];rw[show(fv.toArray++Array.map a.eval args++cv.toArray)=(fv++args.toList.map a.eval++cv).toArray by cases args;simp];exact ed fJ
  split at hA;split at hA
  · have sU:=jv S hf;generalize NR:a.eval f=fvv at sU;cases sU with
    | fn _ _ _ fv cv l1 l2 hf1 EI =>
      have e1:fv=[]:=qdw l1.symm;have e2:cv=[]:=qdw l2.symm;subst e1 e2;exact znl fP S hd bf NR hA hs
  subst hA;exact hs.elim;split at hA
  · rename_i az u has;have sU:=jv S hf;generalize NR:a.eval f=fvv at sU;cases sU with
    | fn _ _ _ fv cv l1 l2 hf1 EI =>
      split at hA;rename_i rs hrs;refine Vl fP S hd (by simp[bf]) (YP (KC l1 hf1)) (YP (KC l2 EI)) has (λfJ=>?_) hrs hA;simp only[execOp,bf,resolve,NR,Deferred.ofValue,Sem.run_bind,Sem.run_pure,Result.andThen_ok,invoke];rw[show(fv.toArray++Array.map a.eval args++cv.toArray)=(fv++args.toList.map a.eval++cv).toArray by cases args;simp];exact ed fJ;subst hA;exact hs.elim
  subst hA;exact hs.elim;rename_i gf cells hf;split at hA
  · rename_i az u has;have sU:=jv S hf;generalize NR:a.eval f=fvv at sU;cases sU with
    | fna _ _ vs l1 hf1 =>
      split at hA;rename_i rs hrs;refine Vl (pre:=[.agg cells]) (post:=[]) (pv:=[.agg vs.toArray]) (qv:=[]) fP S hd (by simp[bf]) ⟨⟨vs,rfl,KC l1 hf1⟩,trivial⟩ trivial has (λfJ=>?_) (by simpa using hrs) hA;simp only[execOp,bf,resolve,NR,Deferred.ofValue,Sem.run_bind,Sem.run_pure,Result.andThen_ok,invoke];rw[show(#[Value.agg vs.toArray]++Array.map a.eval args ++ #[])=([Value.agg vs.toArray]++args.toList.map a.eval++[]).toArray by cases args;simp];exact ed fJ;subst hA;exact hs.elim
  subst hA;exact hs.elim;subst hA;exact hs.elim
theorem Fj{o:Oper}{A:aJ}(fP:jk P Γ)(S:bW P nt B w0 h0 g σ a w)(hd:dI nt o.dst=true)(hA:act P Γ o (fK σ.env) (lk σ.aB)=A)(hs:A.safe) :
  jf P nt B w0 h0 r n i o A σ a w Q:=by
 have rX:=hA;cases bf:o.op with
 | move x=>simp only[act,aCl,bf]at hA;subst hA;exact UV S hd (.inl bf)
 | assign x=>simp only[act,aCl,bf]at hA;subst hA;exact UV S hd (.inr bf)
 | pick c x y =>
  simp only[act,aPk,bf]at hA;split at hA;rename_i t hc;subst hA;exact zgK S hd bf hc;subst hA;exact hs.elim
 | alloc e =>
  simp only[act,aAl,bf]at hA;split at hA;rename_i z hz;exact zdB S hd bf hz hA hs;subst hA;exact hs.elim
 | box e x =>
  simp only[act,aBx,bf]at hA;split at hA;rename_i d m hx hm;split at hA;rename_i dh;simp only[gz]at dh;exact zm6 S hd bf hx dh.2 hA hs;subst hA;exact hs.elim;subst hA;exact hs.elim
 | build t parts =>
  simp only[act,aBd,bf]at hA;split at hA;rename_i z hf hz;split at hA;rename_i l hl;subst hA;refine zdC S hd bf hf hz hl (λL hL=>?_);rcases J4 _ _ _ hl L hL with h|⟨x,_,h⟩
  rw[Pg hz]at h;simp at h;exact S.evLab x.2 L h;subst hA;exact hs.elim;subst hA;exact hs.elim
 | buildSlice t m parts=>exact Kq S hd bf rX hs
 | load t x=>exact zgL S hd bf rX hs
 | store t x y=>exact zdH S hd bf rX hs
 | nilCheck x=>exact QR S hd bf rX hs
 | binOp op t x y t'=>exact zdF S hd bf rX hs
 | unOp op t x=>exact zgM S hd bf rX hs
 | convert t1 t2 x=>exact UY S hd bf rX hs
 | fieldAddr t x f=>exact Oh S hd bf rX hs
 | indexAddr t x y=>exact Oi S hd bf rX hs
 | extract x k=>exact UZ S hd bf rX hs
 | index t x y=>exact zdD S hd bf rX hs
 | field t x f=>exact zdE S hd bf rX hs
 | slice t x lo hi mx =>
  cases mx with|none=>simp only[act,bf]at hA;exact zdL S hd bf hA hs|some m=>simp only[act,bf]at hA;subst hA;exact hs.elim
 | lookup t x y k =>
  simp only[act,bf]at hA;exact YM S hd bf hA hs
 | mapUpdate t x y z =>
  simp only[act,bf]at hA;exact zdK S hd bf hA hs
 | makeMap t x =>
  cases x with
  | none =>
   simp only[act,aMm,bf]at hA;split at hA;split at hA;split at hA;rename_i hE;exact YN S hd bf hE hA hs;subst hA;exact hs.elim;subst hA;exact hs.elim;subst hA;exact hs.elim
  | some x=>simp only[act,aMm,bf]at hA;subst hA;exact hs.elim
 | makeSlice t x y=>simp only[act,bf]at hA;exact Oj S hd bf hA hs
 | makeFunc fn first caps =>
  cases fn with|func f=>exact QY S hd bf rX hs|_=>simp only[act,aMf,bf]at hA;subst hA;exact hs.elim
 | call c =>
  obtain⟨callee,args,ts⟩:=c;cases callee with
  | value f=>exact zhg fP S hd bf rX hs
  | invoke x m=>simp only[act,bf]at hA;subst hA;exact hs.elim
  | builtin b =>
   cases b with|len=>exact zm7 S hd bf rX hs|max=>exact zm8 S hd bf rX hs|min=>exact zm9 S hd bf rX hs|append=>exact YF S hd bf rX hs|_=>simp only[act,bf]at hA;subst hA;exact hs.elim
 | _=>simp only[act,bf]at hA;subst hA;exact hs.elim
end
end Go.Pm
namespace Go.Pm
variable [aH]
open Go.RowKit (Below)
theorem kU{α:Type}{f:α→α}{l:List (Nat×α)}:∀{ks:List Nat}{t:Nat}{x:α},lk (xu f l ks) t=some x→∃y,lk l t=some y∧x=f y∧t∈ks
  | [],t,x,h=>by simp[xu,lk]at h
  | k::ks,t,x,h=>by
    simp only[xu]at h;split at h;rename_i d hd;rw[aW]at h;split at h;rename_i e;simp only[bQ]at h;subst e;exact⟨d,hd,h.symm,kQ⟩;obtain⟨y,h1,h2,h3⟩:=kU h;exact⟨y,h1,h2,jS _ h3⟩;obtain⟨y,h1,h2,h3⟩:=kU h;exact⟨y,h1,h2,jS _ h3⟩
theorem qi{α:Type}{f:α→α}{l:List (Nat×α)}:∀{ks:List Nat}{t:Nat}{y:α},lk l t=some y→t∈ks→lk (xu f l ks) t=some (f y)
  | [],t,y,_,ht=>by simp at ht
  | k::ks,t,y,h,ht=>by
    simp only[xu];by_cases hk:k=t;subst hk;rw[h];rw[aW,eX rfl];have ht':t∈ks:=(kF.1 ht).elim (fun h=>absurd h.symm hk) fun h=>h;split;rw[aW,fF hk];exact qi h ht';exact qi h ht'
section
variable{P:Program}{Γ:bI}{nt B:Nat}{w0:World}{h0:Fz}{g:Gh}{σ:St}{a:Act}{w:World}{r:Option Nat}{n i:Nat}{Q:Exit->Act->World->Prop}
theorem PN{c:Cl}{x:Value}(h:ja g c x):ja g (su c) x:=by
 cases c<;>exact h
theorem Ba:∀{cs:List Cl}{vs:List Value},RL (ja g) cs vs→RL (ja g) (cs.map su) vs|[],[],_=>trivial|[],_::_,h=>h.elim|_::_,[],h=>h.elim|_::_,_::_,h=>⟨PN h.1,Ba h.2⟩
theorem KJ{d:D1}{x:Value}(h:Ai g d x):Ai g (yc d) x:=by
 cases d with
 | c y=>exact PN h
 | agg cs=>obtain⟨vs,rfl,hr⟩:=h;exact⟨vs,rfl,Ba hr⟩
theorem GL:∀{cs:List D1}{vs:List Value},RL (Ai g) cs vs→RL (Ai g) (cs.map yc) vs|[],[],_=>trivial|[],_::_,h=>h.elim|_::_,[],h=>h.elim|_::_,_::_,h=>⟨KJ h.1,GL h.2⟩
theorem zhh{d:DV}{x:Value}(h:qM g d x):qM g (QG d) x:=by
 cases d with
 | one y=>exact KJ h
 | tup ds=>obtain⟨vs,rfl,hr⟩:=h;exact⟨vs,rfl,GL hr⟩
theorem GM{c:Cl}:∀M∈bu (su c),M∈bu c:=by
 cases c<;>first|exact λ_ h=>h|(intro M h;simp[su,bu]at h)
theorem GN{cs:List Cl}:∀M∈(cs.map su).flatMap bu,M∈cs.flatMap bu:=by
 intro M hM;simp only[lD,xq]at hM ⊢;obtain⟨_,⟨c,hc,rfl⟩,hM⟩:=hM;exact⟨c,hc,GM M hM⟩
theorem CY{d:D1}:∀M∈dC (yc d),M∈dC d:=by
 cases d with|c y=>exact GM|agg cs=>exact GN
theorem YU{d:DV}:∀M∈cu (QG d),M∈cu d:=by
 cases d with
 | one y=>exact CY
 | tup ds =>
  intro M hM;simp only[QG,cu,lD,xq]at hM ⊢;obtain⟨_,⟨d,hd,rfl⟩,hM⟩:=hM;exact⟨d,hd,CY M hM⟩
theorem Vm{o:AO}:∀M∈dU (IP o),M∈dU o:=by
 cases o with|box ty cs=>exact GN|_=>exact λ_ h=>h
theorem zdO{B L:Nat}{o:AO}(h:NU P g w B L o):NU P g w B L (IP o):=by
 cases o with
 | box ty cs=>obtain⟨C,hC,hr⟩:=h;exact⟨C,hC,Ba hr⟩
 | _=>exact h
theorem GR{L:Nat}{o:AO}:gQ g L (IP o)=gQ g L o:=by cases o<;>rfl
theorem bW.env'(S:bW P nt B w0 h0 g σ a w){t:Nat}{d:DV}(hv:qM g d (a.tmps.getD t undef))(hl:∀L∈cu d,∃o,lk σ.aB L=some o) :
  bW P nt B w0 h0 g {σ with env:=(t,d)::σ.env} a w:=by
 refine⟨S.dfr,S.size,?_,S.obj,S.own,S.sep,S.hw,S.le0,S.hn,S.below,S.bs,?_,S.clO⟩;intro u e hu;simp only[aW]at hu;split at hu;rename_i h;simp only[bQ]at hu;subst hu;rw[<- h];exact hv;exact S.env u e hu;intro u e hu;simp only[aW]at hu;split at hu;simp only[bQ]at hu;subst hu;exact hl;exact S.clE u e hu
theorem I5{P:Program}{e:TypeId}:RS (Cc P e) (Cc P e):=by
 unfold Cc;split
 ·rename_i z hz;split
  ·rename_i l hl;obtain⟨vs,hv⟩:∃vs,jo vs=some z:=by
    unfold gK at hz
    repeat' split at hz
    all_goals first|(cases hz;done)|(cases hz;exact⟨_,by assumption⟩)
   have h:=kG (g:=⟨λ_=>none,λ_=>0,λ_=>undef,λ_ _=>undef⟩) _ _ hv;rw[nS hl]at h;have h:=RL.map_left.1 h;exact yg (uF h)
  trivial
 trivial
theorem bW.coerce(S:bW P nt B w0 h0 g σ a w){L e:Nat}{ie:TypeInfo}{z:List Cl}{get:Nat→List PV}(hu:tH get)(hL:lk σ.aB L=none)(hi:P.info? e=some ie)(hz:gK P e=some z)(hp:0<ie.size) :
  bW P nt B w0 h0 (g.setSv L (.slice none 0 0)) {σ with aB:=(L,.vec e ie.size ie.bytes 0 get)::σ.aB} a w:=by
 obtain⟨zv,Gq,zZ⟩:=iW hz hi;refine S.newVec hL (.refl B w) (λ_ _=>rfl) (λb hb=>by simp[Value.ownBlock]at hb) ⟨⟨hu,hp⟩,⟨ie,zv,hi,rfl,rfl,Gq,zZ⟩,[],?_,λk hk=>absurd hk omY⟩;rw[show(g.setSv L (.slice none 0 0)).sv L=.slice none 0 0 by simp[Gh.setSv]];exact World.ownsRow_nil w B e ie.size
theorem KL{h:Fz}{v:Value}(hr:Rep h .nils v):v=.slice none 0 0:=by cases hr;rfl
theorem tV:∀(l:List (Nat×Nat×Nat))(σ σ':St)(g:Gh),l7 P l σ=some σ'→bW P nt B w0 h0 g σ a w→∃g',bW P nt B w0 h0 g' σ' a w
  | [],σ,σ',g,h,S=>by simp[l7]at h;subst h;exact⟨g,S⟩
  | (t,L,e)::l,σ,σ',g,h,S=>by
    simp only[l7]at h;split at h;rename_i ht;split at h;rename_i ie z hL hi hz;split at h;rename_i hp;have S1:=S.coerce (get:=λ_=>Cc P e) (JH I5) hL hi hz (qjD (qdK hp));have hv:a.tmps.getD t undef=.slice none 0 0:=KL (S.env t _ ht);have S2:=S1.env' (t:=t) (d:=.cl (.vec L)) (by rw[hv];simp[qM,Ai,ja,Gh.setSv,Value.oneCell']) (λM hM=>by simp[cu,dC,bu]at hM;subst hM;exact⟨_,by rw[aW,eX rfl]⟩);exact tV l _ σ' _ h S2;cases h;cases h;exact tV l σ σ' g h S;cases h
theorem tX:∀(l:List (Nat×Nat×Nat×Nat))(σ σ':St)(g:Gh),l9 P l σ=some σ'→bW P nt B w0 h0 g σ a w→∃g',bW P nt B w0 h0 g' σ' a w
  | [],σ,σ',g,h,S=>by simp[l9]at h;subst h;exact⟨g,S⟩
  | (bx,k,L,e)::l,σ,σ',g,h,S=>by
    simp only[l9]at h;split at h;rename_i ty cs ER;split at h;rename_i hk;split at h;rename_i ie z hL hi hz;split at h;rename_i hp;have S1:=S.coerce (get:=λ_=>Cc P e) (JH I5) hL hi hz (qjD (qdK hp));have jb:L≠bx:=λe=>by subst e;rw[hL]at ER;cases ER
    have KN:lk ({σ with aB:=(L,AO.vec e ie.size ie.bytes 0 (λ_=>Cc P e))::σ.aB}:St).aB bx=some (.box ty cs):=by
      show lk ((L,AO.vec e ie.size ie.bytes 0 (λ_=>Cc P e))::σ.aB) bx=_;rw[aW,fF jb];exact ER
    obtain⟨C,hC,hr⟩:=S1.obj bx _ KN;obtain⟨v,hv,hkv⟩:=hr.get k _ hk;have hv0:v=.slice none 0 0:=KL hkv;subst hv0;have Vo:C.toList.set k (.slice none 0 0)=C.toList:=by
      apply qdf;intro j;by_cases hj:j=k;subst hj;have iw:=(AL.1 hv).1;rw[qjG iw,hv];rw[qjp (λe=>hj e.symm)]
    have S2 := S1.write (o' := .box ty (cs.set k (.vec L))) (w' := w) KN (fun b hb => hb) (.refl B w) (fun _ _ => rfl)
      ⟨C,hC,by rw[<- Vo];exact hr.set k (by simp[ja,Gh.setSv,Value.oneCell'])⟩
      (λM hM=>by
        simp only[dU,lD]at hM;obtain⟨c,hc,hM⟩:=hM;rcases qda hc with h|h
        exact S1.clO bx _ KN M (lD.2 ⟨c,h,hM⟩);subst h;simp[bu]at hM;subst hM;exact⟨_,by rw[aW,eX rfl]⟩)
    exact tX l _ σ' _ h S2;cases h;cases h;exact tX l σ σ' g h S;cases h;cases h
theorem bW.adopt0(S:bW P nt B w0 h0 g σ a w){t:Nat}{o':AO}{g':Gh}(ht:lk σ.aB t=none)(hh:g'.h=g.h)(hs:∀M,M≠t→iV g g' M)
    (hv:∀k,¬gQ g' t o' k) (hr:NU P g' w B t o') (Aa:dU o'=[]):bW P nt B w0 h0 g' {σ with aB:=(t,o')::σ.aB} a w:=by
  have jb:∀L o,lk σ.aB L=some o->L≠t:=λL o h e=>by subst e;rw[ht]at h;cases h
  have fB:∀L o,lk σ.aB L=some o->iV g g' L:=λL o h=>hs L (jb L o h);have hle:jP g.h g'.h:=by rw[hh];exact λ_ _ h=>h
  have jZ:∀L o,lk ((t,o')::σ.aB) L=some o->(L=t/\o=o')\/(L≠t/\lk σ.aB L=some o):=by
    intro L o h;rw[aW]at h;split at h;rename_i e;simp only[bQ]at h;exact .inl ⟨e.symm,h.symm⟩;rename_i e;exact .inr ⟨λe'=>e e'.symm,h⟩
  refine S.change (g':=g') fB hle (by rw[hh];exact S.hw) (λb o h=>.inl (by rw[hh]at h;exact h)) (.refl _ B w) ?_ ?_ ?_ ?_ ?_;intro L o ho;rcases jZ L o ho with⟨rfl,rfl⟩|⟨_,ho⟩
  exact hr;exact jM (S.obj L o ho) (fB L o ho) (λM hM=>by obtain⟨o',kH⟩:=S.clO L o ho M hM;exact fB M o' kH) hle λ_ _=>rfl;intro L o k ho hk;rcases jZ L o ho with⟨rfl,rfl⟩|⟨_,ho⟩
  exact(hv k hk).elim;rw[gG (fB L o ho)]at hk;rw[hh];exact S.own L o k ho hk;intro L o k L' o2 ho kH hk jD;rcases jZ L o ho with⟨rfl,rfl⟩|⟨_,oh⟩<;>rcases jZ L' o2 kH with⟨rfl,rfl⟩|⟨_,mY⟩
  rfl;exact(hv k hk).elim;exact(hv k jD).elim;rw [gG (fB L o oh)]at hk;rw [gG (fB L' o2 mY)]at jD;exact S.sep L o k L' o2 oh mY hk jD;intro L o ho;refine⟨o,?_⟩;rw[aW,fF (λe=>jb L o ho e.symm)];exact ho;intro L o ho M hM;rcases jZ L o ho with⟨rfl,rfl⟩|⟨_,ho⟩
  rw[Aa]at hM;simp at hM;obtain⟨o2,oh⟩:=S.clO L o ho M hM;exact⟨o2,by rw[aW,fF (λe=>jb M o2 oh e.symm)];exact oh⟩
theorem tY:∀(l:List (Nat×Nat×Nat×Nat×Nat))(σ σ':St)(g:Gh),mf P l σ=some σ'→bW P nt B w0 h0 g σ a w→∃g',bW P nt B w0 h0 g' σ' a w
  | [],σ,σ',g,h,S=>by simp[mf]at h;subst h;exact⟨g,S⟩
  | (bx,k,L,te,e)::l,σ,σ',g,h,S=>by
    simp only[mf]at h;split at h;rename_i ty cs ER;split at h;rename_i hk;split at h;rename_i it zt hL hit hzt;split at h;rename_i ie z hi hz;split at h;rename_i hp;simp only[gz]at hp;have hs1:=kP hp.1;have iF:0<ie.size:=qjD (qdK hp.2);obtain⟨zv,Gq,zZ⟩:=iW hz hi;obtain⟨tv,htv,hts⟩:=iW hzt hit;let g':=g.setVv L (.slice none 0 0) (λ_=>.slice none 0 0);have lW:g'.sv L=.slice none 0 0:=by simp[g',Gh.setVv]
    have S1 := S.adopt0 (t := L) (o' := .vv te it.bytes e ie.size ie.bytes 0 (fun _ => 0) (fun _ _ => Cc P e)) (g' := g') hL rfl YD
      (λk hk=>by
        rcases hk with hk|⟨i,hi,_⟩
        rw[lW]at hk;cases hk;omega)
      ⟨⟨λ_ _ _ _=>I5,iF⟩,⟨it,tv,hit,hs1,rfl,htv,by rw[hts,hs1]⟩,⟨ie,zv,hi,rfl,rfl,Gq,zZ⟩,by rw[lW];exact World.ownsRow_nil w B te 1,λi hi=>absurd hi omY,λi k hi=>absurd hi omY⟩ rfl
    have jb:L≠bx:=λe=>by subst e;rw[hL]at ER;cases ER
    have KN:lk ({σ with aB:=(L,AO.vv te it.bytes e ie.size ie.bytes 0 (λ_=>0) (λ_ _=>Cc P e))::σ.aB}:St).aB bx=some (.box ty cs):=by
      show lk ((L,AO.vv te it.bytes e ie.size ie.bytes 0 (λ_=>0) (λ_ _=>Cc P e))::σ.aB) bx=_;rw[aW,fF jb];exact ER
    obtain⟨C,hC,hr⟩:=S1.obj bx _ KN;obtain⟨v,hv,hkv⟩:=hr.get k _ hk;have hv0:v=.slice none 0 0:=KL hkv;subst hv0;have Vo:C.toList.set k (.slice none 0 0)=C.toList:=by
      apply qdf;intro j;by_cases hj:j=k;subst hj;have iw:=(AL.1 hv).1;rw[qjG iw,hv];rw[qjp (λe=>hj e.symm)]
    have S2 := S1.write (o' := .box ty (cs.set k (.vec L))) (w' := w) KN (fun b hb => hb) (.refl B w) (fun _ _ => rfl)
      ⟨C,hC,by rw[<- Vo];exact hr.set k ⟨lW.symm,rfl⟩⟩
      (λM hM=>by
        simp only[dU,lD]at hM;obtain⟨c,hc,hM⟩:=hM;rcases qda hc with h|h
        exact S1.clO bx _ KN M (lD.2 ⟨c,h,hM⟩);subst h;simp[bu]at hM;subst hM;exact⟨_,by rw[aW,eX rfl]⟩)
    exact tY l _ σ' _ h S2;cases h;cases h;cases h;exact tY l σ σ' g h S;cases h;cases h
theorem CZ{ob:Nat→Option AO}:∀{ks:List Nat}{x:Nat×AO},x∈EY ob ks→∃ty cells l,ob x.1=some (.box ty cells)∧x.2 = .fbox l∧jr ob cells=some (l,[])
  | [],x,h=>by simp[EY]at h
  | k::ks,x,h=>by
    simp only[EY]at h;split at h;rename_i ty cells hk;split at h;rename_i l hl;rcases kF.1 h with rfl|h
    exact⟨ty,cells,l,hk,rfl,hl⟩;exact CZ h;exact CZ h;exact CZ h
theorem Vp{ob:Nat->Option AO}{ks:List Nat}:fA ob (EY ob ks):=λx hx=>by
 obtain⟨ty,cells,l,h1,h2,h3⟩:=CZ hx;exact .inr (.inl ⟨ty,cells,l,[],h1,h2,QL h3,λy hy=>by simp at hy⟩)
theorem KO{ob:Nat→Option AO}:∀{ks:List Nat},fA ob (Oe ob ks)
  | []=>fA.nil ob
  | L::r=>λx hx=>by
    simp only[Oe]at hx;split at hx;rename_i e s b n get hL;rcases kF.1 hx with rfl|hx
    exact .inl ⟨_,_,_,_,_,hL,rfl⟩;exact(KO x hx).mono λy hy=>by simp only[Oe,hL];exact jS _ hy
    rename_i hn;refine(KO x hx).mono λy hy=>?_;show y∈Oe ob (L::r);unfold Oe;split;exact jS _ hy;exact hy
theorem tZ:∀(l:List Nat)(σ σ':St)(g:Gh),mg l σ=some σ'→bW P nt B w0 h0 g σ a w→∃g',bW P nt B w0 h0 g' σ' a w
  | [],σ,σ',g,h,S=>by simp[mg]at h;subst h;exact⟨g,S⟩
  | t::r,σ,σ',g,h,S=>by
    unfold mg at h;split at h;rename_i x hx;have hv:=S.env t _ hx;split at h;exact tZ r _ σ' g h S;split at h;rename_i v u hf;obtain⟨h',S1,F⟩:=S.freeze (YE hf);have hr:=F.rep hf (λy hy=>hy) hv;exact tZ r _ σ' _ h (S1.env' (t:=t) (d:=.p v) hr (λL hL=>by simp[cu,dC,bu]at hL));cases h;cases h
theorem zbs{P:Program}{e:Nat}{g:Gh}{x:Cl}{v:Value}(r:ja g x v):ja g (EZ P e x) v:=by
 unfold EZ;split;split;exact Rep.up (.nil _ _ (JH I5)) r;exact r;exact r
theorem Vq{P:Program}{e:Nat}{x:Cl}:bu (EZ P e x)=bu x:=by
 unfold EZ;split;split<;>rfl;rfl
theorem zhi{P:Program}{e b:Nat}{g:Gh}{cs:List Cl}{vs:List Value}(r:RL (ja g) cs vs):RL (ja g) (UD b (EZ P e) cs) vs:=by
 unfold UD;split;rename_i x hx;obtain⟨v,hv,xH⟩:=r.get b _ hx;have:=r.set b (a:=EZ P e x) (b:=v) (zbs xH);have e:vs.set b v=vs:=by
  obtain⟨iw,hv⟩:=AL.1 hv;rw[<- hv,jqx]
 rwa[e]at this;exact r
theorem Vr{P:Program}{e b:Nat}{cs:List Cl}{M:Nat}(h:M∈(UD b (EZ P e) cs).flatMap bu):M∈cs.flatMap bu:=by
 unfold UD at h;split at h;rename_i x hx;obtain⟨c,hc,hM⟩:=lD.1 h;rcases qda hc with hc|rfl
 exact lD.2 ⟨c,hc,hM⟩;rw [Vq]at hM;exact lD.2 ⟨x,Jr hx,hM⟩;exact h
theorem C9{α:Type}{k:Nat}{x:α}:∀{l:List (Nat×α)},(∃y,lk l k=some y)→∀n,lk (Yv k x l) n=lk ((k,x)::l) n
  | [],⟨_,h⟩,_=>by cases h
  | (j,y)::r,h,n=>by
    unfold Yv;cases hb:Nat.beq j k with
    | true =>
      have:=kP hb;subst this;simp only[aW];split<;>rfl
    | false =>
      have jb:=qdu hb;obtain⟨z,hz⟩:=h;rw[aW,fF jb]at hz;have ih:=C9 (x:=x) ⟨z,hz⟩ n;simp only[aW]at ih ⊢;by_cases h1:j=n;rw[eX h1,fF (λe=>jb (h1.trans e.symm)),eX h1];rw[fF h1,ih,fF h1]
theorem bW.lk_congr(S:bW P nt B w0 h0 g σ a w){τ:St}(h1:∀L,lk τ.env L=lk σ.env L)(h2:∀L,lk τ.aB L=lk σ.aB L):bW P nt B w0 h0 g τ a w :=
 ⟨S.dfr,S.size,λt d ht=>S.env t d (by rw[<- h1];exact ht),λL o ho=>S.obj L o (by rw[<- h2];exact ho),λL o b ho=>S.own L o b (by rw[<- h2];exact ho),
  λL o b L' o' ho kH=>S.sep L o b L' o' (by rw[<- h2];exact ho) (by rw[<- h2];exact kH),S.hw,S.le0,S.hn,S.below,S.bs,
  λt d ht L hL=>by rw[h2];exact S.clE t d (by rw[<- h1];exact ht) L hL,λL o ho M hM=>by rw[h2];exact S.clO L o (by rw[<- h2];exact ho) M hM⟩
theorem zdP{k b e L:Nat}(S:bW P nt B w0 h0 g σ a w):bW P nt B w0 h0 g (nf1 P k L b e σ) a w:=by
 unfold nf1;split;split;rename_i x hx;exact(S.env' (d:=.one (.c (EZ P e x))) (zbs (S.env L _ hx)) λM hM=>S.clE L _ hx M (by simpa [cu,dC,Vq]using hM)).lk_congr (C9 ⟨_,hx⟩) λ_=>rfl;rename_i cs hx;obtain⟨vs,hv,hr⟩:=S.env L _ hx;exact(S.env' (d:=.one (.agg (UD b (EZ P e) cs))) ⟨vs,hv,zhi hr⟩ λM hM=>S.clE L _ hx M (Vr hM)).lk_congr (C9 ⟨_,hx⟩) λ_=>rfl;exact S;split;rename_i ty cs hL;obtain⟨D,hD,hr⟩:=S.obj L _ hL;exact(S.write2 (w':=w) (o':=.box ty (UD b (EZ P e) cs)) hL (λ_ h=>h) (.refl B w) (λ_ _ _=>rfl) ⟨D,hD,zhi hr⟩ λM hM=>S.clO L _ hL M (Vr hM)).lk_congr (λ_=>rfl) (C9 ⟨_,hL⟩);exact S
theorem Ak:∀{l:List (Nat×Nat×Nat×Nat)}{σ:St},bW P nt B w0 h0 g σ a w→bW P nt B w0 h0 g (IQ P l σ) a w|[],_,S=>S|(_,_,_,_)::l,_,S=>Ak (l:=l) (zdP S)
theorem QZ{k:Keep}{s:St}{g:Gh}{σ:St}(h:yf P k σ=some s)(S:bW P nt B w0 h0 g σ a w):∃g',bW P nt B w0 h0 g' s a w:=by
 unfold yf at h;split at h;cases h;rename_i σ1 h1;obtain⟨g1,S1⟩:=tV k.coT σ σ1 g h1 S;split at h;cases h;rename_i σ2 h2;obtain⟨g2',S2'⟩:=tX k.coB σ1 σ2 g1 h2 S1;split at h;cases h;rename_i σ3 h3;obtain⟨g2,S2⟩:=tY k.coV σ2 σ3 g2' h3 S2';simp only[]at h;split at h;rename_i Ad;simp only[bQ]at h;subst h;simp only[gz,Af]at Ad;obtain⟨EI,hc2⟩:=Ad;have Ym:∀{jc l:List Nat},Yu jc l=true->∀L∈l,L∈jc:=by
  intro jc l h L hL;have:=Af.1 h L hL;simpa using this
 refine⟨g2,S2.dfr,S2.size,?_,?_,?_,?_,S2.hw,S2.le0,S2.hn,S2.below,S2.bs,?_,?_⟩;intro t d ht;obtain⟨y,h1,rfl,_⟩:=kU ht;exact zhh (S2.env t y h1);intro L o ho;obtain⟨y,h1,rfl,_⟩:=kU ho;exact zdO (S2.obj L y h1);intro L o b ho hb;obtain⟨y,h1,rfl,_⟩:=kU ho;rw[GR]at hb;exact S2.own L y b h1 hb;intro L o b L' o' ho kH hb mW;obtain⟨y,h1,rfl,_⟩:=kU ho;obtain⟨y',h1',rfl,_⟩:=kU kH;rw[GR]at hb mW;exact S2.sep L y b L' y' h1 h1' hb mW;intro t d ht L hL;have hm:=Ym (EI (t,d) (fH ht)) L hL;obtain⟨y,h1,rfl,_⟩:=kU ht;obtain⟨o,ho⟩:=S2.clE t y h1 L (YU L hL);exact⟨_,qi ho hm⟩;intro L o ho M hM;have hm:=Ym (hc2 (L,o) (fH ho)) M hM;obtain⟨y,h1,rfl,_⟩:=kU ho;obtain⟨o',kH⟩:=S2.clO L y h1 M (Vm M hM);exact⟨_,qi kH hm⟩;cases h
theorem YV{n:Nat}(S:bW P nt B w0 h0 g σ a w):∃g',bW P nt B w0 h0 g' (zdp σ n) a w:=by
  unfold zdp;generalize (n-1000000)/64=bx;generalize (n-1000000)%64=kx;split;exact⟨g,S⟩;split;rename_i ty cs ER;split;rename_i L hk;split;rename_i e s b len get hL;obtain⟨h',S1,F⟩:=S.freeze (u:=[(L,.fvec s len get)]) (λx hx=>by
    simp only[kY]at hx;subst hx;exact .inl ⟨_,_,_,_,_,hL,rfl⟩)
  have jb:L≠bx:=λe=>by subst e;rw[hL]at ER;cases ER
  have KN:lk ([(L,AO.fvec s len get)]++σ.aB) (bx)=some (.box ty cs):=by
    show lk ((L,AO.fvec s len get)::σ.aB) _=_;rw[aW,fF jb];exact ER
  obtain⟨C,hC,hr⟩:=S1.obj _ _ KN;obtain⟨v,hv,hkv⟩:=hr.get _ _ hk;have zf0:Rep h' (.sl len s get) v:=by
    have hkv:v=g.sv L/\_:=hkv;rw[hkv.1];exact F.vec L e s b len get hL (by simp)
  have Vo:C.toList.set kx v=C.toList:=by
    apply qdf;intro j;by_cases hj:j=kx;subst hj;have iw:=(AL.1 hv).1;rw[qjG iw,hv];rw[qjp (λe=>hj e.symm)]
  have S2 := S1.write (o' := .box ty (cs.set kx (.p (.sl len s get)))) (w' := w) KN (fun b hb => hb) (.refl B w) (fun _ _ => rfl)
    ⟨C,hC,by rw[<- Vo];exact hr.set _ zf0⟩
    (λM hM=>by
      simp only[dU,lD]at hM;obtain⟨c,hc,hM⟩:=hM;rcases qda hc with h|h
      exact S1.clO _ _ KN M (lD.2 ⟨c,h,hM⟩);subst h;simp[bu]at hM)
  exact⟨_,S2⟩;exact⟨g,S⟩;exact⟨g,S⟩;exact⟨g,S⟩
theorem PO:∀(l:List Nat)(σ:St)(g:Gh),bW P nt B w0 h0 g σ a w→∃g',bW P nt B w0 h0 g' (coP l σ) a w
  | [],σ,g,S=>⟨g,S⟩
  | n::r,σ,g,S=>by
    obtain⟨g1,S1⟩:=YV (n:=n) S;exact PO r _ g1 S1
theorem eF{k:Keep}{s:St}(h:canon P k σ=some s)(S:bW P nt B w0 h0 g σ a w):∃g',bW P nt B w0 h0 g' s a w:=by
 obtain⟨h',S1,_⟩:=S.freeze ((Vp (ob:=lk σ.aB) (ks:=k.coF)).append (KO (ob:=lk σ.aB) (ks:=k.coF)));unfold canon at h;split at h;rename_i s1 h1;obtain⟨g0,S0⟩:=PO k.coF (zdo k.coF σ) _ S1;obtain⟨g1,S2⟩:=tZ k.coZ (coP k.coF (zdo k.coF σ)) s1 _ h1 S0;split at h;rename_i s2 h2;obtain⟨g2,S3⟩:=QZ h2 S2;cases h;exact⟨g2,Ak S3⟩;cases h;cases h
end
end Go.Pm
namespace Go.Pm
variable [aH]
open Go.RowKit (Below)
section
variable{P:Program}{Γ:bI}{nt B:Nat}{w0:World}{h0:Fz}{g:Gh}{σ:St}{a:Act}{w:World}{r:Option Nat}{n i:Nat}{Q:Exit->Act->World->Prop}
theorem I7{o:Oper}{R R':Act->World->Prop}(h:o.wpIn (FR r) n P a w R Q)(hR:∀a w,R a w->R' a w):o.wpIn (FR r) n P a w R' Q:=by
 refine⟨h.1,?_⟩;have h2:=h.2;generalize (o.semAt (FR r).round a.eval).run P w=res at h2 ⊢
 match res,h2 with
 | .ok (.value v) w',h2=>exact hR _ _ h2
 | .ok .skip w',h2=>exact hR _ _ h2
 | .ok (.defer d) w',h2=>exact hR _ _ h2
 | .ok (.enter f args) w',h2 =>
  refine⟨h2.1,h2.2.mono ?_⟩;intro e zL he;cases e with|returned v=>exact hR _ _ he|panicked ch=>exact he|outgrown=>exact he
 | .ok (.row row args) w',h2=>exact⟨h2.1,h2.2.mono λv zL hv=>hR _ _ hv⟩
 | .ok (.round l f tmps x y) w',h2 =>
  refine⟨h2.1,h2.2.mono ?_⟩;intro e zL he;cases e with|returned v=>exact hR _ _ he|panicked ch=>exact he|outgrown=>exact he
 | .halt (.panic v) w',h2=>exact h2
theorem znn{o:Oper}{R:Act->World->Prop}{Q':Exit->Act->World->Prop}(h:o.wpIn (FR r) n P a w R Q')(hp:∀ch a w,Q' (.panic ch) a w->Q (.panic ch) a w)(ho:LetsOut Q'->LetsOut Q):o.wpIn (FR r) n P a w R Q:=by
 refine⟨h.1,?_⟩;have h2:=h.2;generalize (o.semAt (FR r).round a.eval).run P w=res at h2 ⊢
 match res,h2 with
 | .ok (.value v) w',h2=>exact h2
 | .ok .skip w',h2=>exact h2
 | .ok (.defer d) w',h2=>exact h2
 | .ok (.enter f args) w',h2 =>
  refine⟨h2.1,h2.2.mono ?_⟩;intro e zL he;cases e with|returned v=>exact he|panicked ch=>exact hp _ _ _ he|outgrown=>exact ho he
 | .ok (.row row args) w',h2=>exact h2
 | .ok (.round l f tmps x y) w',h2 =>
  refine⟨h2.1,h2.2.mono ?_⟩;intro e zL he;cases e with|returned v=>exact he|panicked ch=>exact hp _ _ _ he|outgrown=>exact ho he
 | .halt (.panic v) w',h2=>exact hp _ _ _ h2
theorem qP {ops : Array Oper} {l2 : List Nat} : ∀ (l1 : List Nat) (a : Act) (w : World), wpOpsIn (FR r) n P ops (fun e a w => match e with | .normal => wpOpsIn (FR r) n P ops Q l2 a w | e => Q e a w) l1 a w → wpOpsIn (FR r) n P ops Q (l1 ++ l2) a w
  | [],a,w,h=>h
  | i::l1,a,w,h=>by
    simp only[qdJ,wpOpsIn]at h ⊢;split at h;exact qP l1 a w h;split at h;rename_i hw;rw[eX hw];exact znn (I7 h λa w h=>qP l1 a w h) (λch a w h=>h) (λ⟨a,w,h⟩=>⟨a,w,h⟩);rename_i hw;rw[fF hw];exact⟨h.1,qP l1 _ w h.2⟩
theorem YW{o:Oper}{R:Act->World->Prop}(h:o.wpIn (FR r) n P a w R Q):o.wpIn (FR r) n P a w (λa' w'=>R a' w'/\∃v ds,a'=({a with defers:=ds}:Act).put o.dst v) Q:=by
 refine⟨h.1,?_⟩;have h2:=h.2;generalize (o.semAt (FR r).round a.eval).run P w=res at h2 ⊢
 match res,h2 with
 | .ok (.value v) w',h2=>exact⟨h2,v,a.defers,rfl⟩
 | .ok .skip w',h2=>exact⟨h2,undef,a.defers,rfl⟩
 | .ok (.defer d) w',h2=>exact⟨h2,undef,d::a.defers,rfl⟩
 | .ok (.enter f args) w',h2 =>
  refine⟨h2.1,h2.2.mono ?_⟩;intro e zL he;cases e with|returned v=>exact⟨he,v,a.defers,rfl⟩|panicked ch=>exact he|outgrown=>exact he
 | .ok (.row row args) w',h2=>exact⟨h2.1,h2.2.mono λv zL hv=>⟨hv,v,a.defers,rfl⟩⟩
 | .ok (.round l f tmps x y) w',h2 =>
  refine⟨h2.1,h2.2.mono ?_⟩;intro e zL he;cases e with|returned v=>exact⟨he,v,a.defers,rfl⟩|panicked ch=>exact he|outgrown=>exact he
 | .halt (.panic v) w',h2=>exact h2
def Kp(D:List Nat)(a a':Act):Prop:=(∀t,t∉D->a'.tmps.getD t undef=a.tmps.getD t undef)/\a'.tmps.size=a.tmps.size/\(Gw∉D->a'.defers=a.defers)/\∀d∈a'.defers,d∈a.defers\/∃b,d.target=.collected b
theorem Kp.refl(D:List Nat)(a:Act):Kp D a a:=⟨λ_ _=>rfl,rfl,λ_=>rfl,λ_ h=>.inl h⟩
theorem Kp.put{D:List Nat}{a0 a:Act}(h:Kp D a0 a){dst:Option Nat}(hd:∀t,dst=some t->t∈D)(v:Value)(ds:List Deferred)(OT:ds=a.defers):Kp D a0 (({a with defers:=ds}:Act).put dst v):=by
 subst OT;cases dst with
 | none=>exact h
 | some t =>
  refine⟨λu hu=>?_,by simp[Act.put,h.2.1],λhr=>h.2.2.1 hr,λd hd=>h.2.2.2 d hd⟩;have jb:t≠u:=λe=>hu (e▸hd t rfl);rw[<- h.1 u hu];simp[Act.put,xI,qdB jb]
theorem wo{ops:Array Oper}{tmps:Array Value}{j g:Nat}{b:Bool}(hg:(ops[j]?).bind (·.dst)=some g)(hv:tmps.getD g undef=.bool b):yielded ops tmps j=some b:=by
 unfold yielded;rw[hg];simp only[qj7];rw[xI]at hv;cases h:tmps[g]? with|none=>rw[h]at hv;simp[undef]at hv|some v=>rw[h]at hv;simp only[qdE]at hv;subst hv;rfl
theorem uf{ops:Array Oper}{tmps:Array Value}{j g:Nat}(hg:(ops[j]?).bind (·.dst)=some g)(hv:tmps.getD g undef=undef):yielded ops tmps j=none:=by
 unfold yielded;rw[hg];simp only[qj7];rw[xI]at hv;cases h:tmps[g]? with|none=>rfl|some v=>rw[h]at hv;simp only[qdE]at hv;subst hv;rfl
theorem bW.skip(S:bW P nt B w0 h0 g σ a w){dst:Option Nat}(hd:dI nt dst=true):bW P nt B w0 h0 g (σ.skip dst) (a.put dst undef) w:=by
 have:=S.put (d:=.cl .undef) (v:=undef) hd rfl (λL hL=>by simp[cu,dC,bu]at hL) σ.log;cases dst<;>exact this
theorem yB(fP:jk P Γ){ops:Array Oper}{K:St→Prop}{D:List Nat}{a0:Act}{ad:List Deferred}(hD:∀(j:Nat)(o:Oper),ops[j]? = some o→∀t,o.dst=some t→t∈D)
    (hQ:∀σ',K σ'->∀g' a' w',bW P nt B w0 h0 g' σ' a' w'->Kp D a0 a'->a'.defers=ad->Q .normal a' w') :
    ∀(l:List Oper)(i:Nat)(σ:St)(g:Gh)(a:Act)(w:World),(∀j,j<l.length->l[j]? = ops[i+j]?)->jV P Γ nt ops i l K σ->bW P nt B w0 h0 g σ a w->Kp D a0 a->a.defers=ad ->
      wpOpsIn (FR r) n P ops Q (List.range' i l.length) a w:=by
  intro l
  induction l with
  | nil=>intro i σ g a w _ h S hk had;exact hQ σ h g a w S hk had
  | cons o l ih =>
    intro i σ g a w hl h S kN had;have ho:ops[i]? = some o:=by have:=hl 0 (by simp);simpa using this.symm
    have zK:∀j,j<l.length->l[j]? = ops[i+1+j]?:=λj hj=>by have:=hl (j+1) (by rw[EN];omega);rw[Yn]at this;rw[this];congr 1;omega
    simp only[EN,qdr,wpOpsIn,ho];simp only[jV]at h;split at h;exact h.elim;rename_i hd;have run:∀(σ:St),bW P nt B w0 h0 g σ a w->ni (act P Γ o (fK σ.env) (lk σ.aB)) (oH σ i o) i o.dst (jV P Γ nt ops (i+1) l K) σ->o.wpIn (FR r) n P a w (wpOpsIn (FR r) n P ops Q (List.range' (i+1) l.length)) Q:=by
      intro σ S h;obtain⟨hs,hk⟩:=E8.1 h;refine I7 (YW (Fj (i:=i) (Q:=Q) (r:=r) (n:=n) fP S hd rfl hs)) ?_;rintro a' w' ⟨⟨EL,g',σ',Ih,S'⟩,v,ds,rfl⟩;exact ih (i+1) _ g' _ w' zK (hk σ' Ih) (S'.log _) (kN.put (hD i o ho) v ds ((put_defers _ _ _).symm.trans EL)) (EL.trans had)
    have skp:∀(σ:St),bW P nt B w0 h0 g σ a w->jV P Γ nt ops (i+1) l K (σ.skip o.dst)->wpOpsIn (FR r) n P ops Q (List.range' (i+1) l.length) (a.put o.dst undef) w:=by
      intro σ S h;exact ih (i+1) _ g _ w zK h (S.skip hd) (kN.put (hD i o ho) undef a.defers rfl) ((put_defers _ _ _).trans had)
    split at h;rename_i hg;rw[eX (by simp[Region.wanted,hg])];exact run σ S h;rename_i j want hg;split at h;exact h.elim;rename_i gt TY;split at h
    · rename_i b hb;have hv:a.tmps.getD gt undef=.bool b:=by
        have:=S.env gt _ hb;generalize a.tmps.getD gt undef=v at this;cases this;rfl
      have hy:=wo TY hv;have S1:∀c,b=c->bW P nt B w0 h0 g (σ.setT gt (.bool c)) a w:=by
        intro c hc;refine S.env' (t:=gt) (d:=.bool c) ?_ (kD _);rw[hv,hc];exact .bool c
      have h2:=qA.1 h;cases b with
      | true =>
        have h3:=h2.1 rfl;cases want with|true=>rw[eX (by simp[Region.wanted,hg,hy])];exact run _ (S1 true rfl) h3|false=>rw[fF (by simp[Region.wanted,hg,hy])];exact⟨λ_ _=>trivial,skp _ (S1 true rfl) h3⟩
      | false =>
        have h3:=h2.2 rfl;cases want with|true=>rw[fF (by simp[Region.wanted,hg,hy])];exact⟨λ_ _=>trivial,skp _ (S1 false rfl) h3⟩|false=>rw[eX (by simp[Region.wanted,hg,hy])];exact run _ (S1 false rfl) h3
    rename_i hb;have hv:a.tmps.getD gt undef=undef:=S.env gt _ hb;have hy:=uf TY hv;rw[fF (by simp[Region.wanted,hg,hy])];exact⟨λ_ _=>trivial,skp _ S h⟩;exact h.elim
theorem GU(fP:jk P Γ){ops:Array Oper}{K:St→Prop}{D:List Nat}{a0:Act}(hD:∀(j:Nat)(o:Oper),ops[j]? = some o→∀t,o.dst=some t→t∈D)
    (h:jV P Γ nt ops 0 ops.toList K σ) (S:bW P nt B w0 h0 g σ a w) (kN:Kp D a0 a)
    (hQ:∀σ',K σ'->∀g' a' w',bW P nt B w0 h0 g' σ' a' w'->Kp D a0 a'->a'.defers=a.defers->Q .normal a' w'):wpOpsIn (FR r) n P ops Q (List.range ops.size) a w:=by
  have:=yB (r:=r) (n:=n) fP hD hQ ops.toList 0 σ g a w (λj _=>by simp) h S kN rfl;rw[qdp];simpa using this
end
end Go.Pm
namespace Go.Pm
variable [aH]
def aJ.fp:aJ→List (Nat×Bool)|.no=>[]|.val fp _ _ _=>fp|.chk fp _ _ _ _=>fp
def aJ.u:aJ→List (Nat×AO)|.no=>[]|.val _ _ u _=>u|.chk _ _ _ u _=>u
def aJ.kl:aJ→List Nat|.no=>[]|.val _ _ _ k=>k|.chk _ _ _ _ k=>k
def aJ.gives:aJ→DV→Prop|.no,_=>False|.val _ d _ _,d'=>d'=d|.chk _ _ d _ _,d'=>d'=d
def Men(o:Oper)(ev:Operand->DV)(ob:Nat->Option AO)(fp:List (Nat×Bool))(L:Nat):Prop :=
 (∃x∈o.op.operands.toList,L∈lN (ev x))\/∃y∈fp,∃o',ob y.1=some o'/\L∈oZ o'
structure bY (P : Program) (Γ : bI) (o : Oper) (ev : Operand → DV) (ob : Nat → Option AO) (A : aJ) : Prop where
  wr:∀x∈A.u,(x.1,true)∈A.fp
  kl:A.kl=[]\/∃L,A.kl=[L]/\(L,true)∈A.fp
  labu:∀x∈A.u,∀L∈oZ x.2,Men o ev ob A.fp L
  labd:∀d,A.gives d->∀L∈lN d,Men o ev ob A.fp L\/(L,true)∈A.fp
  congr:∀ev' ob',(∀x∈o.op.operands.toList,ev' x=ev x)->(∀y∈A.fp,ob' y.1=ob y.1)->act P Γ o ev' ob'=A
section
variable{P:Program}{Γ:bI}{o:Oper}{ev:Operand->DV}{ob:Nat->Option AO}{A:aJ}
theorem bY.pure{fp:List (Nat×Bool)}{d:DV}(hd:∀L∈lN d,Men o ev ob fp L∨(L,true)∈fp)
    (hc:∀ev' ob',(∀x∈o.op.operands.toList,ev' x=ev x)->(∀y∈fp,ob' y.1=ob y.1)->act P Γ o ev' ob'=.val fp d [] []):bY P Γ o ev ob (.val fp d [] []) :=
  ⟨λx hx=>by simp[aJ.u]at hx,.inl rfl,λx hx=>by simp[aJ.u]at hx,λd' h=>by simp only[aJ.gives]at h;subst h;exact hd,hc⟩
theorem bY.pchk{fp:List (Nat×Bool)}{s:CP}{d:DV}(hd:∀L∈lN d,Men o ev ob fp L∨(L,true)∈fp)
    (hc:∀ev' ob',(∀x∈o.op.operands.toList,ev' x=ev x)->(∀y∈fp,ob' y.1=ob y.1)->act P Γ o ev' ob'=.chk fp s d [] []):bY P Γ o ev ob (.chk fp s d [] []) :=
  ⟨λx hx=>by simp[aJ.u]at hx,.inl rfl,λx hx=>by simp[aJ.u]at hx,λd' h=>by simp only[aJ.gives]at h;subst h;exact hd,hc⟩
theorem iT{fp:List (Nat×Bool)}(v:PV):∀L∈lN (.p v),Men o ev ob fp L\/(L,true)∈fp:=λL hL=>by simp[lN,tu,mX]at hL
theorem qQ{fp:List (Nat×Bool)}{x:Operand}{d:DV}(hx:x∈o.op.operands.toList)(h:∀L∈lN d,L∈lN (ev x)):∀L∈lN d,Men o ev ob fp L\/(L,true)∈fp :=
 λL hL=>.inl (.inl ⟨x,hx,h L hL⟩)
theorem Q3{c:Cl}:∀L∈mX c,L∈bu c:=by cases c<;>simp[mX,bu]
theorem Q4{ag:Bool}{m off:Nat}{cells:List Cl}{d:D1}(hr:nI ag m cells off=some d):∀L∈tu d,L∈cells.flatMap mX:=by
 cases ag with
 | true =>
  simp only[nI]at hr;split at hr;simp only [bQ]at hr;subst hr;intro L hL;simp only[tu,lD]at hL ⊢;obtain⟨c,hc,hL⟩:=hL;exact⟨c,jqH (jqI hc),hL⟩;cases hr
 | false =>
  simp only[nI]at hr;split at hr;rename_i x hx;simp only[bQ]at hr;subst hr;intro L hL;simp only[tu]at hL;exact lD.2 ⟨x,Jr hx,hL⟩;cases hr
theorem Vs(cells:List PV):(cells.map Cl.p).flatMap mX=[]:=by
 induction cells with|nil=>rfl|cons c r ih=>simp[mX,ih]
theorem I8{ag:Bool}{m off:Nat}{cells:List PV}{d:D1}(hr:nI ag m (cells.map .p) off=some d):tu d=[]:=by
 have:=Q4 hr;rw[Vs]at this;cases hd:tu d with|nil=>rfl|cons x l=>have:=this x (by rw[hd];exact kQ);simp at this
theorem Bd{ob':Nat->Option AO}{c:Cl}(h:∀L∈bu c,ob' L=ob L):zM ob' c=zM ob c:=by
 cases c<;>first|rfl|(simp only[zM];rw[h _ (by simp[bu])])
theorem yC{ob':Nat→Option AO}:∀{cs:List Cl},(∀L∈cs.flatMap bu,ob' L=ob L)→jr ob' cs=jr ob cs
  | [],_=>rfl
  | c::cs,h=>by
    simp only[jr];rw[Bd (λL hL=>h L (by simp[hL])),yC (λL hL=>h L (by simp only[oD,dW];exact .inr hL))]
theorem YX{ob':Nat->Option AO}{c:Cl}(h:∀L∈bu c,ob' L=ob L/\∀o',ob L=some o'->∀M∈dU o',ob' M=ob M):Ob ob' c=Ob ob c:=by
 cases c with
 | ptr L off =>
  obtain⟨h1,h2⟩:=h L (by simp[bu]);simp only[Ob];rw[h1];cases hL:ob L with
  | none=>rfl
  | some o' =>
   cases o' with|box ty cells=>simp only[];rw[yC (λM hM=>h2 _ hL M hM)]|_=>rfl
 | _=>exact Bd λL hL=>(h L hL).1
theorem GV{ob':Nat→Option AO}:∀{cs:List Cl},(∀L∈cs.flatMap bu,ob' L=ob L∧∀o',ob L=some o'→∀M∈dU o',ob' M=ob M)→mZ ob' cs=mZ ob cs
  | [],_=>rfl
  | c::cs,h=>by
    simp only[mZ];rw[YX (λL hL=>h L (by simp[hL])),GV (λL hL=>h L (by simp only[oD,dW];exact .inr hL))]
def DC(ob ob':Nat->Option AO)(L:Nat):Prop:=ob' L=ob L/\∀o',ob L=some o'->∀M∈dU o',ob' M=ob M/\∀o2,ob M=some o2->∀N∈dU o2,ob' N=ob N
theorem KP{ob':Nat->Option AO}{c:Cl}(h:∀L∈bu c,DC ob ob' L):Ju ob' c=Ju ob c:=by
 cases c with
 | ptr L off =>
  obtain⟨h1,h2⟩:=h L (by simp[bu]);simp only[Ju];rw[h1];cases hL:ob L with
  | none=>rfl
  | some o' =>
   cases o' with|box ty cells=>simp only[];rw[GV (λM hM=>h2 _ hL M hM)]|_=>rfl
 | _=>exact Bd λL hL=>(h L hL).1
theorem GX{ob':Nat→Option AO}:∀{cs:List Cl},(∀L∈cs.flatMap bu,DC ob ob' L)→rY ob' cs=rY ob cs
  | [],_=>rfl
  | c::cs,h=>by
    simp only[rY];rw[KP (λL hL=>h L (by simp[hL])),GX (λL hL=>h L (by simp only[oD,dW];exact .inr hL))]
theorem Dc:∀caps:List sZ,(caps.map zdl).flatMap bu=lF caps|[]=>rfl|.v _::r=>by simp only[o5,oD,zdl,bu,OU,lF];exact Dc r|.b L::r=>by simp only[o5,oD,zdl,bu,lF,qdJ,OU];rw[Dc r]
theorem PP{ob':Nat->Option AO}{c:Cl}(h:∀L∈bu c,DC ob ob' L):frz ob' c=frz ob c:=by
 cases c with
 | clo f caps =>
  simp only[frz];rw[GX (ob:=ob) (ob':=ob') (cs:=caps.map zdl) (λL hL=>h L (by rw[Dc]at hL;exact hL))]
 | _=>exact KP h
theorem Be{ob':Nat→Option AO}:∀{cs:List Cl},(∀L∈cs.flatMap bu,DC ob ob' L)→tq ob' cs=tq ob cs
  | [],_=>rfl
  | c::cs,h=>by
    simp only[tq];rw[PP (λL hL=>h L (by simp[hL])),Be (λL hL=>h L (by simp only[oD,dW];exact .inr hL))]
theorem mr{ob:Nat->Option AO}{d:DV}{k:Nat}:k∈bH ob d↔∃L∈cu d,k=L\/∃o,ob L=some o/\∃M∈dU o,k=M\/∃o2,ob M=some o2/\k∈dU o2:=by
 unfold bH;rw[lD];refine exists_congr λL=>and_congr_right λ_=>?_;rw[kF];refine or_congr_right ?_;cases ob L with
 | none=>simp
 | some o =>
  simp only[bQ,exists_eq_left',lD,kF];refine exists_congr λM=>and_congr_right λ_=>or_congr_right ?_;cases ob M with|none=>simp|some o2=>simp
theorem KQ{ob':Nat->Option AO}{d:DV}(h:∀L∈bH ob d,ob' L=ob L):zN ob' d=zN ob d:=by
 have key:∀L∈cu d,DC ob ob' L:=λL hL =>
  ⟨h L (mr.2 ⟨L,hL,.inl rfl⟩),λo' kH M hM=>⟨h M (mr.2 ⟨L,hL,.inr ⟨o',kH,M,hM,.inl rfl⟩⟩),λo2 oh N hN=>h N (mr.2 ⟨L,hL,.inr ⟨o',kH,M,hM,.inr ⟨o2,oh,hN⟩⟩⟩)⟩⟩
 cases d with
 | one d =>
  cases d with|c c=>simp only[zN];rw[PP key]|agg cs=>simp only[zN];rw[Be key]
 | tup ds=>rfl
theorem lS{ob':Nat→Option AO}:∀{ds:List DV},(∀L∈ds.flatMap (bH ob),ob' L=ob L)→iy ob' ds=iy ob ds
  | [],_=>rfl
  | d::ds,h=>by
    simp only[iy];rw[KQ (λL hL=>h L (by simp[hL])),lS (λL hL=>h L (by simp only[oD,dW];exact .inr hL))]
theorem jg{ob':Nat->Option AO}{d:DV}(h:∀L∈bH ob d,ob' L=ob L):bH ob' d=bH ob d:=by
 have fm:∀(l:List Nat)(f f':Nat->List Nat),(∀L∈l,f' L=f L)->l.flatMap f'=l.flatMap f:=by
  intro l f f'
  induction l with
  | nil=>intro _;rfl
  | cons L l ih =>
   intro h;simp only[oD];rw[h L (by simp),ih (λM hM=>h M (jS _ hM))]
 unfold bH;refine fm _ _ _ λL hL=>?_;rw[h L (mr.2 ⟨L,hL,.inl rfl⟩)];cases hL2:ob L with
 | none=>rfl
 | some o =>
  refine kz (L :: ·) (fm _ _ _ λM hM=>?_);rw[h M (mr.2 ⟨L,hL,.inr ⟨o,hL2,M,hM,.inl rfl⟩⟩)]
theorem qE{c:Cl}{v:PV}{u:lX}(h:zM ob c=some (v,u)):∀x∈u,x.1∈bu c/\oZ x.2=[]:=by
 unfold zM at h;split at h;simp only[bQ,gm]at h;rw[<- h.2];intro x hx;simp at hx;split at h;simp only[bQ,gm]at h;rw[<- h.2];intro x hx;simp at hx;subst hx;exact⟨by simp[bu],rfl⟩;simp only[bQ,gm]at h;rw[<- h.2];intro x hx;simp at hx;simp only[bQ,gm]at h;rw[<- h.2];intro x hx;simp only[kY]at hx;subst hx;exact⟨by simp[bu],rfl⟩;cases h;cases h
theorem qR:∀{cs:List Cl}{l:List PV}{u:lX},jr ob cs=some (l,u)→∀x∈u,x.1∈cs.flatMap bu∧oZ x.2=[]
  | [],l,u,h=>by simp[jr]at h;rw[h.2];intro x hx;simp at hx
  | c::cs,l,u,h=>by
    simp only[jr]at h;split at h;rename_i v u1 l2 u2 h1 h2;simp only[bQ,gm]at h;rw[<- h.2];intro x hx;simp only[oD,dW];rcases dW.1 hx with hx|hx
    exact⟨.inl (qE h1 x hx).1,(qE h1 x hx).2⟩;exact⟨.inr (qR h2 x hx).1,(qR h2 x hx).2⟩;cases h
theorem zdQ{c:Cl}{v:PV}{u:lX}(h:Ob ob c=some (v,u)):∀x∈u,(x.1∈bu c\/∃L∈bu c,∃o',ob L=some o'/\x.1∈dU o')/\oZ x.2=[]:=by
 unfold Ob at h;split at h;split at h;rename_i L off _x ty cells hL;split at h;rename_i l us hl;simp only[bQ,gm]at h;rw[<- h.2];intro x hx;rcases dW.1 hx with hx|hx
 exact⟨.inr ⟨L,by simp[bu],_,hL,(qR hl x hx).1⟩,(qR hl x hx).2⟩;simp at hx;subst hx;exact⟨.inl (by simp[bu]),rfl⟩;cases h;simp only[bQ,gm]at h;rw[<- h.2];intro x hx;simp at hx;cases h;intro x hx;exact⟨.inl (qE h x hx).1,(qE h x hx).2⟩
theorem KR:∀{cs:List Cl}{l:List PV}{u:lX},mZ ob cs=some (l,u)→∀x∈u,(x.1∈cs.flatMap bu∨∃L∈cs.flatMap bu,∃o',ob L=some o'∧x.1∈dU o')∧oZ x.2=[]
  | [],l,u,h=>by simp[mZ]at h;rw[h.2];intro x hx;simp at hx
  | c::cs,l,u,h=>by
    simp only[mZ]at h;split at h;rename_i v u1 l2 u2 h1 h2;simp only[bQ,gm]at h;rw[<- h.2];intro x hx;simp only[oD,dW];rcases dW.1 hx with hx|hx
    obtain⟨h3,h4⟩:=zdQ h1 x hx;refine⟨?_,h4⟩;rcases h3 with h3|⟨L,hL,o',h5,h6⟩
    exact .inl (.inl h3);exact .inr ⟨L,.inl hL,o',h5,h6⟩;obtain⟨h3,h4⟩:=KR h2 x hx;refine⟨?_,h4⟩;rcases h3 with h3|⟨L,hL,o',h5,h6⟩
    exact .inl (.inr h3);exact .inr ⟨L,.inr hL,o',h5,h6⟩;cases h
def RC(ob:Nat->Option AO)(k:Nat)(l:List Nat):Prop:=∃L∈l,k=L\/∃o,ob L=some o/\∃M∈dU o,k=M\/∃o2,ob M=some o2/\k∈dU o2
theorem RC.mono{ob:Nat->Option AO}{k:Nat}{l m:List Nat}(h:RC ob k l)(hl:∀x∈l,x∈m):RC ob k m:=by
 obtain⟨L,h1,h2⟩:=h;exact⟨L,hl L h1,h2⟩
theorem Fp{c:Cl}{v:PV}{u:lX}(h:Ju ob c=some (v,u)):∀x∈u,RC ob x.1 (bu c)/\oZ x.2=[]:=by
 unfold Ju at h;split at h;split at h;rename_i L off _x ty cells hL;split at h;rename_i l us hl;simp only[bQ,gm]at h;rw[<- h.2];intro x hx;rcases dW.1 hx with hx|hx
 obtain⟨h3,h4⟩:=KR hl x hx;refine⟨⟨L,by simp[bu],.inr ⟨_,hL,?_⟩⟩,h4⟩;rcases h3 with h3|⟨M,hM,o2,h5,h6⟩
 exact⟨x.1,h3,.inl rfl⟩;exact⟨M,hM,.inr ⟨o2,h5,h6⟩⟩;simp at hx;subst hx;exact⟨⟨L,by simp[bu],.inl rfl⟩,rfl⟩;cases h;simp only[bQ,gm]at h;rw[<- h.2];intro x hx;simp at hx;cases h;intro x hx;exact⟨⟨x.1,(qE h x hx).1,.inl rfl⟩,(qE h x hx).2⟩
theorem Bf:∀{cs:List Cl}{l:List PV}{u:lX},rY ob cs=some (l,u)→∀x∈u,RC ob x.1 (cs.flatMap bu)∧oZ x.2=[]
  | [],l,u,h=>by simp[rY]at h;rw[h.2];intro x hx;simp at hx
  | c::cs,l,u,h=>by
    simp only[rY]at h;split at h;rename_i v u1 l2 u2 h1 h2;simp only[bQ,gm]at h;rw[<- h.2];intro x hx;simp only[oD];rcases dW.1 hx with hx|hx
    exact⟨(Fp h1 x hx).1.mono λy hy=>dW.2 (.inl hy),(Fp h1 x hx).2⟩;exact⟨(Bf h2 x hx).1.mono λy hy=>dW.2 (.inr hy),(Bf h2 x hx).2⟩;cases h
theorem KT{c:Cl}{v:PV}{u:lX}(h:frz ob c=some (v,u)):∀x∈u,RC ob x.1 (bu c)/\oZ x.2=[]:=by
 unfold frz at h;split at h;rename_i f caps;split at h;rename_i l us hl;simp only[bQ,gm]at h;obtain⟨rfl,rfl⟩:=h;have:=Bf hl;rw[Dc]at this;exact this;cases h;exact Fp h
theorem zl:∀{cs:List Cl}{l:List PV}{u:lX},tq ob cs=some (l,u)→∀x∈u,RC ob x.1 (cs.flatMap bu)∧oZ x.2=[]
  | [],l,u,h=>by simp[tq]at h;rw[h.2];intro x hx;simp at hx
  | c::cs,l,u,h=>by
    simp only[tq]at h;split at h;rename_i v u1 l2 u2 h1 h2;simp only[bQ,gm]at h;rw[<- h.2];intro x hx;simp only[oD];rcases dW.1 hx with hx|hx
    exact⟨(KT h1 x hx).1.mono λy hy=>dW.2 (.inl hy),(KT h1 x hx).2⟩;exact⟨(zl h2 x hx).1.mono λy hy=>dW.2 (.inr hy),(zl h2 x hx).2⟩;cases h
theorem PQ{d:DV}{v:PA}{u:lX}(h:zN ob d=some (v,u)):∀x∈u,x.1∈bH ob d/\oZ x.2=[]:=by
 have deep:∀k,RC ob k (cu d)->k∈bH ob d:=λk hk=>mr.2 hk;unfold zN at h;split at h;split at h;rename_i v' u' h1;simp only[bQ,gm]at h;rw[<- h.2];intro x hx;obtain⟨h3,h4⟩:=KT h1 x hx;exact⟨deep _ h3,h4⟩;cases h;split at h;rename_i v' u' h1;simp only[bQ,gm]at h;rw[<- h.2];intro x hx;obtain⟨h3,h4⟩:=zl h1 x hx;exact⟨deep _ h3,h4⟩;cases h;cases h
theorem Bg:∀{ds:List DV}{l:List PA}{u:lX},iy ob ds=some (l,u)→∀x∈u,x.1∈ds.flatMap (bH ob)∧oZ x.2=[]
  | [],l,u,h=>by simp[iy]at h;rw[h.2];intro x hx;simp at hx
  | d::ds,l,u,h=>by
    simp only[iy]at h;split at h;rename_i v u1 l2 u2 h1 h2;simp only[bQ,gm]at h;rw[<- h.2];intro x hx;simp only[oD,dW];rcases dW.1 hx with hx|hx
    exact⟨.inl (PQ h1 x hx).1,(PQ h1 x hx).2⟩;exact⟨.inr (Bg h2 x hx).1,(Bg h2 x hx).2⟩;cases h
end
end Go.Pm
namespace Go.Pm
variable [aH]
section
variable{P:Program}{Γ:bI}{o:Oper}{ev:Operand->DV}{ob:Nat->Option AO}{A:aJ}
theorem fmc{α β:Type}{f h:α→List β}:∀{l:List α},(∀x∈l,f x=h x)→l.flatMap f=l.flatMap h|[],_=>rfl|x::l,hf=>by simp only[oD];rw[hf x kQ,fmc λy hy=>hf y (jS _ hy)]
theorem zbu{x:Operand}(bf:o.op=.move x\/o.op=.assign x):bY P Γ o ev ob (.val [] (ev x) [] []):=by
 have hx:x∈o.op.operands.toList:=by rcases bf with h|h<;>simp[h,Op.operands]
 refine bY.pure (qQ hx λL hL=>hL) λev' ob' he _=>?_;rcases bf with h|h<;>simp only[act,h,he x hx]
theorem zno{b:Bool}{x y:DV}:∀L∈lN (Ah b x y),L∈lN x\/L∈lN y:=by
 unfold Ah;split;intro L hL;simp[lN,tu,mX]at hL
 ·cases b with|true=>exact λL hL=>.inl hL|false=>exact λL hL=>.inr hL
theorem znp{c x y:Operand}{t:Bool}(bf:o.op=.pick c x y)(hc:ev c=.one (.c (.p (.bool t)))):bY P Γ o ev ob (.val [] (Ah t (ev x) (ev y)) [] []):=by
 have hcm:c∈o.op.operands.toList:=by simp[bf,Op.operands]
 have hx:x∈o.op.operands.toList:=by simp[bf,Op.operands]
 have hy:y∈o.op.operands.toList:=by simp[bf,Op.operands]
 refine bY.pure (λL hL=>?_) λev' ob' he _=>?_;rcases zno L hL with h|h
 exact .inl (.inl ⟨x,hx,h⟩);exact .inl (.inl ⟨y,hy,h⟩);simp only[act,aPk,bf,he c hcm,he x hx,he y hy,hc]
theorem Q5{ao:AO}{d:Nat→DV}(hlo:∀L∈oZ ao,Men o ev ob [] L)(hld:∀t,∀L∈lN (d t),L=t)
    (hc:∀ev' ob',(∀x∈o.op.operands.toList,ev' x=ev x)->act P Γ o ev' ob'=EU ob' o.dst ao d) (hA:EU ob o.dst ao d=A) (hs:A.safe):bY P Γ o ev ob A:=by
  have rX:=hA;unfold EU at hA;split at hA;rename_i t ht;split at hA;rename_i hn;subst hA;have men:∀L,Men o ev ob [] L->Men o ev ob [(t,true)] L:=λL h=>h.imp_right λ⟨y,hy,_⟩=>by simp at hy
  refine⟨λx hx=>?_,.inl rfl,λx hx L hL=>?_,λd' fZ L hL=>?_,λev' ob' he cO=>?_⟩;simp only[aJ.u,kY]at hx;subst hx;simp[aJ.fp];simp only[aJ.u,kY]at hx;subst hx;exact men L (hlo L hL);simp only[aJ.gives]at fZ;subst fZ;rw[hld t L hL];exact .inr (by simp[aJ.fp]);rw [hc ev' ob' he];have:=cO (t,true) (by simp[aJ.fp]);simp only at this;simp only[EU,ht,this,hn];subst hA;exact hs.elim;subst hA;exact hs.elim
theorem zbv{t:TypeId}{z:List Cl}(h:gK P t=some z):z.flatMap mX=[]:=by
 have h1:=Pg h;cases hz:z.flatMap mX with
 | nil=>rfl
 | cons L l =>
  have:L∈z.flatMap mX:=by rw[hz];exact kQ
  obtain⟨c,hc,hL⟩:=lD.1 this;have:L∈z.flatMap bu:=lD.2 ⟨c,hc,Q3 L hL⟩;rw[h1]at this;simp at this
theorem Q7(d:D1):d.cells.flatMap mX=tu d:=by cases d<;>simp[D1.cells,tu]
theorem Vt{t:TypeId}:∀(parts:List (Nat×Operand))(z l:List Cl),iH P t ev z parts=some l→∀L∈l.flatMap mX,L∈z.flatMap mX∨∃x∈parts,L∈lN (ev x.2)
  | [],z,l,h=>by simp[iH]at h;subst h;exact λL hL=>.inl hL
  | (i,x)::r,z,l,h=>by
    simp only[iH]at h;split at h;rename_i d hd;have zPF:∀(l' l:List Cl)(off:Nat),∀L∈(spl l off l').flatMap mX,L∈l.flatMap mX\/L∈l'.flatMap mX:=by
      intro l'
      induction l' with
      | nil=>intro l off L hL;exact .inl hL
      | cons c l' ih =>
        intro l off L hL;simp only[spl]at hL;rcases ih _ _ L hL with h|h
        obtain⟨c',hc',Qx⟩:=lD.1 h;rcases qda hc' with h2|h2
        exact .inl (lD.2 ⟨c',h2,Qx⟩);subst h2;exact .inr (lD.2 ⟨c',kQ,Qx⟩);exact .inr (by simp only[oD,dW];exact .inr h)
    have step:∀off,iH P t ev (spl z off d.cells) r=some l->∀L∈l.flatMap mX,L∈z.flatMap mX\/∃y∈(i,x)::r,L∈lN (ev y.2):=by
      intro off hb L hL;rcases Vt r _ l hb L hL with h|⟨y,hy,hL⟩
      rcases zPF _ _ _ L h with h|h
      exact .inl h;refine .inr ⟨(i,x),kQ,?_⟩;simp only[hd,lN];rw[<- Q7];exact h;exact .inr ⟨y,jS _ hy,hL⟩
    split at h;split at h;split at h;split at h;exact step _ h;cases h;cases h;cases h;split at h;split at h;exact step _ h;cases h;cases h;cases h;cases h
theorem Dh{ev':Operand→DV}{t:TypeId}:∀(parts:List (Nat×Operand))(z:List Cl),(∀x∈parts,ev' x.2=ev x.2)→iH P t ev' z parts=iH P t ev z parts
  | [],z,_=>rfl
  | (i,x)::r,z,h=>by
    have hx:ev' x=ev x:=h (i,x) kQ;have ih:∀z,iH P t ev' z r=iH P t ev z r:=λz=>Dh r z λy hy=>h y (jS _ hy);simp only[iH,hx,ih]
theorem Am{ev':Operand->DV}{ob':Nat->Option AO}{s:Nat}:∀(parts:List (Nat×Operand))(i:Nat)(ls:List (List PV))(u:lX)(jc:List Nat),jl ob ev s i parts=some (ls,u,jc) ->
  (∀x∈parts,ev' x.2=ev x.2)->(∀L∈jc,ob' L=ob L)->jl ob' ev' s i parts=some (ls,u,jc)
 | [],i,ls,u,jc,h,_,_=>by simpa [jl]using h
 | (j,x)::r,i,ls,u,jc,h,he,cO=>by
  have hx:ev' x=ev x:=he (j,x) kQ;simp only[jl]at h ⊢;rw[hx];split at h;rename_i NY;split at h;rename_i d hd;split at h;rename_i l u1 ls' us ztJ h1 h2;split at h;rename_i hlen;simp only[bQ,gm]at h;obtain⟨rfl,rfl,rfl⟩:=h;have e1:jr ob' d.cells=some (l,u1):=by
   rw[<- h1];refine yC λL hL=>cO L (dW.2 (.inl ?_));cases d<;>simpa [D1.cells,dC]using hL
  have e2:=Am r (i+1) ls' us ztJ h2 (λy hy=>he y (jS _ hy)) (λL hL=>cO L (dW.2 (.inr hL)));simp only[e1,e2,hlen];cases h;cases h;cases h;cases h
theorem wu{s:Nat}:∀(parts:List (Nat×Operand))(i:Nat)(ls:List (List PV))(u:lX)(jc:List Nat),jl ob ev s i parts=some (ls,u,jc)→∀x∈u,x.1∈jc∧oZ x.2=[]
  | [],i,ls,u,jc,h=>by simp[jl]at h;rw[h.2.1];intro x hx;simp at hx
  | (j,x)::r,i,ls,u,jc,h=>by
    simp only[jl]at h;split at h;split at h;rename_i d hd;split at h;rename_i l u1 ls' us ztJ h1 h2;split at h;simp only [bQ,gm]at h;obtain⟨rfl,rfl,rfl⟩:=h;intro y hy;rcases dW.1 hy with hy|hy
    obtain⟨h3,h4⟩:=qR h1 y hy;refine⟨dW.2 (.inl ?_),h4⟩;cases d<;>simpa [D1.cells,dC]using h3;obtain⟨h3,h4⟩:=wu r _ _ _ _ h2 y hy;exact⟨dW.2 (.inr h3),h4⟩;cases h;cases h;cases h;cases h
theorem zhj{t:TypeId}{parts:Array (Nat×Operand)}{z l:List Cl}(bf:o.op = .build t parts)(hf:xY P t=true)(hz:gK P t=some z)(hl:iH P t ev z parts.toList=some l) :
  bY P Γ o ev ob (.val [] (.one (.agg l)) [] []):=by
 have hm:∀x∈parts.toList,x.2∈o.op.operands.toList:=λx hx=>by
  simp only[bf,Op.operands];exact xq.2 ⟨x,hx,rfl⟩
 refine bY.pure (λL hL=>?_) λev' ob' he _=>?_;rcases Vt _ _ _ hl L hL with h|⟨x,hx,h⟩
 rw[zbv hz]at h;simp at h;exact .inl (.inl ⟨x.2,hm x hx,h⟩);simp only[act,aBd,bf,hf,hz,Dh parts.toList z (λx hx=>he x.2 (hm x hx)),hl]
theorem KU{l:List Nat}{L:Nat}(h:L∈l):(L,true)∈wr l:=xq.2 ⟨L,h,rfl⟩
theorem Ol{t:TypeId}{n:Nat}{parts:Array (Nat×Operand)}(bf:o.op=.buildSlice t n parts)(hA:act P Γ o ev ob=A)(hs:A.safe):bY P Γ o ev ob A:=by
 have hm:∀x∈parts.toList,x.2∈o.op.operands.toList:=λx hx=>by
  simp only[bf,Op.operands];exact xq.2 ⟨x,hx,rfl⟩
 simp only[act,aBs,bf]at hA;split at hA;rename_i e hu;split at hA;rename_i ie hie;split at hA;rename_i ls u jc hp;split at hA;rename_i z dst hb hz hd;split at hA;rename_i hn;subst hA;refine⟨λx hx=>?_,.inl rfl,λx hx L hL=>?_,λd' fZ L hL=>?_,λev' ob' he cO=>?_⟩;simp only [aJ.u,kF]at hx;simp only[aJ.fp,dW];rcases hx with rfl|hx
 exact .inr (by simp);exact .inl (KU (wu _ _ _ _ _ hp x hx).1);simp only [aJ.u,kF]at hx;rcases hx with rfl|hx
 simp[oZ]at hL;rw[(wu _ _ _ _ _ hp x hx).2]at hL;simp at hL;simp only [aJ.gives]at fZ;subst fZ;simp only[lN,tu,mX,kY]at hL;subst hL;exact .inr (by simp[aJ.fp]);have e1:=Am (ev':=ev') (ob':=ob') _ _ _ _ _ hp (fun x hx=>he x.2 (hm x hx)) (fun L hL=>cO (L,true) (dW.2 (.inl (KU hL))));have e2:=cO (dst,true) (dW.2 (.inr (by simp)));simp only at e2;simp only[act,aBs,bf,hu,hie,e1,hb,hz,hd,e2,hn];subst hA;exact hs.elim;subst hA;exact hs.elim;subst hA;exact hs.elim;subst hA;exact hs.elim;subst hA;exact hs.elim
theorem zwV{L:Nat}{ao:AO}{w:Bool}{d:D1}(hL:ob L=some ao)(h:∀M∈tu d,M∈oZ ao):∀M∈lN (.one d),Men o ev ob [(L,w)] M\/(M,true)∈[(L,w)] :=
 λM hM=>.inl (.inr ⟨(L,w),by simp,ao,hL,h M hM⟩)
theorem znq{t:TypeId}{x:Operand}(bf:o.op=.load t x)(hA:act P Γ o ev ob=A)(hs:A.safe):bY P Γ o ev ob A:=by
 have hm:x∈o.op.operands.toList:=by simp[bf,Op.operands]
 simp only[act,aLd,bf]at hA;split at hA;rename_i ag n uw hn;split at hA;rename_i L off hx;split at hA;rename_i ty cells hL;split at hA;rename_i d hr;subst hA;refine bY.pure (zwV hL (Q4 hr)) λev' ob' he cO=>?_;have e:=cO (L,false) (by simp);simp only at e;simp only[act,aLd,bf,uw,hn,he x hm,hx,e,hL,hr];subst hA;exact hs.elim;rename_i cells hL;split at hA;rename_i d hr;subst hA;refine bY.pure (λM hM=>?_) λev' ob' he cO=>?_;simp only[lN]at hM;rw[I8 hr]at hM;simp at hM;have e:=cO (L,false) (by simp);simp only at e;simp only[act,aLd,bf,uw,hn,he x hm,hx,e,hL,hr];subst hA;exact hs.elim;subst hA;exact hs.elim;rename_i cells off hx;split at hA;rename_i d hr;subst hA;refine bY.pure (λM hM=>?_) λev' ob' he cO=>?_;simp only[lN]at hM;rw[I8 hr]at hM;simp at hM;simp only[act,aLd,bf,uw,hn,he x hm,hx,hr];subst hA;exact hs.elim;rename_i L s i k hx;split at hA;rename_i e s' b len get hL;split at hA;rename_i d OJ hr;subst hA;refine bY.pchk (λM hM=>?_) λev' ob' he cO=>?_;simp only[lN]at hM;rw[I8 hr]at hM;simp at hM;have e:=cO (L,false) (by simp);simp only at e;simp only[act,aLd,bf,uw,hn,he x hm,hx,e,hL,OJ,hr];subst hA;exact hs.elim;rename_i s' len get hL;split at hA;rename_i d OJ hr;subst hA;refine bY.pchk (λM hM=>?_) λev' ob' he cO=>?_;simp only[lN]at hM;rw[I8 hr]at hM;simp at hM;have e:=cO (L,false) (by simp);simp only at e;simp only[act,aLd,bf,uw,hn,he x hm,hx,e,hL,OJ,hr];subst hA;exact hs.elim;rename_i hL0;split at hA;rename_i OJ;split at hA;rename_i dst Gp;split at hA;rename_i gV hL;subst hA;refine⟨λx hx=>?_,.inl rfl,λx hx L hL=>?_,λd' fZ L hL=>?_,λev' ob' he cO=>?_⟩;simp only [aJ.u,kF,qjn,jqp]at hx;rcases hx with rfl|rfl<;>simp[aJ.fp]
 simp only [aJ.u,kF,qjn,jqp]at hx;rcases hx with rfl|rfl<;>simp[oZ]at hL
 simp only [aJ.gives]at fZ;subst fZ;simp only[lN,tu,mX,kY]at hL;subst hL;exact .inr (by simp[aJ.fp]);have e1:=cO (L,true) (by simp [aJ.fp]);have e2:=cO (dst,true) (by simp[aJ.fp]);simp only at e1 e2;simp only[act,aLd,bf,uw,hn,he x hm,hx,e1,e2,hL,OJ,Gp,gV];subst hA;exact hs.elim;subst hA;exact hs.elim;subst hA;exact hs.elim;subst hA;exact hs.elim;subst hA;exact hs.elim;subst hA;exact hs.elim
theorem zFq:∀(l' l:List Cl)(off:Nat),∀L∈(spl l off l').flatMap mX,L∈l.flatMap mX\/L∈l'.flatMap mX:=by
 intro l'
 induction l' with
 | nil=>intro l off L hL;exact .inl hL
 | cons c l' ih =>
  intro l off L hL;simp only[spl]at hL;rcases ih _ _ L hL with h|h
  obtain⟨c',hc',Qx⟩:=lD.1 h;rcases qda hc' with h2|h2
  exact .inl (lD.2 ⟨c',h2,Qx⟩);subst h2;exact .inr (lD.2 ⟨c',kQ,Qx⟩);exact .inr (by simp only[oD,dW];exact .inr h)
theorem zhk{t:TypeId}{x y:Operand}(bf:o.op=.store t x y)(hA:act P Γ o ev ob=A)(hs:A.safe):bY P Γ o ev ob A:=by
 have hx:x∈o.op.operands.toList:=by simp[bf,Op.operands]
 have hy:y∈o.op.operands.toList:=by simp[bf,Op.operands]
 simp only[act,aSt,bf]at hA;split at hA;rename_i n L off d hn hex Yi;split at hA;rename_i ty cells hL;split at hA;rename_i hb;subst hA;refine⟨λz hz=>?_,.inl rfl,λz hz M hM=>?_,λd' fZ M hM=>?_,λev' ob' he cO=>?_⟩;simp only[aJ.u,kY]at hz;subst hz;simp[aJ.fp];simp only [aJ.u,kY]at hz;subst hz;simp only[oZ]at hM;rcases zFq _ _ _ M hM with h|h
 exact .inr ⟨(L,true),by simp[aJ.fp],_,hL,h⟩;refine .inl ⟨y,hy,?_⟩;rw[Yi];simp only[lN];rw[<- Q7];exact h;simp only[aJ.gives]at fZ;subst fZ;simp[lN,tu,mX]at hM;have e:=cO (L,true) (by simp [aJ.fp]);simp only at e;simp only[act,aSt,bf,hn,he x hx,he y hy,hex,Yi,e,hL,hb];subst hA;exact hs.elim;subst hA;exact hs.elim;rename_i n L s i k d hn hex Yi;split at hA;rename_i e s' b len get hL;split at hA;rename_i l hl;split at hA;rename_i hb;subst hA;refine⟨λz hz=>?_,.inl rfl,λz hz M hM=>?_,λd' fZ M hM=>?_,λev' ob' he cO=>?_⟩;simp only[aJ.u,kY]at hz;subst hz;simp[aJ.fp];simp only[aJ.u,kY]at hz;subst hz;simp[oZ]at hM;simp only[aJ.gives]at fZ;subst fZ;simp[lN,tu,mX]at hM;have e:=cO (L,true) (by simp [aJ.fp]);simp only at e;simp only[act,aSt,bf,hn,he x hx,he y hy,hex,Yi,e,hL,hl,hb];subst hA;exact hs.elim;subst hA;exact hs.elim;rename_i te bb e s' OL len ln get hL;split at hA;rename_i M';split at hA;rename_i e2 s2 b2 mm lG hM';split at hA;rename_i hb;split at hA;rename_i hq;subst hA;refine⟨λz hz=>?_,.inl rfl,λz hz M hM=>?_,λd' fZ M hM=>?_,λev' ob' he cO=>?_⟩;simp only [aJ.u,kF,qjn,jqp]at hz;rcases hz with rfl|rfl<;>simp[aJ.fp]
 simp only [aJ.u,kF,qjn,jqp]at hz;rcases hz with rfl|rfl<;>simp[oZ]at hM
 simp only[aJ.gives]at fZ;subst fZ;simp[lN,tu,mX]at hM;have e:=cO (L,true) (by simp [aJ.fp]);simp only at e;have e2:=cO (M',true) (by simp[aJ.fp]);simp only at e2;simp only[act,aSt,bf,hn,he x hx,he y hy,hex,Yi,e,hL,e2,hM',hb];rw[eX hq];subst hA;exact hs.elim;subst hA;exact hs.elim;subst hA;exact hs.elim;subst hA;exact hs.elim;subst hA;exact hs.elim;subst hA;exact hs.elim
theorem Vu{x:Operand}(bf:o.op=.nilCheck x)(hA:act P Γ o ev ob=A)(hs:A.safe):bY P Γ o ev ob A:=by
 have hx:x∈o.op.operands.toList:=by simp[bf,Op.operands]
 simp only[act,aNc,bf]at hA;split at hA;rename_i L off h;subst hA;exact bY.pure (qQ hx λL hL=>by rw[h];exact hL) λev' ob' he _=>by simp only[act,aNc,bf,he x hx,h]
 rename_i L off h;subst hA;exact bY.pure (qQ hx λL hL=>by rw[h];exact hL) λev' ob' he _=>by simp only[act,aNc,bf,he x hx,h]
 rename_i L s i k h;subst hA;exact bY.pure (qQ hx λL hL=>by rw[h];exact hL) λev' ob' he _=>by simp only[act,aNc,bf,he x hx,h]
 subst hA;exact hs.elim
theorem zhl{op:BinOp}{k:IntKind}{p q:Int}(hs:(Uz op k p q).safe)
    (hc:∀ev' ob',(∀x∈o.op.operands.toList,ev' x=ev x)->act P Γ o ev' ob'=Uz op k p q):bY P Γ o ev ob (Uz op k p q):=by
  cases op<;>first
    | exact hs.elim
    | exact bY.pure (iT _) λev' ob' he _=>hc ev' ob' he
    | exact bY.pchk (iT _) λev' ob' he _=>hc ev' ob' he
theorem zhm{op:BinOp}{t t':TypeId}{x y:Operand}(bf:o.op=.binOp op t x y t')(hA:act P Γ o ev ob=A)(hs:A.safe):bY P Γ o ev ob A:=by
 have hx:x∈o.op.operands.toList:=by simp[bf,Op.operands]
 have hy:y∈o.op.operands.toList:=by simp[bf,Op.operands]
 simp only[act,aBn,bf]at hA;split at hA;rename_i k p k' q hex Yi;split at hA;rename_i hk;subst hA;exact zhl hs λev' ob' he=>by simp only[act,aBn,bf,he x hx,he y hy,hex,Yi,hk,OV]
 rename_i hk;subst hA;have hc:∀ev' ob',(∀x∈o.op.operands.toList,ev' x=ev x)->act P Γ o ev' ob'=zgw op k p q:=λev' ob' he=>by simp only[act,aBn,bf,he x hx,he y hy,hex,Yi,hk,qd4]
 cases op<;>first
  | exact hs.elim
  | exact bY.pchk (iT _) λev' ob' he _=>hc ev' ob' he
 rename_i p q hex Yi;split at hA;rename_i hu;subst hA;exact bY.pure (iT _) λev' ob' he _=>by simp only[act,aBn,bf,he x hx,he y hy,hex,Yi,hu]
 rename_i hu;subst hA;exact bY.pure (iT _) λev' ob' he _=>by simp only[act,aBn,bf,he x hx,he y hy,hex,Yi,hu]
 subst hA;exact hs.elim;rename_i cs ds hex Yi;have hc:∀ev' ob',(∀x∈o.op.operands.toList,ev' x=ev x)->act P Γ o ev' ob'=A:=λev' ob' he=>by
  simp only[act,aBn,bf,he x hx,he y hy,hex,Yi];exact hA
 unfold zaW at hA;split at hA;split at hA;subst hA;exact bY.pure (iT _) λev' ob' he _=>hc ev' ob' he;subst hA;exact bY.pure (iT _) λev' ob' he _=>hc ev' ob' he;subst hA;exact hs.elim;subst hA;exact hs.elim;subst hA;exact hs.elim
theorem zhn{t:TypeId}{x y:Operand}(bf:o.op=.index t x y)(hA:act P Γ o ev ob=A)(hs:A.safe):bY P Γ o ev ob A:=by
 have hx:x∈o.op.operands.toList:=by simp[bf,Op.operands]
 have hy:y∈o.op.operands.toList:=by simp[bf,Op.operands]
 have hc:∀ev' ob',(∀x∈o.op.operands.toList,ev' x=ev x)->act P Γ o ev' ob'=A:=λev' ob' he=>by
  rw[<- hA];simp only[act,bf,he x hx,he y hy]
 simp only[act,bf,Jw]at hA;split at hA;split at hA;rename_i cs k j _ _ hex Yi;split at hA;rename_i d _ hr;subst hA;refine bY.pure (qQ hx λL hL=>?_) λev' ob' he _=>hc ev' ob' he;rw[hex];exact Q4 hr L hL;subst hA;exact hs.elim;subst hA;exact hs.elim;subst hA;exact hs.elim
theorem zho{t:TypeId}{x:Operand}{f:Nat}(bf:o.op=.field t x f)(hA:act P Γ o ev ob=A)(hs:A.safe):bY P Γ o ev ob A:=by
 have hx:x∈o.op.operands.toList:=by simp[bf,Op.operands]
 have hc:∀ev' ob',(∀x∈o.op.operands.toList,ev' x=ev x)->act P Γ o ev' ob'=A:=λev' ob' he=>by
  rw[<- hA];simp only[act,bf,he x hx]
 simp only[act,bf,Jy]at hA;split at hA;split at hA;split at hA;rename_i hex;split at hA;rename_i d hr;subst hA;refine bY.pure (qQ hx λL hL=>?_) λev' ob' he _=>hc ev' ob' he;rw[hex];exact Q4 hr L hL;subst hA;exact hs.elim;subst hA;exact hs.elim;subst hA;exact hs.elim;subst hA;exact hs.elim
theorem ok_slice{t:TypeId}{x:Operand}{lo hi:Option Operand}(bf:o.op=.slice t x lo hi none)(hA:act P Γ o ev ob=A)(hs:A.safe):bY P Γ o ev ob A:=by
 have hx:x∈o.op.operands.toList:=by simp[bf,Op.operands]
 have hlo:∀y,lo=some y->y∈o.op.operands.toList:=λy e=>by subst e;simp[bf,Op.operands]
 have hhi:∀y,hi=some y->y∈o.op.operands.toList:=λy e=>by subst e;simp[bf,Op.operands]
 have hc:∀ev' ob',(∀x∈o.op.operands.toList,ev' x=ev x)->act P Γ o ev' ob'=A:=λev' ob' he=>by
  have e1:ET ev' lo=ET ev lo:=by
   cases lo with|none=>rfl|some y=>simp only[ET,he y (hlo y rfl)]
  have e2:ET ev' hi=ET ev hi:=by
   cases hi with|none=>rfl|some y=>simp only[ET,he y (hhi y rfl)]
  rw[<- hA];simp only[act,bf,he x hx,e1,e2]
 simp only[act,bf,Ce]at hA;split at hA;split at hA;split at hA;subst hA;exact bY.pchk (λL hL=>by simp[lN,tu,mX]at hL) λev' ob' he _=>hc ev' ob' he;subst hA;exact hs.elim;subst hA;exact hs.elim;subst hA;exact hs.elim
theorem znr{d:D1}:∀L,L∈tu d->L∈dC d:=by
 intro L hL;cases d with
 | c y=>exact Q3 L hL
 | agg cs =>
  obtain⟨c,hc,hL⟩:=lD.1 hL;exact lD.2 ⟨c,hc,Q3 L hL⟩
theorem zdR{q:MQ}{kd:DV}{ok:Bool}{F:List Int->Option (List Int)}{fin:DV->aJ}(hA:found q kd ok F fin=A)(hs:A.safe):∃d,(∀M∈lN d,False)/\fin d=A:=by
 unfold found at hA;split at hA;split at hA
 ·rename_i d hdv;have hV:∀ M,M∈tu d->False:=λ M hM=>by have:=znr M hM;rw[U4 hdv] at this;simp at this
  cases ok with
  | true =>
   refine⟨_,λM hM=>?_,hA⟩;simp only[lN,oD,List.flatMap_nil,List.append_nil,dW]at hM;rcases hM with hM|hM
   exact hV M hM;simp[tu,mX]at hM
  | false=>exact⟨.one d,λM hM=>hV M hM,hA⟩
 subst hA;exact hs.elim;subst hA;exact hs.elim
theorem zdS{t:TypeId}{x y:Operand}{k:Bool}(bf:o.op=.lookup t x y k)(hA:act P Γ o ev ob=A)(hs:A.safe):bY P Γ o ev ob A:=by
 have hx:x∈o.op.operands.toList:=by simp[bf,Op.operands]
 have hy:y∈o.op.operands.toList:=by simp[bf,Op.operands]
 have EI:∀ev' ob',(∀x∈o.op.operands.toList,ev' x=ev x)->act P Γ o ev' ob'=JA P t (ev x) (ev y) k ob':=λev' ob' he=>by simp only[act,bf,he x hx,he y hy]
 rw[EI ev ob (λ_ _=>rfl)]at hA;unfold JA at hA EI;split at hA;rename_i kt vt L hu hex;split at hA;rename_i q kt' vt' q' n F hE hL;split at hA;rename_i dh;obtain⟨d,hd,e⟩:=zdR hA hs;subst e;refine bY.pure (λM hM=>(hd M hM).elim) λev' ob' he cO=>?_;rw[EI ev' ob' he];have:=cO (L,false) (by simp);simp only at this;simp only[hu,hex,this,hL,hE,eX dh];exact hA;subst hA;exact hs.elim;subst hA;exact hs.elim;subst hA;exact hs.elim
theorem Q8{t:TypeId}{x y z:Operand}(bf:o.op=.mapUpdate t x y z)(hA:act P Γ o ev ob=A)(hs:A.safe):bY P Γ o ev ob A:=by
 have hx:x∈o.op.operands.toList:=by simp[bf,Op.operands]
 have hy:y∈o.op.operands.toList:=by simp[bf,Op.operands]
 have hz:z∈o.op.operands.toList:=by simp[bf,Op.operands]
 have EI:∀ev' ob',(∀x∈o.op.operands.toList,ev' x=ev x)->act P Γ o ev' ob'=UA P t (ev x) (ev y) (ev z) ob':=λev' ob' he=>by simp only[act,bf,he x hx,he y hy,he z hz]
 rw[EI ev ob (λ_ _=>rfl)]at hA;unfold UA at hA EI;split at hA;rename_i kt vt L hu hex;split at hA;rename_i q kt' vt' q' n F hE hL;split at hA;rename_i c dv hck hez;split at hA;rename_i l hl;split at hA;rename_i dh;have hcc:∀ev' ob',(∀x∈o.op.operands.toList,ev' x=ev x)->(∀y∈[(L,true)],ob' y.1=ob y.1)->act P Γ o ev' ob'=A:=λev' ob' he cO=>by
  rw[EI ev' ob' he];have:=cO (L,true) (by simp);simp only at this;simp only[hu,hex,this,hL,hE,hck,hez,hl,eX dh];exact hA
 subst hA;refine⟨λx hx=>?_,.inl rfl,λx hx M hM=>?_,λd' fZ M hM=>?_,λev' ob' he cO=>hcc ev' ob' he cO⟩;simp only[aJ.u,kY]at hx;subst hx;simp[aJ.fp];simp only[aJ.u,kY]at hx;subst hx;simp[oZ]at hM;simp only[aJ.gives]at fZ;subst fZ;simp[lN,tu,mX]at hM;subst hA;exact hs.elim;subst hA;exact hs.elim;subst hA;exact hs.elim;subst hA;exact hs.elim;subst hA;exact hs.elim
theorem YY{t:TypeId}(bf:o.op=.makeMap t none)(hA:act P Γ o ev ob=A)(hs:A.safe):bY P Γ o ev ob A:=by
 cases hv:zwq Γ o.dst with
 | true =>
  simp only[act,aMm,bf,hv]at hA;split at hA;rename_i kt vt hu;split at hA;rename_i q hE;exact Q5 (ao:=.mo kt vt q 0 (λ_=>none)) (d:=λt=>.cl (.mo t)) (λL hL=>by simp[oZ]at hL) (λt L hL=>by simpa [lN,tu,mX]using hL) (λev' ob' _=>by simp only[act,aMm,bf,hv,hu,hE]) hA hs;subst hA;exact hs.elim;subst hA;exact hs.elim
 | false =>
  simp only[act,aMm,bf,hv]at hA;subst hA;exact hs.elim
theorem zns{op:UnOp}{t:TypeId}{x:Operand}(bf:o.op=.unOp op t x)(hA:act P Γ o ev ob=A)(hs:A.safe):bY P Γ o ev ob A:=by
 have hx:x∈o.op.operands.toList:=by simp[bf,Op.operands]
 simp only[act,aUn,bf]at hA;split at hA;rename_i h;subst hA;exact bY.pure (iT _) λev' ob' he _=>by simp only[act,aUn,bf,he x hx,h]
 rename_i h;subst hA;exact bY.pure (iT _) λev' ob' he _=>by simp only[act,aUn,bf,he x hx,h]
 subst hA;exact hs.elim
theorem YZ{t1 t2:TypeId}{x:Operand}(bf:o.op=.convert t1 t2 x)(hA:act P Γ o ev ob=A)(hs:A.safe):bY P Γ o ev ob A:=by
 have hx:x∈o.op.operands.toList:=by simp[bf,Op.operands]
 simp only[act,aCv,bf]at hA;split at hA;rename_i h1 h2 h;subst hA;exact bY.pure (iT _) λev' ob' he _=>by simp only[act,aCv,bf,he x hx,h,h1,h2]
 subst hA;exact hs.elim
theorem Q9{t:TypeId}{x:Operand}{f:Nat}(bf:o.op=.fieldAddr t x f)(hA:act P Γ o ev ob=A)(hs:A.safe):bY P Γ o ev ob A:=by
 have hx:x∈o.op.operands.toList:=by simp[bf,Op.operands]
 simp only[act,aFa,bf]at hA;split at hA;rename_i off hf;split at hA;rename_i h;subst hA;exact bY.pure (qQ hx λL hL=>by rw[h];exact hL) λev' ob' he _=>by simp only[act,aFa,bf,he x hx,h,hf]
 rename_i h;subst hA;exact bY.pure (qQ hx λL hL=>by rw[h];exact hL) λev' ob' he _=>by simp only[act,aFa,bf,he x hx,h,hf]
 rename_i h;subst hA;exact bY.pure (qQ hx λL hL=>by rw[h];exact hL) λev' ob' he _=>by simp only[act,aFa,bf,he x hx,h,hf]
 subst hA;exact hs.elim;subst hA;exact hs.elim
theorem Rf{t:TypeId}{x y:Operand}(bf:o.op=.indexAddr t x y)(hA:act P Γ o ev ob=A)(hs:A.safe):bY P Γ o ev ob A:=by
 have hx:x∈o.op.operands.toList:=by simp[bf,Op.operands]
 have hy:y∈o.op.operands.toList:=by simp[bf,Op.operands]
 simp only[act,aIa,bf]at hA;split at hA;rename_i e hu;split at hA;rename_i n k j hn hj;split at hA;rename_i len s get hex;split at hA;rename_i rM;subst hA;exact bY.pchk (iT _) λev' ob' he _=>by simp only[act,aIa,bf,he x hx,he y hy,hex,hu,hn,hj,rM,OV]
 subst hA;exact hs.elim;rename_i L hex;split at hA;rename_i e' s b len get hL;split at hA;rename_i rM;subst hA;refine bY.pchk (λM hM=>.inl (.inl ⟨x,hx,?_⟩)) λev' ob' he cO=>?_;rw[hex];exact hM;have e:=cO (L,false) (by simp);simp only at e;simp only[act,aIa,bf,he x hx,he y hy,hex,hu,hn,hj,e,hL,rM,OV];subst hA;exact hs.elim;rename_i s len get hL;split at hA;rename_i rM;subst hA;refine bY.pchk (iT _) λev' ob' he cO=>?_;have e:=cO (L,false) (by simp);simp only at e;simp only[act,aIa,bf,he x hx,he y hy,hex,hu,hn,hj,e,hL,rM,OV];subst hA;exact hs.elim;rename_i hL;split at hA;rename_i rM;subst hA;refine bY.pchk (λM hM=>.inl (.inl ⟨x,hx,?_⟩)) λev' ob' he cO=>?_;rw[hex];exact hM;have e:=cO (L,false) (by simp);simp only at e;simp only[act,aIa,bf,he x hx,he y hy,hex,hu,hn,hj,e,hL,rM,OV];subst hA;exact hs.elim;rename_i hL;split at hA;rename_i rM;subst hA;refine bY.pchk (λM hM=>.inl (.inl ⟨x,hx,?_⟩)) λev' ob' he cO=>?_;rw[hex];exact hM;have e:=cO (L,false) (by simp);simp only at e;simp only[act,aIa,bf,he x hx,he y hy,hex,hu,hn,hj,e,hL,rM,OV];subst hA;exact hs.elim;subst hA;exact hs.elim;subst hA;exact hs.elim;subst hA;exact hs.elim;rename_i m e hu;have hc:∀ev' ob',(∀x∈o.op.operands.toList,ev' x=ev x)->act P Γ o ev' ob'=A:=λev' ob' he=>by
  simp only[act,aIa,bf,hu,he x hx,he y hy];exact hA
 unfold BZ at hA;split at hA;split at hA;split at hA;rename_i h;subst hA;exact bY.pure (qQ hx λL hL=>by simp[lN,tu,mX]at hL) λev' ob' he _=>hc ev' ob' he;rename_i h;subst hA;exact bY.pure (iT _) λev' ob' he _=>hc ev' ob' he;subst hA;exact hs.elim;subst hA;exact hs.elim;subst hA;exact hs.elim;subst hA;exact hs.elim
theorem Y0{x:Operand}{k:Nat}(bf:o.op=.extract x k)(hA:act P Γ o ev ob=A)(hs:A.safe):bY P Γ o ev ob A:=by
 have hx:x∈o.op.operands.toList:=by simp[bf,Op.operands]
 simp only[act,aEx,bf]at hA;split at hA;rename_i ds h;split at hA;rename_i d hd;subst hA;refine bY.pure (qQ hx λL hL=>?_) λev' ob' he _=>by simp only[act,aEx,bf,he x hx,h,hd]
 rw[h];exact lD.2 ⟨d,Jr hd,hL⟩;subst hA;exact hs.elim;subst hA;exact hs.elim
theorem yD{c:Callee}{args:Array Operand}{ts:Array TypeId}(bf:o.op=.call {callee:=c,args,argTypes:=ts}):∀x∈args.toList,x∈o.op.operands.toList:=by
 intro x hx;simp only[bf,Op.operands];cases c<;>simp[Call.operands]<;>simp at hx<;>first|exact hx|exact .inr hx
theorem ztK{b:Builtin}{args:Array Operand}{ts:Array TypeId}(hb:b=.max\/b=.min)(bf:o.op=.call {callee:=.builtin b,args,argTypes:=ts})(hA:act P Γ o ev ob=A)(hs:A.safe):bY P Γ o ev ob A:=by
 have hm:=yD bf;have X6:∀ev':Operand->DV,(∀x∈o.op.operands.toList,ev' x=ev x)->args.toList.map ev'=args.toList.map ev:=λev' he=>qdb λx hx=>he x (hm x hx);rcases hb with rfl|rfl<;>simp only[act,aMx,aMi,bf]at hA<;>split at hA
 rename_i h;subst hA;exact bY.pure (iT _) λev' ob' he _=>by simp only[act,aMx,aMi,bf,X6 ev' he,h]
 subst hA;exact hs.elim;rename_i h;subst hA;exact bY.pure (iT _) λev' ob' he _=>by simp only[act,aMx,aMi,bf,X6 ev' he,h]
 subst hA;exact hs.elim
theorem zwW{args:Array Operand}{ts:Array TypeId}(bf:o.op=.call {callee:=.builtin .len,args,argTypes:=ts})(hA:act P Γ o ev ob=A)(hs:A.safe):bY P Γ o ev ob A:=by
 have hm:=yD bf;simp only[act,aLn,bf]at hA;split at hA;rename_i x t gp ht;have hx:x∈o.op.operands.toList:=hm x (by rw[gp];simp);split at hA;rename_i e hu;split at hA;rename_i h;subst hA;exact bY.pure (iT _) λev' ob' he _=>by simp only[act,aLn,bf,gp,ht,hu,he x hx,h]
 rename_i h;subst hA;exact bY.pure (iT _) λev' ob' he _=>by simp only[act,aLn,bf,gp,ht,hu,he x hx,h]
 rename_i L h;split at hA;rename_i hL;subst hA;refine bY.pure (iT _) λev' ob' he cO=>?_;have e:=cO (L,false) (by simp);simp only at e;simp only[act,aLn,bf,gp,ht,hu,he x hx,h,e,hL];rename_i hL;subst hA;refine bY.pure (iT _) λev' ob' he cO=>?_;have e:=cO (L,false) (by simp);simp only at e;simp only[act,aLn,bf,gp,ht,hu,he x hx,h,e,hL];rename_i hL;subst hA;refine bY.pure (iT _) λev' ob' he cO=>?_;have e:=cO (L,false) (by simp);simp only at e;simp only[act,aLn,bf,gp,ht,hu,he x hx,h,e,hL];subst hA;exact hs.elim;subst hA;exact hs.elim;rename_i kt vt hu;split at hA;rename_i L h;split at hA;rename_i hL;subst hA;refine bY.pure (iT _) λev' ob' he cO=>?_;have e:=cO (L,false) (by simp);simp only at e;simp only[act,aLn,bf,gp,ht,hu,he x hx,h,e,hL];subst hA;exact hs.elim;subst hA;exact hs.elim;subst hA;exact hs.elim;subst hA;exact hs.elim
theorem Rh{d:DV}{ob':Nat→Option AO}{m sz:Nat}{new:Nat→List PV}{fps:List (Nat×Bool)}(h:EX d ob=some (m,sz,new,fps))(cO:∀y∈fps,ob' y.1=ob y.1) :
  EX d ob'=some (m,sz,new,fps):=by
 unfold EX at h ⊢;split at h;exact h;rename_i M;split at h;rename_i hM;have h':=h;simp only[bQ,gm]at h;have e:=cO (M,false) (by rw[<- h.2.2.2];simp);simp only at e;rw[e,hM];exact h';rename_i hM;have h':=h;simp only[bQ,gm]at h;have e:=cO (M,false) (by rw[<- h.2.2.2];simp);simp only at e;rw[e,hM];exact h';cases h;cases h
theorem zdT{args:Array Operand}{ts:Array TypeId}(bf:o.op=.call {callee:=.builtin .append,args,argTypes:=ts})(hA:act P Γ o ev ob=A)(hs:A.safe):bY P Γ o ev ob A:=by
 have hm:=yD bf;have hA0:=hA;simp only[act,aAp,bf]at hA;split at hA
 ·rename_i s x t t' gp ht;have hsm:s∈o.op.operands.toList:=hm s (by rw[gp];simp);have hx:x∈o.op.operands.toList:=hm x (by rw[gp];simp);split at hA
  ·rename_i e dst hu htt hd;split at hA
   ·rename_i ie z hie hz;have zCW:∀(ev':Operand->DV)(ob':Nat->Option AO),act P Γ o ev' ob'=QD e ie dst (ev' x) (ev' s) ob':=λev' ob'=>by
     simp only[act,aAp,bf,gp,ht,hu,htt,hd,hie,hz]
    unfold QD at hA zCW;split at hA
    ·rename_i m sz new fps oq
     -- the source looks only at zLL fps names
     have zLH:∀(ev':Operand->DV)(ob':Nat->Option AO),(∀x∈o.op.operands.toList,ev' x=ev x)->(∀y∈fps,ob' y.1=ob y.1) ->
       EX (ev' x) ob'=some (m,sz,new,fps):=by
      intro ev' ob' he cO;rw[he x hx];exact Rh oq cO
     split at hA;rename_i L hes;split at hA;rename_i e' s' b' n' get' hL;split at hA;rename_i hif;subst hA;refine⟨λz hz=>?_,.inr ⟨L,rfl,by simp[aJ.fp]⟩,λz hz M hM=>?_,λd' fZ M hM=>?_,λev' ob' he cO=>?_⟩;simp only[aJ.u,kY]at hz;subst hz;simp[aJ.fp];simp only[aJ.u,kY]at hz;subst hz;simp[oZ]at hM;simp only [aJ.gives]at fZ;subst fZ;simp only[lN,tu,mX,kY]at hM;subst hM;exact .inr (by simp[aJ.fp]);have e1:=zLH ev' ob' he (fun y hy=>cO y (jS _ hy));have e2:=cO (L,true) (by simp[aJ.fp]);simp only at e2;rw[zCW,e1];simp only[he s hsm,he x hx,hes,e2,hL];rw[eX hif];subst hA;exact hs.elim;subst hA;exact hs.elim;rename_i hes;split at hA;rename_i hn;split at hA;rename_i hif;subst hA;refine⟨λz hz=>?_,.inl rfl,λz hz M hM=>?_,λd' fZ M hM=>?_,λev' ob' he cO=>?_⟩;simp only[aJ.u,kY]at hz;subst hz;simp[aJ.fp];simp only[aJ.u,kY]at hz;subst hz;simp[oZ]at hM;simp only [aJ.gives]at fZ;subst fZ;simp only[lN,tu,mX,kY]at hM;subst hM;exact .inr (by simp[aJ.fp]);have e1:=zLH ev' ob' he (fun y hy=>cO y (jS _ hy));have e2:=cO (dst,true) (by simp[aJ.fp]);simp only at e2;rw[zCW,e1];simp only[he s hsm,hes,e2,hn];rw[eX hif];subst hA;exact hs.elim;subst hA;exact hs.elim;subst hA;exact hs.elim
    subst hA;exact hs.elim
   subst hA;exact hs.elim
  subst hA;exact hs.elim
 subst hA;exact hs.elim
theorem ztL(x:PA):tu (IM x)=[]:=by
 cases x with|one p=>rfl|agg cs=>exact Vs cs
theorem Y1(rs:List PA):lN (resD rs)=[]:=by
 have tup:∀l:List PA,lN (.tup (l.map IM))=[]:=by
  intro l
  induction l with|nil=>rfl|cons x l ih=>simp only[o5,lN,oD,ztL,OU]at ih ⊢;exact ih
 match rs with|[]=>exact tup _|[x]=>exact ztL x|x::y::l=>exact tup _
theorem zwX{k:ES}{args:Array Operand}{c:Callee}{ts:Array TypeId}(bf:o.op = .call {callee:=c,args,argTypes:=ts})
    (hc:∀ev' ob',(∀x∈o.op.operands.toList,ev' x=ev x)->act P Γ o ev' ob'=kC P Γ o k (args.toList.map ev') ob') (hA:kC P Γ o k (args.toList.map ev) ob=A) (hs:A.safe):bY P Γ o ev ob A:=by
  have hm:=yD bf;have X6:∀ev':Operand->DV,(∀x∈o.op.operands.toList,ev' x=ev x)->args.toList.map ev'=args.toList.map ev:=λev' he=>qdb λx hx=>he x (hm x hx);unfold kC at hA;split at hA;subst hA;exact hs.elim;split at hA;rename_i L hf caps gp;split at hA;rename_i hL uw;split at hA;rename_i hif;subst hA;refine⟨λz hz=>?_,.inl rfl,λz hz M hM=>?_,λd' fZ M hM=>?_,λev' ob' he cO=>?_⟩;simp only[aJ.u,kY]at hz;subst hz;simp[aJ.fp];simp only[aJ.u,kY]at hz;subst hz;simp[oZ]at hM;simp only[aJ.gives]at fZ;subst fZ;simp[lN]at hM;have e2:=cO (L,true) (by simp [aJ.fp]);simp only at e2;rw[hc ev' ob' he,X6 ev' he];simp only[kC,gp,e2,hL,uw];rw[eX hif];subst hA;exact hs.elim;subst hA;exact hs.elim;subst hA;exact hs.elim;split at hA;rename_i dst gp hd;split at hA;rename_i hn hi hz;split at hA;rename_i hif;subst hA;refine⟨λz hz=>?_,.inl rfl,λz hz M hM=>?_,λd' fZ M hM=>?_,λev' ob' he cO=>?_⟩;simp only[aJ.u,kY]at hz;subst hz;simp[aJ.fp];simp only[aJ.u,kY]at hz;subst hz;simp[oZ]at hM;simp only [aJ.gives]at fZ;subst fZ;simp only[lN,tu,mX,kY]at hM;subst hM;exact .inr (by simp[aJ.fp]);have e2:=cO (dst,true) (by simp [aJ.fp]);simp only at e2;rw[hc ev' ob' he,X6 ev' he];simp only[kC,gp,hd,e2,hn,hi,hz];rw[eX hif];subst hA;exact hs.elim;subst hA;exact hs.elim;subst hA;exact hs.elim;split at hA;rename_i az u dst has hd;split at hA;rename_i n get rs ie z hF gV hi hz;split at hA;rename_i hif;subst hA;refine⟨λz hz=>?_,.inl rfl,λz hz M hM=>?_,λd' fZ M hM=>?_,λev' ob' he cO=>?_⟩;simp only[aJ.u,kY]at hz;subst hz;simp[aJ.fp];simp only[aJ.u,kY]at hz;subst hz;simp[oZ]at hM
  · simp only [aJ.gives]at fZ;subst fZ;cases rs with
    | nil =>
      simp only[lN,tu,mX,kY]at hM;subst hM;exact .inr (by simp[aJ.fp])
    | cons x l =>
      have hM2:M=dst:=by
        simp only[lN,oD,dW,tu,mX,kY,lD,xq]at hM;rcases hM with hM|⟨d1,⟨v,_,rfl⟩,hM⟩
        exact hM;simp[tu,mX]at hM
      subst hM2;exact .inr (by simp[aJ.fp])
  have hl:∀L∈(args.toList.map ev).flatMap (bH ob),ob' L=ob L:=fun L hL=>cO (L,false) (jS _ (xq.2 ⟨L,hL,rfl⟩));have e2:=cO (dst,true) (by simp[aJ.fp]);simp only at e2;have e3:iy ob' (args.toList.map ev)=some (az,u):=(lS hl).trans has;have e4:(args.toList.map ev).flatMap (bH ob')=(args.toList.map ev).flatMap (bH ob):=fmc λd hd=>jg λL hL=>hl L (lD.2 ⟨d,hd,hL⟩);rw[hc ev' ob' he,X6 ev' he];simp only[kC,hd,e2,hF,gV,hi,hz,e3,e4];rw[eX hif];subst hA;exact hs.elim;subst hA;exact hs.elim;subst hA;exact hs.elim;split at hA;rename_i ds L NS;split at hA;rename_i az e' s' b' n get has hL;split at hA;rename_i m get' hF;split at hA;rename_i hif;subst hA;refine⟨λz hz=>?_,.inr ⟨L,rfl,by simp[aJ.fp]⟩,λz hz M hM=>?_,λd' fZ M hM=>?_,λev' ob' he cO=>?_⟩;simp only[aJ.u,kY]at hz;subst hz;simp[aJ.fp];simp only[aJ.u,kY]at hz;subst hz;simp[oZ]at hM;simp only [aJ.gives]at fZ;subst fZ;simp only[lN,tu,mX,kY]at hM;subst hM;exact .inr (by simp[aJ.fp]);have hl:∀M∈ds.flatMap (bH ob),ob' M=ob M:=fun M hM=>cO (M,false) (jS _ (xq.2 ⟨M,hM,rfl⟩));have e2:=cO (L,true) (by simp[aJ.fp]);simp only at e2;have e3:iy ob' ds=some (az,[]):=(lS hl).trans has;have e4:ds.flatMap (bH ob')=ds.flatMap (bH ob):=fmc λd hd=>jg λL hL=>hl L (lD.2 ⟨d,hd,hL⟩);rw[hc ev' ob' he,X6 ev' he];simp only[kC,NS,e3,e2,hL,hF,e4];rw[eX hif];subst hA;exact hs.elim;subst hA;exact hs.elim;subst hA;exact hs.elim;rename_i ds NS;split at hA;rename_i az dst has hd;split at hA;rename_i ie z gV hi hz;split at hA;rename_i l hzl;split at hA;rename_i m get' hF;split at hA;rename_i hif;subst hA;refine⟨λz hz=>?_,.inl rfl,λz hz M hM=>?_,λd' fZ M hM=>?_,λev' ob' he cO=>?_⟩;simp only[aJ.u,kY]at hz;subst hz;simp[aJ.fp];simp only[aJ.u,kY]at hz;subst hz;simp[oZ]at hM;simp only [aJ.gives]at fZ;subst fZ;simp only[lN,tu,mX,kY]at hM;subst hM;exact .inr (by simp[aJ.fp]);have hl:∀M∈ds.flatMap (bH ob),ob' M=ob M:=fun M hM=>cO (M,false) (jS _ (xq.2 ⟨M,hM,rfl⟩));have e2:=cO (dst,true) (by simp[aJ.fp]);simp only at e2;have e3:iy ob' ds=some (az,[]):=(lS hl).trans has;have e4:ds.flatMap (bH ob')=ds.flatMap (bH ob):=fmc λd hd=>jg λL hL=>hl L (lD.2 ⟨d,hd,hL⟩);rw[hc ev' ob' he,X6 ev' he];simp only[kC,NS,e3,hd,e2,gV,hi,hz,hzl,hF,e4];rw[eX hif];subst hA;exact hs.elim;subst hA;exact hs.elim;subst hA;exact hs.elim;subst hA;exact hs.elim;subst hA;exact hs.elim;subst hA;exact hs.elim
theorem Di{sf:kR}{ob:Nat->Option AO}:∀{cells l:List Cl}{ys cs:List XC}{u:List (Nat×AO)}{ms:List Nat},gY cells ys=some (l,u)->iO sf ob cells=some (cs,ms) ->
  u.map (·.1)=ms/\(∀x∈u,oZ x.2=[])/\∀L∈l.flatMap mX,L∈cells.flatMap mX
 | [],l,[],cs,u,ms,h,h2=>by
  simp only[gY,bQ,gm]at h;obtain⟨rfl,rfl⟩:=h;simp only[iO,bQ,gm]at h2;rw[<- h2.2];exact⟨rfl,λx hx=>by simp at hx,λL hL=>hL⟩
 | [],l,_::_,cs,u,ms,h,h2=>by simp[gY]at h
 | c::cells,l,[],cs,u,ms,h,h2=>by simp[gY]at h
 | c::cells,l,y::ys,cs,u,ms,h,h2=>by
  unfold gY at h;split at h;rename_i e;simp at e;rename_i e1 e2;simp only[Gu]at e1 e2;obtain⟨rfl,rfl⟩:=e1;obtain⟨rfl,rfl⟩:=e2;split at h;rename_i hp;simp only[bQ,gm]at h;obtain⟨rfl,rfl⟩:=h;simp only[iO]at h2;split at h2;rename_i hc;simp only[bQ,gm]at h2;rw[<- h2.2];obtain⟨i1,i2,i3⟩:=Di hp hc;exact⟨i1,i2,λL hL=>by simp only[oD,mX,OU]at hL ⊢;exact i3 L hL⟩;cases h2;cases h;rename_i e1 e2;simp only[Gu]at e1 e2;obtain⟨rfl,rfl⟩:=e1;obtain⟨rfl,rfl⟩:=e2;split at h;rename_i hp;simp only[bQ,gm]at h;obtain⟨rfl,rfl⟩:=h;simp only[iO]at h2;split at h2;rename_i hc;split at h2;simp only [bQ,gm]at h2;rw [← h2.2];obtain⟨i1,i2,i3⟩:=Di hp hc;refine⟨by simp[i1],λx hx=>?_,λL hL=>?_⟩;rcases kF.1 hx with e|hx
  subst e;rfl;exact i2 x hx;simp only [oD,dW]at hL ⊢;exact hL.imp_right (i3 L);cases h2;cases h2;cases h;rename_i e1 e2;simp only[Gu]at e1 e2;obtain⟨rfl,rfl⟩:=e1;obtain⟨rfl,rfl⟩:=e2;split at h;rename_i hp;simp only[bQ,gm]at h;obtain⟨rfl,rfl⟩:=h;simp only[iO]at h2;split at h2;rename_i hc;split at h2;simp only [bQ,gm]at h2;rw [← h2.2];obtain⟨i1,i2,i3⟩:=Di hp hc;refine⟨by simp[i1],λx hx=>?_,λL hL=>?_⟩;rcases kF.1 hx with e|hx
  subst e;rfl;exact i2 x hx;simp only [oD,dW]at hL ⊢;exact hL.imp_right (i3 L);cases h2;cases h2;cases h;rename_i e1 e2;simp only[Gu]at e1 e2;obtain⟨rfl,rfl⟩:=e1;obtain⟨rfl,rfl⟩:=e2;split at h;rename_i hp;simp only[bQ,gm]at h;obtain⟨rfl,rfl⟩:=h;simp only[iO]at h2;split at h2;rename_i hc;split at h2;simp only [bQ,gm]at h2;rw [← h2.2];obtain⟨i1,i2,i3⟩:=Di hp hc;exact⟨i1,i2,λL hL=>by simp only[oD,dW]at hL ⊢;exact hL.imp_right (i3 L)⟩;cases h2;cases h2;cases h;cases h
theorem zwY{sf:kR}{ob:Nat→Option AO}{d:DV}{x y:XA}{u:List (Nat×AO)}{ls ms:List Nat}(h:Ip ob d y=some u)(h2:zQ sf ob d=some (x,ls,ms)) :
  u.map (·.1)=ls/\∀x∈u,∀L∈oZ x.2,∃o',ob x.1=some o'/\L∈oZ o':=by
 have data:rU ob d=some (x,ls,ms)->ls=[]:=by
  intro h;unfold rU at h;split at h;simp only[bQ,gm]at h;exact h.2.1.symm;cases h
 unfold Ip at h;split at h;rename_i L;split at h;rename_i Yl cells hL;rw[oK,hL]at h2;dsimp only at h2;split at h2;rename_i cs ms' hc;simp only[bQ,gm]at h2;obtain⟨rfl,rfl,rfl⟩:=h2;split at h;split at h;rename_i l u' hty hp;simp only[bQ]at h;subst h;obtain⟨i1,i2,i3⟩:=Di hp hc;refine⟨by simp[i1],λx hx K hK=>?_⟩;rcases kF.1 hx with e|hx
 subst e;exact⟨_,hL,i3 K hK⟩;rw[i2 x hx]at hK;simp at hK;cases h;cases h;cases h2;rename_i sW;have hx:rU ob (.one (.c (.ptr L 0)))=some (x,ls,ms):=by
  rw[oK]at h2;cases hL:ob L with
  | none=>rw[hL]at h2;exact h2
  | some o =>
   rw[hL]at h2;cases o with|box ty cells=>exact absurd hL (sW _ _)|_=>exact h2
 rw[data hx];split at h;simp only[bQ]at h;subst h;exact⟨rfl,λx hx=>by simp at hx⟩;cases h;rename_i sW;have hx:rU ob d=some (x,ls,ms):=by
  unfold zQ at h2;split at h2;exact(sW _ rfl).elim;exact h2
 rw[data hx];split at h;simp only[bQ]at h;subst h;exact⟨rfl,λx hx=>by simp at hx⟩;cases h
theorem zbw{sf:kR}{ob:Nat->Option AO}:∀{ds:List DV}{xs ys:List XA}{u:List (Nat×AO)}{ls ms:List Nat},jL ob ds ys=some u->jU sf ob ds=some (xs,ls,ms) ->
  u.map (·.1)=ls/\∀x∈u,∀L∈oZ x.2,∃o',ob x.1=some o'/\L∈oZ o'
 | [],xs,[],u,ls,ms,h,h2=>by
  simp only[jL,bQ]at h;subst h;simp only[jU,bQ,gm]at h2;rw[<- h2.2.1];exact⟨rfl,λx hx=>by simp at hx⟩
 | [],_,_::_,_,_,_,h,_=>by simp[jL]at h
 | _::_,_,[],_,_,_,h,_=>by simp[jL]at h
 | d::ds,xs,y::ys,u,ls,ms,h,h2=>by
  simp only[jL]at h;split at h;rename_i u1 u2 e1 e2;simp only[bQ]at h;subst h;simp only[jU]at h2;split at h2;rename_i x bl m1 xs' bls m2 h3 h4;simp only[bQ,gm]at h2;rw[<- h2.2.1];obtain⟨i1,i2⟩:=zbw e2 h4;obtain⟨j1,j2⟩:=zwY e1 h3;exact⟨by simp[i1,j1],λx hx=>(dW.1 hx).elim (j2 x) (i2 x)⟩;cases h2;cases h
theorem GY{sf:kR}{ob ob':Nat→Option AO}:∀{cells:List Cl},(∀L∈cells.flatMap bu,ob' L=ob L)→iO sf ob' cells=iO sf ob cells
  | [],_=>rfl
  | c::cells,h=>by
    have ih:iO sf ob' cells=iO sf ob cells:=GY λL hL=>h L (by simp only[oD,dW];exact .inr hL);cases c with|vec M=>simp only[iO,ih,h M (by simp[bu])]|mo M=>simp only[iO,ih,h M (by simp[bu])]|_=>simp only[iO,ih]
theorem zdU{sf:kR}{ob ob':Nat->Option AO}{d:DV}(h:∀L∈bH ob d,ob' L=ob L):zQ sf ob' d=zQ sf ob d/\∀y,Ip ob' d y=Ip ob d y:=by
 have hx:rU ob' d=rU ob d:=by simp only[rU,KQ h]
 by_cases hd:∃L,d=.one (.c (.ptr L 0))
 ·obtain⟨L,rfl⟩:=hd;have hL:ob' L=ob L:=h L (mr.2 ⟨L,by simp[cu,dC,bu],.inl rfl⟩);refine⟨?_,λy=>by simp only[Ip,hL]⟩;rw[oK,oK,hL,hx];cases ho:ob L with
  | none=>rfl
  | some o =>
   cases o with
   | box ty cells =>
    have:iO sf ob' cells=iO sf ob cells:=GY λM hM=>h M (mr.2 ⟨L,by simp[cu,dC,bu],.inr ⟨_,ho,M,hM,.inl rfl⟩⟩);simp only[this]
   | _=>rfl
 refine⟨?_,fun y => ?_⟩;unfold zQ;split;exact(hd ⟨_,rfl⟩).elim;exact hx;unfold Ip;split;exact(hd ⟨_,rfl⟩).elim;rfl
theorem KW{sf:kR}{ob ob':Nat→Option AO}:∀{ds:List DV},(∀L∈ds.flatMap (bH ob),ob' L=ob L)→jU sf ob' ds=jU sf ob ds∧∀ys,jL ob' ds ys=jL ob ds ys
  | [],_=>⟨rfl,λys=>by cases ys<;>rfl⟩
  | d::ds,h=>by
    obtain⟨i1,i2⟩:=KW (sf:=sf) (ds:=ds) (ob':=ob') λL hL=>h L (by simp only[oD,dW];exact .inr hL);obtain⟨j1,j2⟩:=zdU (sf:=sf) (ob':=ob') (d:=d) λL hL=>h L (by simp only[oD,dW];exact .inl hL);refine⟨by simp only[jU,i1,j1],λys=>?_⟩;cases ys with|nil=>rfl|cons y ys=>simp only[jL,i2,j2]
theorem zhp{sf:kR}{C:MK}{ds:List DV}(hk:∀ev' ob',(∀x∈o.op.operands.toList,ev' x=ev x)->act P Γ o ev' ob'=tC C sf ds ob')(hA:tC C sf ds ob=A)(hs:A.safe):bY P Γ o ev ob A:=by
 unfold tC at hA;split at hA
 ·rename_i xs ls ms has;split at hA
  ·rename_i s rs ys hCx;split at hA
   rotate_left
   subst hA;exact hs.elim;rename_i hpm;unfold pV at hA;split at hA;rename_i u OO;split at hA;rename_i dh;subst hA;have zwZ:=dh;simp only[gz,Ug]at dh;obtain⟨h1,h2⟩:=zbw OO has;have hw:∀L∈(u.filter λx=>!kS x.2).map (·.1),(L,true)∈wr ((u.filter λx=>!kS x.2).map (·.1))++rd (ds.flatMap (bH ob)):=λL hL=>dW.2 (.inl (KU hL));have hul:∀x∈u.filter λx=>!kS x.2,x.1∈(u.filter λx=>!kS x.2).map (·.1):=λx hx=>xq.2 ⟨x,hx,rfl⟩;refine⟨λx hx=>hw _ (hul x hx),?_,λx hx L hL=>?_,λd hd L hL=>(by simp only[aJ.gives]at hd;subst hd;rw[Y1]at hL;simp at hL),λev' ob' he cO=>?_⟩
   ·match ms,dh.1.2,dh.2 with|[],_,_=>exact .inl rfl|[x],_,hc=>exact .inr ⟨x,rfl,hw x (by simpa using hc)⟩|_::_::_,h,_=>simp at h
   obtain⟨o',ho,hL⟩:=h2 x (Ue.1 hx).1 L hL;exact .inr ⟨(x.1,true),hw _ (hul x hx),o',ho,hL⟩;have hl:∀L∈ds.flatMap (bH ob),ob' L=ob L:=fun L hL=>cO (L,false) (dW.2 (.inr (xq.2 ⟨L,hL,rfl⟩)));have e1:=KW (sf:=sf) hl;have e2:ds.flatMap (bH ob')=ds.flatMap (bH ob):=fmc λd hd=>jg λL hL=>hl L (lD.2 ⟨d,hd,hL⟩);rw[hk ev' ob' he];simp only[tC,pV,e1.1,has,hCx,hpm,e1.2,OO,zwZ,e2];subst hA;exact hs.elim;subst hA;exact hs.elim
  subst hA;exact hs.elim
 subst hA;exact hs.elim
theorem GZ{ev':Operand→DV}:∀{l:List Operand},(∀x∈l,ev' x=ev x)→Cf ev' l=Cf ev l|[],_=>rfl|x::l,h=>by simp only[Cf,h x kQ,GZ λy hy=>h y (jS _ hy)]
theorem zbx{rs:List PA}{args:Array Operand}{c:Callee}{ts:Array TypeId}{az:List PA}{u:lX}(bf:o.op = .call {callee:=c,args,argTypes:=ts})
    (has:iy ob (args.toList.map ev)=some (az,u))
    (key:∀(ev':Operand->DV)(ob':Nat->Option AO),(∀x∈o.op.operands.toList,ev' x=ev x)->(∀L∈args.toList.flatMap λx=>bH ob (ev x),ob' L=ob L) ->
      act P Γ o ev' ob'=kZ (args.toList.flatMap λx=>bH ob (ev x)) u rs) (hA:kZ (args.toList.flatMap λx=>bH ob (ev x)) u rs=A):bY P Γ o ev ob A:=by
  have zC8:∀L,L∈(args.toList.flatMap λx=>bH ob (ev x))->(L,true)∈wr (args.toList.flatMap λx=>bH ob (ev x)):=λL hL=>xq.2 ⟨L,hL,rfl⟩;have zFr:∀L,L∈(args.toList.flatMap λx=>bH ob (ev x))->(L,false)∈rd (args.toList.flatMap λx=>bH ob (ev x)):=λL hL=>xq.2 ⟨L,hL,rfl⟩;have hk:∀x∈u,(x.1,true)∈wr (args.toList.flatMap λx=>bH ob (ev x))/\oZ x.2=[]:=λx hx=>by
    obtain⟨h1,h2⟩:=Bg has x hx;refine⟨zC8 _ ?_,h2⟩;rw[qd5]at h1;exact h1
  generalize (args.toList.flatMap λx=>bH ob (ev x))=jc at hA key hk zC8 zFr;cases hl:Ux rs||Uy u rs with
  | true =>
    simp only[kZ,hl]at hA key;subst hA;exact⟨λx hx=>by simp[aJ.u]at hx,.inl rfl,λx hx=>by simp[aJ.u]at hx,λd hd L hL=>(by cases hd;rw[Y1]at hL;simp at hL),λev' ob' he cO=>key ev' ob' he λL hL=>cO _ (zFr L hL)⟩
  | false =>
    simp only[kZ,hl]at hA key;subst hA;exact⟨λx hx=>(hk x hx).1,.inl rfl,λx hx L hL=>(by rw[(hk x hx).2]at hL;simp at hL),λd hd L hL=>(by cases hd;rw[Y1]at hL;simp at hL),λev' ob' he cO=>key ev' ob' he λL hL=>cO _ (zC8 L hL)⟩
theorem znt{f:Operand}{args:Array Operand}{ts:Array TypeId}(bf:o.op=.call {callee:=.value f,args,argTypes:=ts})(hA:act P Γ o ev ob=A)(hs:A.safe):bY P Γ o ev ob A:=by
 have hm:=yD bf;have hf:f∈o.op.operands.toList:=by simp[bf,Op.operands,Call.operands]
 simp only[act,aCl,bf]at hA;have e0:∀ev':Operand->DV,(∀x∈o.op.operands.toList,ev' x=ev x)->args.toList.map ev'=args.toList.map ev:=λev' he=>qdb λx hx=>he x (hm x hx);split at hA;rename_i gf caps hef;split at hA;rename_i C hC;exact zhp (λev' ob' he=>by simp only[act,aCl,bf,he f hf,hef,hC,e0 ev' he]) hA hs;subst hA;exact hs.elim
 ·rename_i gf first caps hef
  split at hA;rename_i C hC;exact zhp (λev' ob' he=>by simp only[act,aCl,bf,he f hf,hef,hC,e0 ev' he]) hA hs;rename_i hC;split at hA;rename_i hk;split at hA;exact zwX (k:=Γ.own gf) bf (λev' ob' he=>by simp only[act,aCl,bf,he f hf,hef,hC,hk]) hA hs;subst hA;exact hs.elim;rename_i hko;split at hA
  ·rename_i az u has;split at hA
   case h_2=>subst hA;exact hs.elim
   rename_i rs hrs
   have key:∀(ev':Operand->DV)(ob':Nat->Option AO),(∀x∈o.op.operands.toList,ev' x=ev x)->(∀L∈args.toList.flatMap λx=>bH ob (ev x),ob' L=ob L) ->
     act P Γ o ev' ob'=kZ (args.toList.flatMap λx=>bH ob (ev x)) u rs:=by
    intro ev' ob' he hl;have e0:args.toList.map ev'=args.toList.map ev:=qdb λx hx=>he x (hm x hx);have e1:iy ob' (args.toList.map ev)=iy ob (args.toList.map ev):=lS λL hL=>hl L (by rw[qd5]at hL;exact hL);have e2:(args.toList.flatMap λx=>bH ob' (ev' x))=args.toList.flatMap λx=>bH ob (ev x):=by
     refine fmc λx hx=>?_;rw[he x (hm x hx)];exact jg λL hL=>hl L (lD.2 ⟨x,hx,hL⟩)
    simp only[act,aCl,bf,he f hf,hef,hC,hko,e0,e1,has,e2,hrs]
   exact zbx bf has key hA
  subst hA;exact hs.elim
 ·rename_i gf cells hef;split at hA
  ·rename_i az u has;split at hA
   case h_2=>subst hA;exact hs.elim
   rename_i rs hrs
   have key:∀(ev':Operand->DV)(ob':Nat->Option AO),(∀x∈o.op.operands.toList,ev' x=ev x)->(∀L∈args.toList.flatMap λx=>bH ob (ev x),ob' L=ob L) ->
     act P Γ o ev' ob'=kZ (args.toList.flatMap λx=>bH ob (ev x)) u rs:=by
    intro ev' ob' he hl;have e0:args.toList.map ev'=args.toList.map ev:=qdb λx hx=>he x (hm x hx);have e1:iy ob' (args.toList.map ev)=iy ob (args.toList.map ev):=lS λL hL=>hl L (by rw[qd5]at hL;exact hL);have e2:(args.toList.flatMap λx=>bH ob' (ev' x))=args.toList.flatMap λx=>bH ob (ev x):=by
     refine fmc λx hx=>?_;rw[he x (hm x hx)];exact jg λL hL=>hl L (lD.2 ⟨x,hx,hL⟩)
    simp only[act,aCl,bf,he f hf,hef,e0,e1,has,e2,hrs]
   exact zbx bf has key hA
  subst hA;exact hs.elim
 subst hA;exact hs.elim
theorem Vw{f:FuncId}{first caps:Array Operand}(bf:o.op=.makeFunc (.func f) first caps)(hA:act P Γ o ev ob=A)(hs:A.safe):bY P Γ o ev ob A:=by
 have hm:∀x∈first.toList++caps.toList,x∈o.op.operands.toList:=λx hx=>by simp only[bf,Op.operands];simpa using hx
 simp only[act,aMf,bf]at hA;split at hA;rename_i hmt;split at hA;rename_i cs hf hc;subst hA;refine bY.pure (λL hL=>by simp[lN,tu,mX]at hL) λev' ob' he _=>?_;have e1:Cf ev' caps.toList=some cs:=(GZ λx hx=>he x (hm x (dW.2 (.inr hx)))).trans hc;simp only[act,aMf,bf,hmt,hf,e1];subst hA;exact hs.elim;rename_i hmt;have hbc:∀ev':Operand->DV,(∀x∈o.op.operands.toList,ev' x=ev x)->OX ev' first.toList caps.toList=OX ev first.toList caps.toList:=λev' he=>by
  unfold OX;cases hf:first.toList with
  | nil=>rfl
  | cons x r =>
   cases r with
   | cons y r=>rfl
   | nil =>
    cases hc:caps.toList with|cons y r=>rfl|nil=>simp only[];rw[he x (hm x (by rw[hf];simp))]
 split at hA;rename_i l hb;subst hA;exact bY.pure (iT _) λev' ob' he _=>by simp only[act,aMf,bf,hmt,hbc ev' he,hb]
 rename_i hbn;split at hA;rename_i l u l' u' h1 h2;subst hA;have zFs:∀(x:Operand)(c:Cl),ev x=.one (.c c)->∀k,RC ob k (bu c)->k∈bH ob (ev x):=λx c h k hk=>by
  rw[h];exact mr.2 hk
 have clm:∀(xs:List Operand),∀L∈(xs.flatMap λx=>match ev x with | .one (.c c)=>[c]|_=>[.junk]).flatMap bu,∃x∈xs,∃c,ev x=.one (.c c)/\L∈bu c:=by
  intro xs L hL;obtain⟨c,hc,hL⟩:=lD.1 hL;obtain⟨x,hx,hc⟩:=lD.1 hc;refine⟨x,hx,?_⟩;split at hc;rename_i c' h;simp at hc;subst hc;exact⟨_,h,hL⟩;simp at hc;subst hc;simp[bu]at hL
 have keys:∀(xs:List Operand)(l:List PV)(u:lX),tq ob (xs.flatMap λx=>match ev x with | .one (.c c)=>[c]|_=>[.junk])=some (l,u) ->
   ∀x∈u,x.1∈xs.flatMap (λx=>bH ob (ev x))/\oZ x.2=[]:=by
  intro xs l u h y hy;obtain⟨h3,h4⟩:=zl h y hy;refine⟨?_,h4⟩;obtain⟨L,hL,h3⟩:=h3;obtain⟨x,hx,c,hc,hL⟩:=clm xs _ hL;exact lD.2 ⟨x,hx,zFs x c hc _ ⟨L,hL,h3⟩⟩
 have zFt:∀(xs:List Operand)(ev':Operand->DV)(ob':Nat->Option AO),(∀x∈xs,ev' x=ev x)->(∀L∈xs.flatMap (λx=>bH ob (ev x)),ob' L=ob L) ->
   tq ob' (xs.flatMap λx=>match ev' x with | .one (.c c)=>[c]|_=>[.junk])=tq ob (xs.flatMap λx=>match ev x with | .one (.c c)=>[c]|_=>[.junk]):=by
  intro xs ev' ob' he cO;have e0:(xs.flatMap λx=>match ev' x with | .one (.c c)=>[c]|_=>[.junk])=xs.flatMap λx=>match ev x with | .one (.c c)=>[c]|_=>[.junk] :=
   fmc λx hx=>by rw[he x hx]
  rw[e0];refine Be λL hL=>?_;obtain⟨x,hx,c,hc,hL⟩:=clm xs _ hL;have hd:∀k,RC ob k (bu c)->ob' k=ob k:=λk hk=>cO k (lD.2 ⟨x,hx,zFs x c hc _ hk⟩);exact⟨hd L ⟨L,hL,.inl rfl⟩,λo' kH M hM=>⟨hd M ⟨L,hL,.inr ⟨o',kH,M,hM,.inl rfl⟩⟩,λo2 oh N hN=>hd N ⟨L,hL,.inr ⟨o',kH,M,hM,.inr ⟨o2,oh,hN⟩⟩⟩⟩⟩
 refine⟨λx hx=>?_,.inl rfl,λx hx L hL=>?_,λd' fZ L hL=>?_,λev' ob' he cO=>?_⟩;simp only [aJ.u]at hx;refine KU ?_;rw[qdH];rcases dW.1 hx with hx|hx
 exact dW.2 (.inl (keys _ _ _ h1 x hx).1);exact dW.2 (.inr (keys _ _ _ h2 x hx).1);simp only [aJ.u]at hx;rcases dW.1 hx with hx|hx
 rw[(keys _ _ _ h1 x hx).2]at hL;simp at hL;rw[(keys _ _ _ h2 x hx).2]at hL;simp at hL;simp only[aJ.gives]at fZ;subst fZ;simp[lN,tu,mX]at hL;have hl:∀L∈(first.toList++caps.toList).flatMap fun x=>bH ob (ev x),ob' L=ob L:=fun L hL=>cO (L,true) (KU hL);have e1:=zFt first.toList ev' ob' (λx hx=>he x (hm x (dW.2 (.inl hx)))) (λL hL=>hl L (by rw[qdH];exact dW.2 (.inl hL)));have e2:=zFt caps.toList ev' ob' (λx hx=>he x (hm x (dW.2 (.inr hx)))) (λL hL=>hl L (by rw[qdH];exact dW.2 (.inr hL)));have e3:((first.toList++caps.toList).flatMap λx=>bH ob' (ev' x))=(first.toList++caps.toList).flatMap λx=>bH ob (ev x):=by
  refine fmc λx hx=>?_;rw[he x (hm x hx)];exact jg λL hL=>hl L (lD.2 ⟨x,hx,hL⟩)
 simp only[act,aMf,bf,hmt,e3,hbc ev' he,hbn];split;rename_i l2 u2 l3 u3 h3 h4;have a1:some (l2,u2)=some (l,u):=h3.symm.trans (e1.trans h1);have a2:some (l3,u3)=some (l',u'):=h4.symm.trans (e2.trans h2);simp only[bQ,gm]at a1 a2;obtain⟨rfl,rfl⟩:=a1;obtain⟨rfl,rfl⟩:=a2;rfl;rename_i sW;exact(sW l u l' u' (e1.trans h1) (e2.trans h2)).elim;subst hA;exact hs.elim
theorem Ri{t:TypeId}{x y:Operand}(bf:o.op=.makeSlice t x y)(hA:act P Γ o ev ob=A)(hs:A.safe):bY P Γ o ev ob A:=by
 have hx:x∈o.op.operands.toList:=by simp[bf,Op.operands]
 have hy:y∈o.op.operands.toList:=by simp[bf,Op.operands]
 have hc0:∀ev' ob',(∀x∈o.op.operands.toList,ev' x=ev x)->act P Γ o ev' ob'=rZ P Γ t (ev x) (ev y) o.dst ob':=λev' ob' he=>by simp only[act,bf,he x hx,he y hy]
 have hA0:=hA;rw[hc0 ev ob (λ_ _=>rfl)]at hA;unfold rZ at hA;split at hA;rename_i e k1 j k2 j2 dst hu hex Yi Gp;split at hA;rename_i ie z hi hz gV;have fin:∀(s:CP)(ao:AO),oZ ao=[]->aJ.chk [(dst,true)] s (.cl (.vec dst)) [(dst,ao)] []=A->(∀ob':Nat->Option AO,ob' dst=none->rZ P Γ t (ev x) (ev y) o.dst ob'=A)->bY P Γ o ev ob A:=by
  intro s ao hao e hcc;subst e;refine⟨λz hz=>?_,.inl rfl,λz hz M hM=>?_,λd' fZ M hM=>?_,λev' ob' he cO=>?_⟩;simp only[aJ.u,kY]at hz;subst hz;simp[aJ.fp];simp only[aJ.u,kY]at hz;subst hz;rw[hao]at hM;simp at hM;simp only [aJ.gives]at fZ;subst fZ;simp only[lN,tu,mX,kY]at hM;subst hM;exact .inr (by simp[aJ.fp]);have e2:=cO (dst,true) (by simp [aJ.fp]);simp only at e2;rw[hc0 ev' ob' he];exact hcc ob' (e2.trans gV)
 have hcc:∀ob':Nat->Option AO,ob' dst=none->rZ P Γ t (ev x) (ev y) o.dst ob'=A:=λob' h=>by
  have:act P Γ o ev ob=A:=hA0;rw[hc0 ev ob (λ_ _=>rfl)]at this;rw[<- this];unfold rZ;simp only[hu,hex,Yi,Gp,hi,hz,gV,h]
 split at hA;split at hA;split at hA;split at hA;exact fin _ _ rfl hA hcc;subst hA;exact hs.elim;subst hA;exact hs.elim;subst hA;exact hs.elim;split at hA;split at hA;exact fin _ _ rfl hA hcc;subst hA;exact hs.elim;subst hA;exact hs.elim;subst hA;exact hs.elim;subst hA;exact hs.elim
theorem zFu(hA:act P Γ o ev ob=A)(hs:A.safe):bY P Γ o ev ob A:=by
 have rX:=hA;cases bf:o.op with
 | move x=>simp only[act,bf]at hA;subst hA;exact zbu (.inl bf)
 | assign x=>simp only[act,bf]at hA;subst hA;exact zbu (.inr bf)
 | pick c x y =>
  simp only[act,aPk,bf]at hA;split at hA;rename_i t hc;subst hA;exact znp bf hc;subst hA;exact hs.elim
 | alloc e =>
  simp only[act,aAl,bf]at hA;split at hA;rename_i z hz;refine Q5 (ao:=.box e z) (d:=λt=>.cl (.ptr t 0)) (λL hL=>?_) (λt L hL=>by simp[lN,tu,mX]at hL) (λev' ob' _=>by simp only[act,aAl,bf,hz]) hA hs;simp only[oZ]at hL;rw[zbv hz]at hL;simp at hL;subst hA;exact hs.elim
 | box e x =>
  have hx:x∈o.op.operands.toList:=by simp[bf,Op.operands]
  simp only[act,aBx,bf]at hA;split at hA;rename_i d m hex hm;split at hA;rename_i dh;refine Q5 (ao:=.box e d.cells) (d:=λt=>.cl (.ptr t 0)) (λL hL=>?_) (λt L hL=>by simp[lN,tu,mX]at hL) (λev' ob' he=>by simp only[act,aBx,bf,he x hx,hex,hm,dh]) hA hs;simp only[oZ]at hL;rw[Q7]at hL;exact .inl ⟨x,hx,by rw[hex];exact hL⟩;subst hA;exact hs.elim;subst hA;exact hs.elim
 | build t parts =>
  simp only[act,aBd,bf]at hA;split at hA;rename_i z hf hz;split at hA;rename_i l hl;subst hA;exact zhj bf hf hz hl;subst hA;exact hs.elim;subst hA;exact hs.elim
 | buildSlice t m parts=>exact Ol bf rX hs
 | load t x=>exact znq bf rX hs
 | store t x y=>exact zhk bf rX hs
 | nilCheck x=>exact Vu bf rX hs
 | binOp op t x y t'=>exact zhm bf rX hs
 | unOp op t x=>exact zns bf rX hs
 | convert t1 t2 x=>exact YZ bf rX hs
 | fieldAddr t x f=>exact Q9 bf rX hs
 | indexAddr t x y=>exact Rf bf rX hs
 | extract x k=>exact Y0 bf rX hs
 | index t x y=>exact zhn bf rX hs
 | field t x f=>exact zho bf rX hs
 | slice t x lo hi mx =>
  cases mx with|none=>exact ok_slice bf rX hs|some m=>simp only[act,bf]at hA;subst hA;exact hs.elim
 | lookup t x y k=>exact zdS bf rX hs
 | mapUpdate t x y z=>exact Q8 bf rX hs
 | makeMap t x =>
  cases x with|none=>exact YY bf rX hs|some x=>simp only[act,bf]at hA;subst hA;exact hs.elim
 | makeSlice t x y=>exact Ri bf rX hs
 | makeFunc fn first caps =>
  cases fn with|func f=>exact Vw bf rX hs|_=>simp only[act,bf]at hA;subst hA;exact hs.elim
 | call c =>
  obtain⟨callee,args,ts⟩:=c;cases callee with
  | value f=>exact znt bf rX hs
  | invoke x m=>simp only[act,bf]at hA;subst hA;exact hs.elim
  | builtin b =>
   cases b with|len=>exact zwW bf rX hs|max=>exact ztK (.inl rfl) bf rX hs|min=>exact ztK (.inr rfl) bf rX hs|append=>exact zdT bf rX hs|_=>simp only[act,bf]at hA;subst hA;exact hs.elim
 | _=>simp only[act,bf]at hA;subst hA;exact hs.elim
end
end Go.Pm
namespace Go.Pm
variable [aH]
structure Bh (σ τ : St) : Prop where
  env:∀t,lk σ.env t=lk τ.env t
  aB:∀L,lk σ.aB L=lk τ.aB L
  log:∀x,x∈σ.log↔x∈τ.log
theorem Bh.refl(σ:St):Bh σ σ:=⟨λ_=>rfl,λ_=>rfl,λ_=>Uw⟩
theorem Bh.symm{σ τ:St}(h:Bh σ τ):Bh τ σ:=⟨λt=>(h.env t).symm,λt=>(h.aB t).symm,λx=>(h.log x).symm⟩
theorem Fq{e e':List (Nat×DV)}{x:Operand}(h:∀t∈Yr x,lk e t=lk e' t):fK e x=fK e' x:=by
 cases x with|tmp t=>simp only[fK];rw[h t (by simp[Yr])]|_=>rfl
theorem Fv(x:Cl):fQ [] x=x:=by cases x<;>rfl
theorem KX(x:D1):fM [] x=x:=by
 cases x with|c x=>simp[fM,Fv]|agg cs=>simp only[fM];rw[show fQ []=id from funext Fv,qjr]
theorem zdV(x:DV):gB [] x=x:=by
 cases x with|one x=>simp[gB,KX]|tup cs=>simp only[gB];rw[show fM []=id from funext KX,qjr]
theorem zdW(x:AO):eY [] x=x:=by
 cases x with|box ty cs=>simp only[eY];rw[show fQ []=id from funext Fv,qjr]|_=>rfl
theorem KY{l:List Nat}{x:Cl}(h:∀L∈mX x,L∉l):fQ l x=x:=by
 cases x with
 | vec L =>
  have h1:l.contains L=false:=by simpa using h L (by simp[mX])
  simp only[fQ,h1]
 | vptr L s i k =>
  have h1:l.contains L=false:=by simpa using h L (by simp[mX])
  simp only[fQ,h1]
 | mo L =>
  have h1:l.contains L=false:=by simpa using h L (by simp[mX])
  simp only[fQ,h1]
 | _=>rfl
theorem zn{α:Type}{f:α→α}:∀{l:List α},(∀x∈l,f x=x)→l.map f=l|[],_=>rfl|x::l,h=>by rw[o5,h x kQ,zn λy hy=>h y (jS _ hy)]
theorem PR{l:List Nat}{x:D1}(h:∀L∈tu x,L∉l):fM l x=x:=by
 cases x with|c x=>simp only[fM];rw[KY h]|agg cs=>simp only[fM];rw[zn λx hx=>KY λL hL=>h L (lD.2 ⟨x,hx,hL⟩)]
theorem KZ{l:List Nat}{x:DV}(h:∀L∈lN x,L∉l):gB l x=x:=by
 cases x with|one x=>simp only[gB];rw[PR h]|tup cs=>simp only[gB];rw[zn λx hx=>PR λL hL=>h L (lD.2 ⟨x,hx,hL⟩)]
theorem La{l:List Nat}{x:AO}(h:∀L∈oZ x,L∉l):eY l x=x:=by
 cases x with|box ty cs=>simp only[eY];rw[zn λx hx=>KY λL hL=>h L (lD.2 ⟨x,hx,hL⟩)]|_=>rfl
theorem Rj{l:List Nat}{x:Cl}:mX (fQ l x)=mX x:=by
 cases x with|vec L=>simp only[fQ];split<;>rfl|vptr L s i k=>simp only[fQ];split<;>rfl|mo L=>simp only[fQ];split<;>rfl|_=>rfl
theorem Vx{l:List Nat}{x:D1}:tu (fM l x)=tu x:=by
 cases x with|c x=>exact Rj|agg cs=>simp only[fM,tu,qd5];exact fmc λx _=>Rj
theorem znu{l:List Nat}{x:DV}:lN (gB l x)=lN x:=by
 cases x with|one x=>exact Vx|tup cs=>simp only[gB,lN,qd5];exact fmc λx _=>Vx
theorem Rk{l:List Nat}{x:AO}:oZ (eY l x)=oZ x:=by
 cases x with|box ty cs=>simp only[eY,oZ,qd5];exact fmc λx _=>Rj|_=>rfl
theorem Bi{l m:List Nat}(x:Cl):fQ l (fQ m x)=fQ m (fQ l x):=by
 cases x with|vec L=>simp only[fQ];cases hl:l.contains L<;>cases hm:m.contains L<;>simp only[hl,hm]|vptr L s i k=>simp only[fQ];cases hl:l.contains L<;>cases hm:m.contains L<;>simp only[hl,hm]|mo L=>simp only[fQ];cases hl:l.contains L<;>cases hm:m.contains L<;>simp only[hl,hm]|_=>rfl
theorem G5{l m:List Nat}(x:D1):fM l (fM m x)=fM m (fM l x):=by
 cases x with|c x=>simp only[fM];rw[Bi]|agg cs=>simp only[fM,qdR];rw[show fQ l∘fQ m=fQ m∘fQ l from funext Bi]
theorem Y2{l m:List Nat}(x:DV):gB l (gB m x)=gB m (gB l x):=by
 cases x with|one x=>simp only[gB];rw[G5]|tup cs=>simp only[gB,qdR];rw[show fM l∘fM m=fM m∘fM l from funext G5]
theorem Y3{l m:List Nat}(x:AO):eY l (eY m x)=eY m (eY l x):=by
 cases x with|box ty cs=>simp only[eY,qdR];rw[show fQ l∘fQ m=fQ m∘fQ l from funext Bi]|_=>rfl
theorem zby{α:Type}{f:α→α}:∀{l:List (Nat×α)}{t:Nat},lk (kills f l) t=(lk l t).map f
  | [],_=>rfl
  | (k,a)::r,t=>by
    simp only[kills];rw[aW,aW];split;rfl;exact zby
theorem znv{σ:St}{i:Nat}{dst:Option Nat}{fp:List (Nat×Bool)}{d:DV}{u:List (Nat×AO)}{kl:List Nat}(t:Nat) :
  lk (σ.upd i dst fp d u kl).env t=if dst=some t then some d else(lk σ.env t).map (gB kl):=by
 cases kl with
 | nil =>
  have e:(lk σ.env t).map (gB [])=lk σ.env t:=by cases lk σ.env t<;>simp[zdV]
  rw[e];cases dst with|none=>rfl|some s=>simp only[St.upd,aW,bQ]
 | cons K r =>
  cases dst with|none=>simp only[St.upd,zby];rw[fF (by simp)]|some s=>simp only[St.upd,aW,zby,bQ]
theorem zhq{σ:St}{i:Nat}{dst:Option Nat}{fp:List (Nat×Bool)}{d:DV}{u:List (Nat×AO)}{kl:List Nat}(L:Nat) :
  lk (σ.upd i dst fp d u kl).aB L=match lk u L with|some o=>some o|none=>(lk σ.aB L).map (eY kl):=by
 cases kl with
 | nil =>
  have e:(lk σ.aB L).map (eY [])=lk σ.aB L:=by cases lk σ.aB L<;>simp[zdW]
  rw[e];change lk (u++σ.aB) L=_;rw[gU];cases lk u L<;>rfl
 | cons K r =>
  simp only[St.upd,gU,zby];cases lk u L<;>rfl
theorem znw{σ:St}{i:Nat}{dst:Option Nat}{fp:List (Nat×Bool)}{d:DV}{u:List (Nat×AO)}{kl:List Nat}:(σ.upd i dst fp d u kl).log=σ.log:=by
 cases kl<;>rfl
abbrev aJ.may:aJ->DV->Prop:=aJ.gives
theorem aJ.may_gives{A:aJ}{d:DV}(h:A.may d):A.gives d:=h
theorem aJ.may_of_safe{A:aJ}(h:A.safe):∃d,A.may d:=by
 cases A with|no=>exact h.elim|val fp d u kl=>exact⟨d,rfl⟩|chk fp s d u kl=>exact⟨d,rfl⟩
def nx(A:aJ)(lg:List (Nat×Bool)->List Nat->List (Nat×Nat×Nat))(i:Nat)(dst:Option Nat)(σ:St)(d:DV):St :=
 (σ.upd i dst A.fp d A.u A.kl).relog (lg A.fp A.kl)
theorem lT{A:aJ}{lg:List (Nat×Bool)→List Nat→List (Nat×Nat×Nat)}{i:Nat}{dst:Option Nat}{K:St→Prop}{σ:St} :
  ni A lg i dst K σ↔A.safe/\∀d,A.may d->K (nx A lg i dst σ d):=by
 cases A with|no=>simp[ni,aJ.safe]|val fp d u kl=>simp[ni,aJ.safe,aJ.may,aJ.gives,nx,aJ.fp,aJ.u,aJ.kl]|chk fp s d u kl=>simp[ni,aJ.safe,aJ.may,aJ.gives,nx,aJ.fp,aJ.u,aJ.kl]
section
variable(P:Program)(Γ:bI)(nt:Nat)(ops:Array Oper)
def nC(env:List (Nat×DV))(o:Oper):Option Bool :=
 match o.guard with
 | none=>some true
 | some (j,want) =>
  match(ops[j]?).bind (·.dst)with
  | none=>none
  | some g =>
   match lk env g with|some (.one (.c (.p (.bool b))))=>some (b==want)|some (.one (.c .undef))=>some false|_=>none
def uP(σ:St)(o:Oper):aJ :=
 match dI nt o.dst,nC ops σ.env o with|true,some true=>act P Γ o (fK σ.env) (lk σ.aB)|true,some false=>.val [] (.cl .undef) [] []|_,_=>.no
def qF(σ:St)(i:Nat)(o:Oper)(fp:List (Nat×Bool))(kl:List Nat):List (Nat×Nat×Nat) :=
 match nC ops σ.env o with|some true=>oH σ i o fp kl|_=>[]
def xK:List Nat→(St→Prop)→St→Prop
  | [],K,σ=>K σ
  | i::r,K,σ=>match ops[i]? with|none=>xK r K σ|some o=>ni (uP P Γ nt ops σ o) (qF ops σ i o) i o.dst (xK r K) σ
def looks(σ:St)(o:Oper):List Nat :=
 match nC ops σ.env o with|some true=>tK ops o|_=>gdT ops o
end
section
variable{P:Program}{Γ:bI}{nt:Nat}{ops:Array Oper}{σ τ:St}{o:Oper}{i:Nat}{A:aJ}
theorem yE{L k:Nat}{r:List Nat}:k∈Oc σ (L::r)↔∃o,lk σ.aB k=some o/\L∈oZ o:=by
 simp only[Oc,Ue,xq];constructor;rintro⟨_,h⟩;split at h;rename_i o ho;exact⟨o,ho,by simpa using h⟩;cases h;rintro⟨o,ho,hL⟩;refine⟨⟨(k,o),fH ho,rfl⟩,?_⟩;rw[ho];simpa using hL
theorem PS:∀t∈looks ops σ o,t∈tK ops o:=by
 unfold looks;split;exact λ_ h=>h;exact λt h=>dW.2 (.inr h)
theorem PT:∀t∈gdT ops o,t∈looks ops σ o:=by
 unfold looks;split;exact λt h=>dW.2 (.inr h);exact λt h=>h
theorem sG{env env':List (Nat×DV)}(h:∀t∈gdT ops o,lk env' t=lk env t):nC ops env' o=nC ops env o:=by
 unfold nC;split;rfl;rename_i j want hg;split;rfl;rename_i g TY;rw[h g (by simp[gdT,hg,TY])]
theorem zbz{b:Bool}(h:nC ops σ.env o=some b):∀t∈gdT ops o,∀v,lk σ.env t=some v->lN v=[]:=by
 intro t ht v hv;unfold gdT at ht;split at ht;rename_i j want hg;split at ht;rename_i g TY;simp only[kY]at ht;subst ht;unfold nC at h;rw[hg]at h;simp only[TY]at h;rw[hv]at h;split at h;rename_i e;simp only[bQ]at e;subst e;rfl;rename_i e;simp only[bQ]at e;subst e;rfl;cases h;simp at ht;simp at ht
structure Loc (P : Program) (Γ : bI) (nt : Nat) (ops : Array Oper) (σ : St) (i : Nat) (o : Oper) (A : aJ) (lg : List (Nat × Nat × Nat)) : Prop where
  fst:∀x∈lg,x.1=i
  wr:∀x∈A.u,(i,x.1,1)∈lg
  kl:A.kl=[]\/∃L,A.kl=[L]
  kl3:∀L∈A.kl,(i,L,3)∈lg
  kl1:∀L∈A.kl,(i,L,1)∈lg
  kb:∀L∈A.kl,∀k o',lk σ.aB k=some o'->L∈oZ o'->(i,k,1)∈lg
  labu:∀x∈A.u,∀L∈oZ x.2,(i,L,2)∈lg
  labd:∀d,A.may d->∀L∈lN d,(i,L,2)∈lg\/(i,L,1)∈lg
  see:∀t∈looks ops σ o,∀v,lk σ.env t=some v->∀L∈lN v,(i,L,2)∈lg
  fpm:∀y∈A.fp,∀o',lk σ.aB y.1=some o'->∀L∈oZ o',(i,L,2)∈lg
  fpt:∀y∈A.fp,(i,y.1,0)∈lg\/(i,y.1,1)∈lg
  wfp:∀x∈A.u,(x.1,true)∈A.fp
  congr:∀τ,(∀t∈looks ops σ o,lk τ.env t=lk σ.env t)->(∀y∈A.fp,lk τ.aB y.1=lk σ.aB y.1)->uP P Γ nt ops τ o=A
  logc:∀τ,(∀t∈looks ops σ o,lk τ.env t=lk σ.env t)->(∀y∈A.fp,lk τ.aB y.1=lk σ.aB y.1) ->
    (∀L∈A.kl,∀k,(∃o',lk τ.aB k=some o'/\L∈oZ o')↔∃o',lk σ.aB k=some o'/\L∈oZ o')->∀x,x∈qF ops τ i o A.fp A.kl↔x∈lg
theorem jw{fp:List (Nat×Bool)}{kl:List Nat}{x:Nat×Nat×Nat}:x∈oH σ i o fp kl ↔
    (∃y∈fp,x=(i,y.1,match y.2 with|true=>1|false=>0))\/(∃L∈JJ σ o fp,x=(i,L,2))\/(∃L∈kl,x=(i,L,3))\/∃k∈Oc σ kl,x=(i,k,1):=by
  simp only[oH,dW,xq,or_assoc];constructor;rintro(⟨y,h1,h2⟩|⟨y,h1,h2⟩|⟨y,h1,h2⟩|⟨y,h1,h2⟩);exact .inl ⟨y,h1,h2.symm⟩;exact .inr (.inl ⟨y,h1,h2.symm⟩);exact .inr (.inr (.inl ⟨y,h1,h2.symm⟩));exact .inr (.inr (.inr ⟨y,h1,h2.symm⟩));rintro(⟨y,h1,h2⟩|⟨y,h1,h2⟩|⟨y,h1,h2⟩|⟨y,h1,h2⟩);exact .inl ⟨y,h1,h2.symm⟩;exact .inr (.inl ⟨y,h1,h2.symm⟩);exact .inr (.inr (.inl ⟨y,h1,h2.symm⟩));exact .inr (.inr (.inr ⟨y,h1,h2.symm⟩))
theorem zdX{fp:List (Nat×Bool)}{L:Nat}(h:Men o (fK σ.env) (lk σ.aB) fp L):L∈JJ σ o fp:=by
 unfold JJ;rcases h with⟨x,hx,hL⟩|⟨y,hy,o',ho,hL⟩
 exact dW.2 (.inl (lD.2 ⟨x,hx,hL⟩));refine dW.2 (.inr (lD.2 ⟨y,hy,?_⟩));rw[ho];exact hL
theorem G6{fp:List (Nat×Bool)}(he:∀x∈o.op.operands.toList,fK τ.env x=fK σ.env x)(cO:∀y∈fp,lk τ.aB y.1=lk σ.aB y.1):JJ τ o fp=JJ σ o fp:=by
 unfold JJ;rw[fmc (f:=λx=>lN (fK τ.env x)) (h:=λx=>lN (fK σ.env x)) λx hx=>by rw[he x hx]];congr 1;exact fmc λy hy=>by rw[cO y hy]
theorem Vy(hA:uP P Γ nt ops σ o=A)(hs:A.safe):Loc P Γ nt ops σ i o A (qF ops σ i o A.fp A.kl):=by
 have rX:=hA;unfold uP at hA;split at hA;rename_i hd hw;have K:=zFu hA hs;have hlg:∀fp kl,qF ops σ i o fp kl=oH σ i o fp kl:=λfp kl=>by unfold qF;rw[hw]
 have Ub:looks ops σ o=tK ops o:=by unfold looks;rw[hw]
 have znx:∀L,Men o (fK σ.env) (lk σ.aB) A.fp L->(i,L,2)∈qF ops σ i o A.fp A.kl:=λL h=>by
  rw[hlg];exact jw.2 (.inr (.inl ⟨L,zdX h,rfl⟩))
 have hfw:∀L,(L,true)∈A.fp->(i,L,1)∈qF ops σ i o A.fp A.kl:=λL h=>by
  rw[hlg];exact jw.2 (.inl ⟨_,h,rfl⟩)
 have bf:∀τ:St,(∀t∈looks ops σ o,lk τ.env t=lk σ.env t)->∀x∈o.op.operands.toList,fK τ.env x=fK σ.env x:=λτ h x hx =>
  Fq λt ht=>h t (by rw[Ub];exact dW.2 (.inl (lD.2 ⟨x,hx,ht⟩)))
 have hwt:∀τ:St,(∀t∈looks ops σ o,lk τ.env t=lk σ.env t)->nC ops τ.env o=some true:=λτ h=>by
  rw[sG (env:=σ.env) λt ht=>h t (PT t ht),hw]
 refine⟨λx hx=>?_,λx hx=>hfw _ (K.wr x hx),?_,λL hL=>?_,λL hL=>?_,λL hL k o' hk Qx=>?_,λx hx L hL=>znx L (K.labu x hx L hL),
  λd fZ L hL=>(K.labd d (aJ.may_gives fZ) L hL).imp (znx L) (hfw L),λt ht v hv L hL=>?_,λy hy o' ho L hL=>znx L (.inr ⟨y,hy,o',ho,hL⟩),λy hy=>?_,K.wr,λτ he cO=>?_,λτ he cO hkb x=>?_⟩
 rw [hlg]at hx;rcases jw.1 hx with⟨_,_,h⟩|⟨_,_,h⟩|⟨_,_,h⟩|⟨_,_,h⟩<;>rw[h]
 exact K.kl.imp_right λ⟨L,h,_⟩=>⟨L,h⟩;rw[hlg];exact jw.2 (.inr (.inr (.inl ⟨L,hL,rfl⟩)));rcases K.kl with h|⟨M,h,h2⟩
 rw[h]at hL;simp at hL;rw[h]at hL;simp at hL;subst hL;exact hfw _ h2;rw [hlg];refine jw.2 (.inr (.inr (.inr ⟨k,?_,rfl⟩)));rcases K.kl with h|⟨M,h,h2⟩
 rw[h]at hL;simp at hL;rw[h]at hL ⊢;simp at hL;subst hL;exact yE.2 ⟨o',hk,Qx⟩;rw [Ub]at ht;rcases dW.1 ht with ht|ht
 ·obtain⟨x,hx,ht⟩:=lD.1 ht;refine znx L (.inl ⟨x,hx,?_⟩);cases x with|tmp s=>simp only[Yr,kY]at ht;subst ht;simp only[fK,hv];exact hL|_=>simp[Yr]at ht
 rw[zbz hw t ht v hv]at hL;simp at hL
 ·rw [hlg];obtain⟨L,b⟩:=y;cases b with|true=>exact .inr (jw.2 (.inl ⟨_,hy,rfl⟩))|false=>exact .inl (jw.2 (.inl ⟨_,hy,rfl⟩))
 unfold uP;rw[hd,hwt τ he];exact K.congr _ _ (bf τ he) cO;have e1:qF ops τ i o A.fp A.kl=oH τ i o A.fp A.kl:=by unfold qF;rw [hwt τ he]
 rw[e1,hlg,jw,jw,G6 (bf τ he) cO];refine qjN Uw (qjN Uw (qjN Uw ?_));rcases K.kl with h|⟨M,h,h2⟩
 rw[h];simp[Oc];rw [h];have:∀k,k∈Oc τ [M]↔k∈Oc σ [M]:=λk=>by rw[yE,yE];exact hkb M (by rw[h];simp) k
 constructor;rintro⟨k,h1,h2⟩;exact⟨k,(this k).1 h1,h2⟩;rintro⟨k,h1,h2⟩;exact⟨k,(this k).2 h1,h2⟩;rename_i hd hw;subst hA;have hlg:∀fp kl,qF ops σ i o fp kl=[]:=λfp kl=>by unfold qF;rw[hw]
 have Ub:looks ops σ o=gdT ops o:=by unfold looks;rw[hw]
 have hwt:∀τ:St,(∀t∈looks ops σ o,lk τ.env t=lk σ.env t)->nC ops τ.env o=some false:=λτ h=>by
  rw[sG (env:=σ.env) λt ht=>h t (PT t ht),hw]
 refine⟨λx hx=>?_,λx hx=>?_,.inl rfl,λL hL=>?_,λL hL=>?_,λL hL=>?_,λx hx=>?_,λd fZ L hL=>?_,λt ht v hv L hL=>?_,λy hy=>?_,λy hy=>?_,λx hx=>?_,λτ he cO=>?_,λτ he cO hkb x=>?_⟩;rw[hlg]at hx;simp at hx;simp[aJ.u]at hx;simp[aJ.kl]at hL;simp[aJ.kl]at hL;simp[aJ.kl]at hL;simp[aJ.u]at hx;simp only[aJ.gives]at fZ;subst fZ;simp[lN,tu,mX]at hL;rw[Ub]at ht;rw[zbz hw t ht v hv]at hL;simp at hL;simp[aJ.fp]at hy;simp[aJ.fp]at hy;simp[aJ.u]at hx;unfold uP;rw[hd,hwt τ he];rw [hlg];have:qF ops τ i o (aJ.val [] (.cl .undef) [] []).fp (aJ.val [] (.cl .undef) [] []).kl=[]:=by unfold qF;rw[hwt τ he]
 rw[this];subst hA;exact hs.elim
theorem FB{lg:List (Nat×Bool)->List Nat->List (Nat×Nat×Nat)}{dst:Option Nat}{d:DV}(t:Nat):lk (nx A lg i dst σ d).env t=if dst=some t then some d else(lk σ.env t).map (gB A.kl):=znv t
theorem zo{lg:List (Nat×Bool)->List Nat->List (Nat×Nat×Nat)}{dst:Option Nat}{d:DV}(L:Nat):lk (nx A lg i dst σ d).aB L=match lk A.u L with|some o=>some o|none=>(lk σ.aB L).map (eY A.kl):=zhq L
theorem ww{lg:List (Nat×Bool)->List Nat->List (Nat×Nat×Nat)}{dst:Option Nat}{d:DV}:(nx A lg i dst σ d).log=lg A.fp A.kl++σ.log:=by simp only[nx,St.relog,znw]
theorem zhr(h:Bh σ τ)(o:Oper):uP P Γ nt ops τ o=uP P Γ nt ops σ o:=by
 unfold uP;rw[sG (env:=σ.env) λt _=>(h.env t).symm,show fK τ.env=fK σ.env from funext λx=>Fq λt _=>(h.env t).symm,show lk τ.aB=lk σ.aB from funext λt=>(h.aB t).symm]
theorem zny(h:Bh σ τ){fp:List (Nat×Bool)}{kl:List Nat}(x:Nat×Nat×Nat):x∈qF ops σ i o fp kl↔x∈qF ops τ i o fp kl:=by
 unfold qF;rw[sG (env:=σ.env) (env':=τ.env) λt _=>(h.env t).symm];split
 ·rw [jw,jw,G6 (σ:=σ) (τ:=τ) (fun x _=>Fq fun t _=>(h.env t).symm) (fun y _=>(h.aB y.1).symm)];refine qjN Uw (qjN Uw (qjN Uw ?_));cases kl with
  | nil=>simp[Oc]
  | cons L r =>
   have:∀k,k∈Oc σ (L::r)↔k∈Oc τ (L::r):=λk=>by rw[yE,yE,h.aB k]
   constructor;rintro⟨k,h1,h2⟩;exact⟨k,(this k).1 h1,h2⟩;rintro⟨k,h1,h2⟩;exact⟨k,(this k).2 h1,h2⟩
 exact Uw
theorem I9{K:St→Prop}(hK:∀σ τ,Bh σ τ→K σ→K τ):∀(l:List Nat)(σ τ:St),Bh σ τ→xK P Γ nt ops l K σ→xK P Γ nt ops l K τ
  | [],σ,τ,h,hv=>hK σ τ h hv
  | i::r,σ,τ,h,hv=>by
    simp only[xK]at hv ⊢;split at hv;exact I9 hK r σ τ h hv;rename_i o ho;rw[lT]at hv ⊢;rw[zhr h];refine⟨hv.1,λd hd=>I9 hK r _ _ ⟨λt=>?_,λL=>?_,λx=>?_⟩ (hv.2 d hd)⟩;rw[FB,FB,h.env];rw[zo,zo,h.aB];rw [ww,ww,dW,dW,h.log x];exact qjN (zny h x) Uw
theorem Ap{K K':St->Prop}{l l':List Nat}{i:Nat}(hK:∀σ,xK P Γ nt ops l K σ->xK P Γ nt ops l' K' σ)(hv:xK P Γ nt ops (i::l) K σ):xK P Γ nt ops (i::l') K' σ:=by
 simp only[xK]at hv ⊢;split at hv;exact hK _ hv;rw [lT]at hv ⊢;exact⟨hv.1,λd hd=>hK _ (hv.2 d hd)⟩
theorem Rl{K:St→Prop}{R:List (Nat×Nat×Nat)→Prop}(hR:∀l m,(∀x∈l,x∈m)→R m→R l)(hK:∀σ,K σ→R σ.log):∀(l:List Nat)(σ:St),xK P Γ nt ops l K σ→R σ.log
  | [],σ,hv=>hK σ hv
  | i::r,σ,hv=>by
    simp only[xK]at hv;split at hv;exact Rl hR hK r σ hv;rw [lT]at hv;obtain⟨d,hd⟩:=aJ.may_of_safe hv.1;refine hR _ _ (λx hx=>?_) (Rl hR hK r _ (hv.2 d hd));rw[ww];exact dW.2 (.inr hx)
def Dj(log:List (Nat×Nat×Nat))(i j:Nat):Prop:=∀L k m,(i,L,k)∈log->(j,L,m)∈log->Yt k m=false
theorem Lc{l:List Nat}{x:Option DV}(h:∀v,x=some v->∀L∈lN v,L∉l):x.map (gB l)=x:=by
 cases x with|none=>rfl|some v=>simp only[QA];rw[KZ (h v rfl)]
theorem Ld{l:List Nat}{x:Option AO}(h:∀v,x=some v->∀L∈oZ v,L∉l):x.map (eY l)=x:=by
 cases x with|none=>rfl|some v=>simp only[QA];rw[La (h v rfl)]
theorem zhs{a b:Oper}(h:JK ops a b=false):(∀t∈tK ops b,a.dst≠some t)/\(∀t∈tK ops a,b.dst≠some t)/\∀t,a.dst=some t->b.dst≠some t:=by
 simp only[JK,qd1]at h;obtain⟨⟨h1,h2⟩,h3⟩:=h;refine⟨λt ht e=>?_,λt ht e=>?_,λt e e'=>?_⟩;rw [e]at h1;simp only [meets]at h1;have:(tK ops b).contains t=true:=by simpa using ht
 rw[this]at h1;cases h1;rw [e]at h2;simp only [meets]at h2;have:(tK ops a).contains t=true:=by simpa using ht
 rw[this]at h2;cases h2;rw [e,e']at h3;simp only [zaZ]at h3;rw[show Nat.beq t t=true from by simp]at h3;cases h3
theorem zht{K:St→Prop}{i j:Nat}{oi oj:Oper}{r:List Nat}(hi:ops[i]? = some oi)(hj:ops[j]? = some oj)(hT:JK ops oi oj=false)
    (hE:∀τ τ',Bh τ τ'->xK P Γ nt ops r K τ->xK P Γ nt ops r K τ') (hN:∀τ,xK P Γ nt ops r K τ->Dj τ.log i j)
    (h:xK P Γ nt ops (i::j::r) K σ):xK P Γ nt ops (j::i::r) K σ:=by
  obtain⟨cT1,cT2,cT3⟩:=zhs hT;simp only[xK,hi,hj]at h ⊢;rw[lT]at h;obtain⟨hsA,hA⟩:=h;generalize hAe:uP P Γ nt ops σ oi=A at hsA hA;have LA:=Vy (i:=i) hAe hsA
  -- the second operation behind the first: az before it
  have key:∀d,A.may d->∃B,uP P Γ nt ops (nx A (qF ops σ i oi) i oi.dst σ d) oj=B/\B.safe /\
      (∀e,B.may e->xK P Γ nt ops r K (nx B (qF ops (nx A (qF ops σ i oi) i oi.dst σ d) j oj) j oj.dst (nx A (qF ops σ i oi) i oi.dst σ d) e)) /\
      Dj (qF ops (nx A (qF ops σ i oi) i oi.dst σ d) j oj B.fp B.kl++(qF ops σ i oi A.fp A.kl)) i j:=by
    intro d hd;have h2:=hA d hd;rw[lT]at h2;obtain⟨hsB,hB⟩:=h2;refine⟨_,rfl,hsB,hB,?_⟩;obtain⟨e,he⟩:=aJ.may_of_safe hsB;have:=hN _ (hB e he);rw[ww,ww]at this;intro L k m hk hm;refine this L k m ?_ ?_;rcases dW.1 hk with h|h
    exact dW.2 (.inl h);exact dW.2 (.inr (dW.2 (.inl h)));rcases dW.1 hm with h|h
    exact dW.2 (.inl h);exact dW.2 (.inr (dW.2 (.inl h)))
  have main:∀d,A.may d->∀B,uP P Γ nt ops (nx A (qF ops σ i oi) i oi.dst σ d) oj=B->B.safe ->
      (∀e,B.may e->xK P Γ nt ops r K (nx B (qF ops (nx A (qF ops σ i oi) i oi.dst σ d) j oj) j oj.dst (nx A (qF ops σ i oi) i oi.dst σ d) e)) ->
      Dj (qF ops (nx A (qF ops σ i oi) i oi.dst σ d) j oj B.fp B.kl++(qF ops σ i oi A.fp A.kl)) i j ->
      uP P Γ nt ops σ oj=B/\∀e,B.may e->uP P Γ nt ops (nx B (qF ops σ j oj) j oj.dst σ e) oi=A /\
        xK P Γ nt ops r K (nx A (qF ops (nx B (qF ops σ j oj) j oj.dst σ e) i oi) i oi.dst (nx B (qF ops σ j oj) j oj.dst σ e) d):=by
    intro d hd B hBe hsB hB sW;generalize hσ1:nx A (qF ops σ i oi) i oi.dst σ d=σ1 at hBe hB sW;have LB:=Vy (i:=j) hBe hsB;have no:∀L k m,(i,L,k)∈qF ops σ i oi A.fp A.kl->(j,L,m)∈qF ops σ1 j oj B.fp B.kl->Yt k m=true->False:=λL k m h1 h2 hc=>by
      have:=sW L k m (dW.2 (.inr h1)) (dW.2 (.inl h2));rw[this]at hc;cases hc
    have zFv:∀t,lk σ1.env t=if oi.dst=some t then some d else(lk σ.env t).map (gB A.kl):=λt=>by rw[<- hσ1,FB]
    have zhu:∀L,lk σ1.aB L=match lk A.u L with|some o=>some o|none=>(lk σ.aB L).map (eY A.kl):=λL=>by rw[<- hσ1,zo]
    -- zLL the second looks at, the first has not changed
    have zFw:∀t∈looks ops σ1 oj,lk σ.env t=lk σ1.env t:=by
      intro t ht;have e:=zFv t;rw[fF (cT1 t (PS t ht))]at e;rw[e];refine(Lc λv hv L hL hk=>?_).symm;rw[hv,QA]at e;exact no L 3 2 (LA.kl3 L hk) (LB.see t ht _ e L (by rw[znu];exact hL)) rfl
    have fpB:∀y∈B.fp,lk σ.aB y.1=lk σ1.aB y.1:=by
      intro y hy;have e:=zhu y.1;have hn:lk A.u y.1=none:=by
        cases hu:lk A.u y.1 with
        | none=>rfl
        | some o' =>
          have h1:=LA.wr _ (fH hu);rcases LB.fpt y hy with h2|h2
          exact(no _ _ _ h1 h2 rfl).elim;exact(no _ _ _ h1 h2 rfl).elim
      rw[hn]at e;simp only at e;rw[e];refine(Ld λv hv L hL hk=>?_).symm;rw[hv,QA]at e;exact no L 3 2 (LA.kl3 L hk) (LB.fpm y hy _ e L (by rw[Rk];exact hL)) rfl
    have hBσ:=LB.congr σ zFw fpB;refine⟨hBσ,λe he=>?_⟩;generalize hσ1':nx B (qF ops σ j oj) j oj.dst σ e=σ1';have ztM:∀t,lk σ1'.env t=if oj.dst=some t then some e else(lk σ.env t).map (gB B.kl):=λt=>by rw[<- hσ1',FB]
    have Y4:∀L,lk σ1'.aB L=match lk B.u L with|some o=>some o|none=>(lk σ.aB L).map (eY B.kl):=λL=>by rw[<- hσ1',zo]
    have zFx:∀t∈looks ops σ oi,lk σ1'.env t=lk σ.env t:=by
      intro t ht;rw[ztM,fF (cT2 t (PS t ht))];exact Lc λv hv L hL hk=>no L 2 3 (LA.see t ht v hv L hL) (LB.kl3 L hk) rfl
    have uB:∀y∈A.fp,lk B.u y.1=none:=by
      intro y hy;cases hu:lk B.u y.1 with
      | none=>rfl
      | some o' =>
        have h1:=LB.wr _ (fH hu);rcases LA.fpt y hy with h2|h2
        exact(no _ _ _ h2 h1 rfl).elim;exact(no _ _ _ h2 h1 rfl).elim
    have fpA:∀y∈A.fp,lk σ1'.aB y.1=lk σ.aB y.1:=by
      intro y hy;rw[Y4,uB y hy];exact Ld λv hv L hL hk=>no L 2 3 (LA.fpm y hy v hv L hL) (LB.kl3 L hk) rfl
    have hAσ:=LA.congr σ1' zFx fpA;refine⟨hAσ,hE _ _ ⟨λt=>?_,λL=>?_,λx=>?_⟩ (hB e he)⟩
    · -- the temporaries
      rw[FB,FB,zFv,ztM];by_cases h1:oj.dst=some t;rw [eX h1,eX h1,fF fun h2=>cT3 t h2 h1,QA,KZ fun L hL hk => ?_];rcases LB.labd e he L hL with h3|h3
      exact no L 3 2 (LA.kl3 L hk) h3 rfl;exact no L 1 1 (LA.kl1 L hk) h3 rfl;rw [fF h1,fF h1];by_cases h2:oi.dst=some t;rw [eX h2,eX h2,QA,KZ fun L hL hk => ?_];rcases LA.labd d hd L hL with h3|h3
      exact no L 2 3 h3 (LB.kl3 L hk) rfl;exact no L 1 1 h3 (LB.kl1 L hk) rfl
      · rw [fF h2,fF h2];cases lk σ.env t with|none=>rfl|some v=>simp only[QA];rw[Y2]
    · -- the objects
      rw[zo,zo,zhu,Y4];cases hb:lk B.u L with
      | some ob =>
        cases ha:lk A.u L with
        | some oa=>exact(no L 1 1 (LA.wr _ (fH ha)) (LB.wr _ (fH hb)) rfl).elim
        | none =>
          simp only[QA];rw[La λM hM hk=>no M 3 2 (LA.kl3 M hk) (LB.labu _ (fH hb) M hM) rfl]
      | none =>
        cases ha:lk A.u L with
        | some oa =>
          simp only[QA];rw[La λM hM hk=>no M 2 3 (LA.labu _ (fH ha) M hM) (LB.kl3 M hk) rfl]
        | none =>
          simp only;cases lk σ.aB L with|none=>rfl|some v=>simp only[QA];rw[Y3]
    · -- the log
      rw[ww,ww];have l1:σ1.log=qF ops σ i oi A.fp A.kl++σ.log:=by rw[<- hσ1,ww]
      have l2:σ1'.log=qF ops σ j oj B.fp B.kl++σ.log:=by rw[<- hσ1',ww]
      rw[l1,l2];have e1:x∈qF ops σ j oj B.fp B.kl↔x∈qF ops σ1 j oj B.fp B.kl:=by
        refine LB.logc σ zFw fpB (λL hL k=>?_) x;rw[zhu];cases ha:lk A.u k with
        | some oa =>
          simp only[bQ];constructor;rintro⟨o',ho,Qx⟩;exact(no L 2 3 (LA.fpm _ (LA.wfp _ (fH ha)) o' ho L Qx) (LB.kl3 L hL) rfl).elim;rintro⟨o',rfl,Qx⟩;exact(no L 2 3 (LA.labu _ (fH ha) L Qx) (LB.kl3 L hL) rfl).elim
        | none =>
          simp only;cases lk σ.aB k with|none=>simp|some v=>simp[Rk]
      have e2:x∈qF ops σ1' i oi A.fp A.kl↔x∈qF ops σ i oi A.fp A.kl:=by
        refine LA.logc σ1' zFx fpA (λL hL k=>?_) x;rw[Y4];cases hb:lk B.u k with
        | some ob =>
          simp only[bQ];constructor;rintro⟨o',rfl,Qx⟩;exact(no L 3 2 (LA.kl3 L hL) (LB.labu _ (fH hb) L Qx) rfl).elim;rintro⟨o',ho,Qx⟩;exact(no k 1 1 (LA.kb L hL k o' ho Qx) (LB.wr _ (fH hb)) rfl).elim
        | none =>
          simp only;cases lk σ.aB k with|none=>simp|some v=>simp[Rk]
      simp only[dW];rw[e1,e2,<- or_assoc,<- or_assoc];exact qjN (or_comm) Uw
  rw[lT];obtain⟨d0,hd0⟩:=aJ.may_of_safe hsA;obtain⟨B,hBe,hsB,hB,sW⟩:=key d0 hd0;obtain⟨hBσ,zLZ⟩:=main d0 hd0 B hBe hsB hB sW;rw[hBσ];refine⟨hsB,λe he=>?_⟩;rw[lT];rw[(zLZ e he).1];refine⟨hsA,λd hd=>?_⟩;obtain⟨B',zPG,zYX,hB',zYW⟩:=key d hd;obtain⟨zPH,zCQ⟩:=main d hd B' zPG zYX hB' zYW;have hBB:B'=B:=zPH.symm.trans hBσ;subst hBB;exact(zCQ e he).2
end
end Go.Pm
namespace Go.Pm
variable [aH]
open Go.RowKit (Below)
section
variable{P:Program}{Γ:bI}{nt B:Nat}{w0:World}{h0:Fz}{g:Gh}{σ:St}{a:Act}{w:World}{r:Option Nat}{n i:Nat}{Q:Exit->Act->World->Prop}{ops:Array Oper}
theorem Y5{K:St->Prop}(hK:∀σ τ,Bh σ τ->K σ->K τ):∀(l:List Oper)(i:Nat)(σ:St),(∀j,l[j]? = ops[i+j]?)->jV P Γ nt ops i l K σ->xK P Γ nt ops (List.range' i l.length) K σ:=by
 intro l
 induction l with
 | nil=>intro i σ _ h;exact h
 | cons o l ih =>
  intro i σ hl h;have ho:ops[i]? = some o:=by have:=hl 0;simpa using this.symm
  have zK:∀j,l[j]? = ops[i+1+j]?:=λj=>by have:=hl (j+1);rw[Yn]at this;rw[this];congr 1;omega
  rw[EN,qdr];simp only[jV]at h;split at h;exact h.elim;rename_i hd;have one:∀τ:St,nC ops τ.env o=some true->ni (act P Γ o (fK τ.env) (lk τ.aB)) (oH τ i o) i o.dst (jV P Γ nt ops (i+1) l K) τ->xK P Γ nt ops (i::List.range' (i+1) l.length) K τ:=by
   intro τ hw hv;simp only[xK,ho];have e1:uP P Γ nt ops τ o=act P Γ o (fK τ.env) (lk τ.aB):=by unfold uP;rw[hd,hw]
   have e2:qF ops τ i o=oH τ i o:=by funext fp kl;unfold qF;rw[hw]
   rw[e1,e2];rw[lT]at hv ⊢;exact⟨hv.1,λd hd=>ih (i+1) _ zK (hv.2 d hd)⟩
  have two:∀τ:St,nC ops τ.env o=some false->jV P Γ nt ops (i+1) l K (τ.skip o.dst)->xK P Γ nt ops (i::List.range' (i+1) l.length) K τ:=by
   intro τ hw hv;simp only[xK,ho];have e1:uP P Γ nt ops τ o=.val [] (.cl .undef) [] []:=by unfold uP;rw[hd,hw]
   have e2:qF ops τ i o=λ_ _=>[]:=by funext fp kl;unfold qF;rw[hw]
   rw[e1,e2];change xK P Γ nt ops (List.range' (i+1) l.length) K ((τ.upd i o.dst [] (.cl .undef) [] []).relog []);have e3:(τ.upd i o.dst [] (.cl .undef) [] []).relog []=τ.skip o.dst:=by cases o.dst<;>rfl
   rw[e3];exact ih (i+1) _ zK hv
  split at h;rename_i hg;exact one σ (by unfold nC;rw[hg]) h;rename_i j want hg;split at h;exact h.elim;rename_i gt TY;have wt:∀b,nC ops (σ.setT gt (.bool b)).env o=some (b==want):=λb=>by
   unfold nC;rw[hg];simp only[TY];rw[show lk (σ.setT gt (.bool b)).env gt=some (.bool b)by simp[St.setT,aW]]
  split at h
  ·rename_i b hb;have eq:∀c,b=c->Bh (σ.setT gt (.bool c)) σ:=λc hc=>⟨λt=>by
    simp only[St.setT,aW];split;rename_i e;subst e;rw[hb,hc];rfl,λ_=>rfl,λ_=>Uw⟩
   have h2:=qA.1 h;refine I9 hK _ _ _ (eq b rfl) ?_;cases b with
   | true =>
    have h3:=h2.1 rfl;cases want with|true=>exact one _ (wt true) h3|false=>exact two _ (wt true) h3
   | false =>
    have h3:=h2.2 rfl;cases want with|true=>exact two _ (wt false) h3|false=>exact one _ (wt false) h3
  rename_i hb;refine two σ ?_ h;unfold nC;rw[hg];simp only[TY];rw[hb];exact h.elim
theorem zw0(fP:jk P Γ){K:St→Prop}{l:List Nat}{R:Act→World→Prop}{D:List Nat}{a0:Act}{ad:List Deferred}(hD:∀(j:Nat)(o:Oper),ops[j]? = some o→∀t,o.dst=some t→t∈D)
    (hv:xK P Γ nt ops (i::l) K σ) (S:bW P nt B w0 h0 g σ a w) (kN:Kp D a0 a) (had:a.defers=ad)
    (hR:∀σ' g' a' w',xK P Γ nt ops l K σ'->bW P nt B w0 h0 g' σ' a' w'->Kp D a0 a'->a'.defers=ad->R a' w'):wpOpIn (FR r) n P ops Q i R a w:=by
  simp only[xK]at hv;unfold wpOpIn;split at hv;rename_i ho;rw[ho];exact hR σ g a w hv S kN had;rename_i o ho;rw[ho];simp only;obtain⟨hs,hk⟩:=E8.1 hv;have wnt:∀b,nC ops σ.env o=some b->Region.wanted o (yielded ops a.tmps)=b:=by
    intro b hw;unfold nC at hw;split at hw;rename_i hg;simp only[bQ]at hw;subst hw;simp[Region.wanted,hg];rename_i j want hg;split at hw;cases hw;rename_i gt TY;split at hw;rename_i c hb;simp only[bQ]at hw;subst hw;have hvv:a.tmps.getD gt undef=.bool c:=by
      have:=S.env gt _ hb;generalize a.tmps.getD gt undef=v at this;cases this;rfl
    simp[Region.wanted,hg,wo TY hvv];rename_i hb;simp only[bQ]at hw;subst hw;have hvv:a.tmps.getD gt undef=undef:=S.env gt _ hb;simp[Region.wanted,hg,uf TY hvv];cases hw
  generalize hA:uP P Γ nt ops σ o=A at hs hk;have rX:=hA;unfold uP at hA;split at hA;rename_i hd hw;rw[eX (wnt true hw)];refine I7 (YW (Fj (i:=i) (Q:=Q) (r:=r) (n:=n) fP S hd hA hs)) ?_;rintro a' w' ⟨⟨EL,g',σ',Ih,S'⟩,v,ds,rfl⟩;exact hR _ g' _ w' (hk σ' Ih) (S'.log _) (kN.put (hD i o ho) v ds ((put_defers _ _ _).symm.trans EL)) (EL.trans had);rename_i hd hw;rw[fF (by rw[wnt false hw];simp)];refine⟨λ_ _=>trivial,?_⟩;subst hA;refine hR _ g _ w (hk _ rfl) ?_ (kN.put (hD i o ho) undef a.defers rfl) ((put_defers _ _ _).trans had);have:=S.skip hd;have e:(σ.upd i o.dst [] (.cl .undef) [] [])=σ.skip o.dst:=by cases o.dst<;>rfl
  rw[e];exact this.log _;subst hA;exact hs.elim
theorem PU{K:St→Prop}{i:Nat}{oi:Oper}{l2:List Nat}(hi:ops[i]? = some oi)(hE:∀σ τ,Bh σ τ→K σ→K τ){R:List (Nat×Nat×Nat)→Prop}(hR:∀l m,(∀x∈l,x∈m)→R m→R l)(hK:∀σ,K σ→R σ.log) :
  ∀(l1:List Nat)(σ:St),(∀p∈l1,(∀log,R log->Dj log p i)/\∀op,ops[p]? = some op->JK ops op oi=false) ->
   xK P Γ nt ops (l1++i::l2) K σ->xK P Γ nt ops (i::(l1++l2)) K σ
 | [],σ,_,h=>h
 | p::l1,σ,hp,h=>by
  have h1:xK P Γ nt ops (p::i::(l1++l2)) K σ:=Ap (λσ h=>PU hi hE hR hK l1 σ (λq hq=>hp q (jS _ hq)) h) h;obtain⟨hN,hT⟩:=hp p kQ;cases bf:ops[p]? with
  | none =>
   have e:∀l σ,xK P Γ nt ops (p::l) K σ↔xK P Γ nt ops l K σ:=λl σ=>by simp only[xK,bf]
   have h2:=(e _ _).1 h1;exact Ap (λτ h=>(e _ _).2 h) h2
  | some op =>
   exact zht bf hi (hT op bf) (λτ τ' he hv=>I9 hE _ _ _ he hv) (λτ hv=>hN _ (Rl hR hK _ _ hv)) h1
theorem G7{ms:List Nat}{S:Nat->Prop}{p:Nat}:∀(es:List Edge),(∀e∈es,Region.binds .any e=true->S e.on) ->
  (∀k m,ms[k]? = some m->S k->m.testBit p=true->S p)->(AU ms es).testBit p=true->S p
 | [],_,_,h=>by simp[AU]at h
 | e::r,he,hm,h=>by
  have ih:=G7 (ms:=ms) (p:=p) r (λe' h'=>he e' (jS _ h')) hm;simp only[AU]at h;split at h;rename_i m hb hms;have hS:=he e kQ hb;rw[Nat.testBit_or,Nat.testBit_or,qdj,qdj]at h;rcases h with(h|h)|h
  rw [Nat.testBit_two_pow]at h;have:e.on=p:=qdk h;rw[<- this];exact hS;exact hm _ _ hms hS h;exact ih h;exact ih h
theorem Le{S:Nat->Prop}{p:Nat}(Ad:∀(k:Nat)(o:Oper),ops[k]? = some o->S k->∀e∈o.after,Region.binds .any e=true->S e.on):∀(l:List Oper)(ms:List Nat),(∀j,l[j]? = ops[ms.length+j]?) ->
  (∀(k:Nat)(o:Oper)(m:Nat),ops[k]? = some o->ms[k]? = some m->(∀e∈o.after,Region.binds .any e=true->S e.on)->m.testBit p=true->S p) ->
  ∀(k:Nat)(o:Oper)(m:Nat),ops[k]? = some o->(masks l ms)[k]? = some m->(∀e∈o.after,Region.binds .any e=true->S e.on)->m.testBit p=true->S p
 | [],ms,_,h=>h
 | o::r,ms,hl,h=>by
  have ho:ops[ms.length]? = some o:=by have:=hl 0;simpa using this.symm
  simp only[masks];refine Le Ad r (ms++[AU ms o.after.toList]) (λj=>by have:=hl (j+1);rw[Yn]at this;rw[this,N7];congr 1;simp;omega) ?_;intro k ok m hk hm he hb;rw[List.getElem?_append]at hm;split at hm;exact h k ok m hk hm he hb
  ·rename_i iw;have jD:k=ms.length:=by
    rcases qdX k (ms.length+1)with h1|h1
    omega;rw[qdh (by simp;omega)]at hm;cases hm
   subst jD;rw[ho]at hk;simp only[bQ]at hk;subst hk;simp only[Nat.sub_self,qdy,bQ]at hm;subst hm;refine G7 _ (λe h'=>he e (by simpa using h')) (λk' m' Ie hS mW=>?_) hb;have zto:k'<ms.length:=by
    rcases qdX k' ms.length with h1|h1
    exact h1;rw[qdh h1]at Ie;cases Ie
   cases fP:ops[k']? with
   | some ok'=>exact h k' ok' m' fP Ie (Ad k' ok' fP hS) mW
   | none =>
    have hlen:ms.length<ops.size:=by
     rcases qdX ms.length ops.size with h1|h1
     exact h1;rw[qjf h1]at ho;cases ho
    rw[jqf]at fP;omega
def xB(ms:List Nat)(log:List (Nat×Nat×Nat)):Prop:=uD ms log=true
theorem xB.sub{ms:List Nat}(l m:List (Nat×Nat×Nat))(h:∀x∈l,x∈m)(hm:xB ms m):xB ms l:=by
 simp only[xB,uD,Af]at hm ⊢;exact λx hx y hy=>hm x (h x hx) y (h y hy)
theorem xB.no{ms:List Nat}{log:List (Nat×Nat×Nat)}(h:xB ms log){p i:Nat}(hpi:p<i)(hb:∀m,ms[i]? = some m->m.testBit p=false):Dj log p i:=by
 intro L k m h1 h2;simp only[xB,uD,Af]at h;have:=h _ h1 _ h2;simp only[qdj,N8]at this;rcases this with((h3|h3)|h3)|h3
 rw[show Nat.blt p i=true from by simpa [qjb]using hpi]at h3;cases h3;rw[show Nat.beq L L=true from by simp]at h3;cases h3;exact h3;split at h3;rename_i m' Ie;rw[hb m' Ie]at h3;cases h3;cases h3
def Uh(ops:Array Oper)(listed:Array Bool):List Nat:=(List.range ops.size).filter λk=>!listed.getD k true
theorem FC{listed:Array Bool}:i∈Region.ready .any ops listed↔i∈Uh ops listed/\∃o,ops[i]? = some o/\∀e∈o.after,Region.binds .any e=true->listed.getD e.on false=true:=by
 simp only[Region.ready,Uh,Ue,gz];constructor
 ·rintro⟨h1,h2,h3⟩;refine⟨⟨h1,h2⟩,?_⟩;cases ho:ops[i]? with
  | none=>rw[ho]at h3;simp at h3
  | some o =>
   rw[ho]at h3;simp only[QA,qdE,qjZ,qdj,N8]at h3;refine⟨o,rfl,λe he hb=>?_⟩;rcases h3 e he with h|h
   rw[hb]at h;cases h;exact h
 ·rintro⟨⟨h1,h2⟩,o,ho,h3⟩;refine⟨h1,h2,?_⟩;rw[ho];simp only[QA,qdE,qjZ,qdj,N8];intro e he;cases hb:Region.binds .any e with|false=>exact .inl rfl|true=>exact .inr (h3 e he hb)
theorem Vz{listed:Array Bool}{i k:Nat}{b:Bool}:(listed.setIfInBounds i true).getD k b=if k=i/\k<listed.size then true else listed.getD k b:=by
 rw[xI,xI,qdV];by_cases h:i=k;subst h;by_cases hs:i<listed.size;simp[hs];simp[hs];rw[fF h,fF omY]
theorem znz{listed:Array Bool}(jH:listed.size=ops.size):Uh ops (listed.setIfInBounds i true)=(Uh ops listed).filter λk=>!(k==i):=by
 unfold Uh;rw[List.filter_filter];refine List.filter_congr λk hk=>?_;have hk:=NT.1 hk;rw[Vz];by_cases h:k=i;subst h;rw[eX ⟨rfl,omY⟩];simp;rw[fF (λh'=>h h'.1)];simp[h]
theorem znA(fP:jk P Γ){K:St→Prop}{D:List Nat}{a0:Act}{ad:List Deferred}(hD:∀(j:Nat)(o:Oper),ops[j]? = some o→∀t,o.dst=some t→t∈D)(hE:∀σ τ,Bh σ τ→K σ→K τ)(zaM:JL ops=true)(hT:AV ops (masks ops.toList [])=true)
    (hL:∀σ,K σ->xB (masks ops.toList []) σ.log) (hQ:∀σ',K σ'->∀g' a' w',bW P nt B w0 h0 g' σ' a' w'->Kp D a0 a'->a'.defers=ad->Q .normal a' w') :
    ∀(fuel:Nat)(listed:Array Bool)(σ:St)(g:Gh)(a:Act)(w:World),listed.size=ops.size->(Uh ops listed).length<=fuel ->
      (∀k o,ops[k]? = some o->listed.getD k false=true->∀e∈o.after,Region.binds .any e=true->listed.getD e.on false=true) ->
      xK P Γ nt ops (Uh ops listed) K σ->bW P nt B w0 h0 g σ a w->Kp D a0 a->a.defers=ad->wpAnyIn (FR r) n P .any ops Q fuel listed a w:=by
  -- if nothing is ready, nothing is left
  have stuck:∀listed:Array Bool,Region.ready .any ops listed=[]->Uh ops listed=[]:=by
    intro listed hr;cases hu:Uh ops listed with
    | nil=>rfl
    | cons i rest =>
      exfalso;have hi:i∈Uh ops listed:=by rw[hu];exact kQ
      have jH:i<ops.size:=NT.1 (Ue.1 hi).1;have Ic:(Uh ops listed).Pairwise (· < ·):=qjP _ jqu;have:i∈Region.ready .any ops listed:=by
        refine FC.2 ⟨hi,ops[i],qdC jH,λe he hb=>?_⟩;simp only[JL,Af]at zaM;have h1:=zaM i (NT.2 jH);rw[qdC jH]at h1;simp only[Af,qdj,N8]at h1;have h2:e.on<i:=by
          rcases h1 e (by simpa using he)with h|h
          rw[hb]at h;cases h;simpa [qjb]using h
        cases hl:listed.getD e.on false with
        | true=>rfl
        | false =>
          exfalso;have rH:e.on∈Uh ops listed\/listed.getD e.on true=true:=by
            cases hl2:listed.getD e.on true with|true=>exact .inr rfl|false=>exact .inl (Ue.2 ⟨NT.2 omY,by rw[hl2];rfl⟩)
          rw[hu]at rH Ic;rcases rH with rH|rH
          rcases kF.1 rH with h|h
          omega;have:=(qdz.1 Ic).1 _ h;omega
          · -- then it lies outside
            rw[xI]at hl rH;have EJ:listed[e.on]? = none:=by
              cases hx:listed[e.on]? with|none=>rfl|some b=>rw[hx]at hl rH;simp at hl rH;rw[hl]at rH;cases rH
            have hi2:listed.getD i true=true:=by
              rw[jqf]at EJ;rw[xI,qjf omY];rfl
            have:=(Ue.1 hi).2;rw[hi2]at this;cases this
      rw[hr]at this;simp at this
  intro fuel
  induction fuel with
  | zero =>
    intro listed σ g a w jH hf Ad hv S kN had;have zaJ:Uh ops listed=[]:=qdw omY;refine⟨?_,?_⟩
    · cases hr:Region.ready .any ops listed with
      | nil=>rfl
      | cons i l =>
        have:=(FC (i:=i) (ops:=ops) (listed:=listed)).1 (by rw[hr];exact kQ);rw[zaJ]at this;simp at this
    rw [zaJ]at hv;exact hQ σ hv g a w S kN had
  | succ fuel ih =>
    intro listed σ g a w jH hf Ad hv S kN had;refine⟨λhr=>?_,λi hi=>?_⟩;have zaJ:=stuck listed hr;rw[zaJ]at hv;exact hQ σ hv g a w S kN had;obtain⟨hu,oi,hoi,hed⟩:=FC.1 hi;have hil:i<ops.size:=NT.1 (Ue.1 hu).1;have Ic:(Uh ops listed).Pairwise (· < ·):=qjP _ jqu;obtain⟨l1,l2,hl⟩:=List.append_of_mem hu;rw[hl]at Ic hv;have iw:∀p∈l1,p<i:=λp hp=>(qdG.1 Ic).2.2 p hp i kQ;have TY:∀p∈l2,i<p:=λp hp=>(qdz.1 (qdG.1 Ic).2.1).1 p hp;have zLt:Uh ops (listed.setIfInBounds i true)=l1++l2:=by
      rw[znz jH,hl,List.filter_append,qd6];rw[fF (by simp),qjQ.2 λp hp=>by have:=iw p hp;simp;omega,qjQ.2 λp hp=>by have:=TY p hp;simp;omega]
    have bits:∀p∈l1,∀m,(masks ops.toList [])[i]? = some m->m.testBit p=false:=by
      intro p hp m hm;cases hb:m.testBit p with
      | false=>rfl
      | true =>
        exfalso;have:=Le (S:=λk=>listed.getD k false=true) (p:=p) (ops:=ops) (λk o ho hS=>Ad k o ho hS) ops.toList [] (λj=>by simp) (λk o m _ hm=>by simp at hm) i oi m hoi hm hed hb;have hpu:p∈Uh ops listed:=by rw[hl];exact dW.2 (.inl hp)
        have h2:=(Ue.1 hpu).2;rw[xI]at this h2;cases hx:listed[p]? with|none=>rw[hx]at this;simp at this|some b=>rw[hx]at this h2;simp at this h2;rw[this]at h2;cases h2
    have zw1:=PU hoi hE (R:=xB (masks ops.toList [])) xB.sub hL l1 σ (λp hp=>⟨λlog zPI=>zPI.no (iw p hp) (bits p hp),λop bf=>?_⟩) hv;refine zw0 fP hD zw1 S kN had fun σ' g' a' w' AC S' zdY zPJ => ?_;refine ih (listed.setIfInBounds i true) σ' g' a' w' (by simpa using jH) ?_ ?_ ?_ S' zdY zPJ;rw [zLt];rw[hl]at hf;simp only[N7,EN]at hf ⊢;omega;intro k o hk jZ e he hb;rw[Vz]at jZ ⊢;split at jZ;rename_i hki;rw[hki.1,hoi]at hk;simp only[bQ]at hk;subst hk;have:=hed e he hb;split;rfl;exact this;have:=Ad k o hk jZ e he hb;split;rfl;exact this;rw[zLt];exact AC
    · simp only [AV,Af]at hT;have h1:=hT i (NT.2 hil) p (NT.2 (iw p hp));rw[bf,hoi]at h1;cases hm:(masks ops.toList [])[i]? with
      | none=>rw[hm]at h1;simp at h1
      | some m =>
        rw[hm]at h1;simp only[qdj,N8]at h1;rcases h1 with h|h
        exact h;rw[bits p hp m hm]at h;cases h
theorem bW.drew(S:bW P nt B w0 h0 g σ a w):bW P nt B w0 h0 g σ a {w with drawn:=w.drawn+1}:=by
 refine {S with obj:=λL o h=>?_,below:=?_,hw:=S.hw,bs:=S.bs};have:=S.obj L o h;cases o<;>exact this;exact S.below.drew
theorem Y6(fP:jk P Γ){K:St→Prop}{D:List Nat}{a0:Act}(hD:∀(j:Nat)(o:Oper),ops[j]? = some o→∀t,o.dst=some t→t∈D)(kN:Kp D a0 a)(hm:P.follows .mixedOrders=true)(zaM:JL ops=true)(hT:AV ops (masks ops.toList [])=true)(hE:∀σ τ,Bh σ τ→K σ→K τ)
    (h:jV P Γ nt ops 0 ops.toList (λσ'=>match uD (masks ops.toList []) σ'.log with|true=>K σ'|false=>False) σ) (S:bW P nt B w0 h0 g σ a w)
    (hQ:∀σ',K σ'->∀g' a' w',bW P nt B w0 h0 g' σ' a' w'->Kp D a0 a'->a'.defers=a.defers->Q .normal a' w') {id:Nat}:(Code.region id ops true).wpIn (FR r) n P Q a w:=by
  refine wpIn_region_any hm ?_;have hE':∀σ τ:St,Bh σ τ->(match uD (masks ops.toList []) σ.log with|true=>K σ|false=>False)->(match uD (masks ops.toList []) τ.log with|true=>K τ|false=>False):=by
    intro σ τ he hσ;split at hσ;rename_i hl;have:xB (masks ops.toList []) τ.log:=xB.sub _ _ (λx hx=>(he.log x).2 hx) hl;rw[show uD (masks ops.toList []) τ.log=true from this];exact hE σ τ he hσ;exact hσ.elim
  have Ii:Uh ops (Array.replicate ops.size false)=List.range ops.size:=by
    unfold Uh;refine qjQ.2 λk hk=>?_;have:=NT.1 hk;simp[xI,this]
  refine znA fP hD (K:=λσ'=>match uD (masks ops.toList []) σ'.log with|true=>K σ'|false=>False) hE' zaM hT (λσ hσ=>?_) (λσ' hσ=>?_) ops.size _ σ g a _ (by simp) ?_ ?_ ?_ S.drew kN rfl;split at hσ
  assumption
  exact hσ.elim;split at hσ;exact hQ σ' hσ;exact hσ.elim;rw[Ii];simp;intro k o _ hk;rw[xI]at hk;by_cases hks:k<ops.size;simp[hks]at hk;rw[qjf (by simp;omega)]at hk;simp at hk;rw [Ii];have:=Y5 hE' ops.toList 0 σ (λj=>by simp) h;rw[qdp];simpa using this
end
end Go.Pm
