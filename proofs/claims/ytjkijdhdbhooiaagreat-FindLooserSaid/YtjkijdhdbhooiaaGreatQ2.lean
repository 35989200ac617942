/- Part 2 of what the proof rests on: a machine that runs functions of the program on pure values, proved sound; the functions that the law reaches, what they compute, and plain laws of that. -/
import Derived.Test.YtjkijdhdbhooiaaGreatQ1
import Derived.ChangeKeysEq
import Derived.MapKept
import Derived.Laws.Slices
import Derived.Laws.OwnMore
import Derived.Scope
set_option linter.all false
noncomputable section
namespace Go.Pm
variable [aJ]
open Go.RowKit (Below)

section
variable {P:Program}{Γ:aX}{nt B:Nat}{w0:World}{h0:Fz}{g:Gh}{σ:St}{a:Act}{w:World}{r:Option Nat}{n i:Nat}{Q:Exit->Act->World->Prop}

theorem zbY (σ : St) (i : Nat) (dst : Option Nat) (fp : List (Nat × Bool)) (d : DV) (u : List (Nat × AO)) (L : Nat) :
  σ.upd i dst fp d u [L]=⟨SV dst d (kills (fJ [L]) σ.env),u ++ kills (dV [L]) σ.aB,σ.log⟩:=by
 cases dst <;> rfl

theorem BC {t e : TypeId} {ty : TypeId} {ie : TypeInfo} {base m m' s : Nat} {v x : Value} {xs news : List Value} (hu : P.underlying t = some (.slice e)) (hi : P.info? e = some ie)
    {z:Value} (hz:ie.zero=some z) (hzs:z.cells.size=ie.size) (hs:ie.size=s) (hpos:0 < s) (hbase:base<=w.heap.size) (hown:w.ownsRow base e s v m xs) (hsrc:zwi w x m' s news)
    (hlen:m+m'<=9223372036854775807) (hbytes:(m+m') * ie.bytes<=140737488355328) :
    ∃ v' w',(Builtin.append_ #[t,t] ty #[v,x]).run P w=.ok v' w'/\w'.ownsRow base e s v' (m+m') (xs ++ news)/\GrB w w' v.ownBlock/\(v'.ownBlock=v.ownBlock\/v'.ownBlock=some w.heap.size) /\
      v'.oneCell'=true:=by
  have hvs:∃ ad c,v=.slice ad m c:=by
    rcases hown.2 with ⟨h1,h2⟩ | ⟨k,cap,cur,h1,_⟩
    · subst h2;exact⟨_,_,h1⟩
    · exact⟨_,_,h1⟩
  obtain⟨ad,c,hvs⟩:=hvs;rcases hsrc with ⟨rfl,hx | ⟨a',c',hx⟩,rfl⟩ | ⟨b,o,cap,hx,hl,hmem,h1⟩
  · subst hx;have hrun:=run_append_owned_none (P:=P) (w:=w) base t ty e ie s hu hi v m xs hown;refine⟨v,w,hrun,by simpa using hown,⟨⟨rfl,rfl,rfl,iZ _,λ _ _ _=>rfl⟩,iZ _⟩,.inl rfl,by rw[hvs];rfl⟩
  · subst hx
    obtain ⟨v', w', hrun, hown', hg, _⟩ := run_append_own (P := P) w base t ty e ie z s ie.bytes hu hi hz hs rfl (by rw [hzs, hs]) hpos v m xs hown a' 0 c' [] (by simp)
      (λ j u hj=>by simp at hj) (λ u hu=>by simp at hu) (by simp only[maxLen];omega) hbytes hbase
    refine⟨v',w',hrun,hown',⟨hg,Eo (eX _ _ _ _ hrun)⟩,?_,?_⟩
    · rw [hvs] at hrun;have:=yj (P:=P) (t:=t) (ty:=ty) w v' w' hrun;rw[hvs];cases ad <;> exact this
    · rcases hown'.2 with ⟨h1,_⟩ | ⟨k,cap,cur,h1,_⟩ <;> rw[h1] <;> rfl
  · subst hx
    obtain ⟨v', w', hrun, hown', hg, _⟩ := run_append_own (P := P) w base t ty e ie z s ie.bytes hu hi hz hs rfl (by rw [hzs, hs]) hpos v m xs hown ⟨b, o, none⟩ m' cap news hl
      (λ j u hj=>by rw[addr_add];exact hmem j u hj) h1 (by simp only[maxLen];omega) hbytes hbase
    refine⟨v',w',hrun,hown',⟨hg,Eo (eX _ _ _ _ hrun)⟩,?_,?_⟩
    · rw [hvs] at hrun;have:=yj (P:=P) (t:=t) (ty:=ty) w v' w' hrun;rw[hvs];cases ad <;> exact this
    · rcases hown'.2 with ⟨h1,_⟩ | ⟨k,cap,cur,h1,_⟩ <;> rw[h1] <;> rfl

theorem EO {t e : TypeId} {ty : TypeId} {ie : TypeInfo} {base m m' s : Nat} {v x : Value} {xs : List Value} {new : Nat → List PV} (hu : P.underlying t = some (.slice e)) (hi : P.info? e = some ie)
    {z:Value} (hz:ie.zero=some z) (hzs:z.cells.size=ie.size) (hs:ie.size=s) (hpos:0 < s) (hbase:base<=w.heap.size) (hown:w.ownsRow base e s v m xs) (hsrc:O7 g w x m' s new)
    (hlen:m+m'<=9223372036854775807) (hbytes:(m+m') * ie.bytes<=140737488355328) :
    ∃ v' w' news,(Builtin.append_ #[t,t] ty #[v,x]).run P w=.ok v' w'/\w'.ownsRow base e s v' (m+m') (xs ++ news)/\GrB w w' v.ownBlock/\(v'.ownBlock=v.ownBlock\/v'.ownBlock=some w.heap.size) /\
      v'.oneCell'=true/\news.length=m' * s/\∀ k,k < m'->RL (Rep g.h) (new k) ((news.drop (k * s)).take s):=by
  rcases hsrc with ⟨rfl,hx⟩ | ⟨b,o,cap,news,hx,hl,hmem,h1,hr⟩
  · obtain ⟨v', w', h⟩ := BC (P := P) (ty := ty) (news := []) hu hi hz hzs hs hpos hbase hown (.inl ⟨rfl, hx, rfl⟩) hlen hbytes;exact⟨v',w',[],h.1,h.2.1,h.2.2.1,h.2.2.2.1,h.2.2.2.2,by simp,λ k hk=>absurd hk (by omega)⟩
  · obtain ⟨v', w', h⟩ := BC (P := P) (ty := ty) (news := news) hu hi hz hzs hs hpos hbase hown (.inr ⟨b, o, cap, hx, hl, hmem, h1⟩) hlen hbytes;exact⟨v',w',news,h.1,h.2.1,h.2.2.1,h.2.2.2.1,h.2.2.2.2,hl,hr⟩

theorem zbZ {L e s b m m' : Nat} {get new : Nat → List PV} {v' : Value} {w' : World} {xs news : List Value} (hu : pq (appG m get new)) (hv0 : 0 < s ∧ ∃ i z, P.info? e = some i ∧ i.size = s ∧ i.bytes = b ∧ i.zero = some z ∧ z.cells.size = s)
    (hx:xs.length=m * s) (hr:∀ k,k < m->RL (Rep g.h) (get k) ((xs.drop (k * s)).take s)) (_hn:news.length=m' * s) (hrn:∀ k,k < m'->RL (Rep g.h) (new k) ((news.drop (k * s)).take s))
    (hown:w'.ownsRow B e s v' (m+m') (xs ++ news)):yc P (g.setSv L v') w' B L e s b (m+m') (appG m get new):=by
  refine⟨⟨hu,hv0.1⟩,hv0.2,xs ++ news,by rw[show (g.setSv L v').sv L=v' by simp[Gh.setSv]];exact hown,?_⟩;intro k hk;show RL (Rep g.h) (match Nat.ble m k with | true=>new (k - m) | false=>get k) _;cases hb:Nat.ble m k with
  | true =>
    have hmk:=Nat.le_of_ble_eq_true hb;have e:((xs ++ news).drop (k * s)).take s=(news.drop ((k - m) * s)).take s:=by
      rw[List.drop_append,show xs.drop (k * s)=[] from dqO (by rw[hx];exact KP s hmk),List.nil_append,hx,<- Nat.sub_mul]
    rw[e];exact hrn (k - m) (by omega)
  | false =>
    have hmk:k < m:=by
      have : ¬ m<=k:=λ h=>by rw[Nat.ble_eq_true_of_le h] at hb;cases hb
      omega
    have hle:k * s+s<=m * s:=by have:=KP s (Nat.succ_le_of_lt hmk);rw[Oj] at this;exact this
    have e:((xs ++ news).drop (k * s)).take s=(xs.drop (k * s)).take s:=by
      rw[List.drop_append_of_le_length (by omega),List.take_append_of_le_length (by simp;omega)]
    rw[e];exact hr k hmk

theorem Td {o : Oper} {args : Array Operand} {ts : Array TypeId} {A : aH} (S : bU P nt B w0 h0 g σ a w) (hd : dE nt o.dst = true) (hop : o.op = .call { callee := .builtin .append, args, argTypes := ts })
    (hA:act P Γ o (eH σ.env) (lk σ.aB)=A) (hs:A.safe):gV P nt B w0 h0 r n i o A σ a w Q:=by
  simp only[act,aAp,hop] at hA;split at hA
  · rename_i s x t t' hargs hts;split at hA
    · rename_i e dst hu htt hdst;have htt:=jb htt;subst htt;have ha:args = #[s,x]:=by rw[<- Array.toArray_toList (xs:=args),hargs]
      have ht:ts = #[t,t]:=by rw[<- Array.toArray_toList (xs:=ts),hts]
      subst ha ht;split at hA
      · rename_i ie z hi hz;obtain⟨zv,hzv,hzs⟩:=gI hz hi;have zb0:∀ (v':Value) (w':World),(Builtin.append_ #[t,t] o.type #[a.eval s,a.eval x]).run P w=.ok v' w'->(execOp a.eval o).run P w=.ok (.value v') w':=by
          intro v' w' h;refine fb hop ?_;simp only[builtin,fD,List.map_toArray,nG,List.map_nil,h,fM,iT]
        unfold KT at hA;split at hA
        · rename_i m sz new Yd hsrc;unfold zV at hsrc;have zb1:sz ≠ 0->O7 g w (a.eval x) m sz new:=by
            intro hsz;have hsz:0 < sz:=by omega
            split at hsrc
            · rename_i hx;simp only[bJ,eF] at hsrc;obtain⟨rfl,rfl,rfl,_⟩:=hsrc;exact zbX S hsz (iq S hx)
            · rename_i M hx;obtain⟨h1,_⟩:=gy S hx;split at hsrc
              · rename_i hM;simp only[bJ,eF] at hsrc;obtain⟨rfl,rfl,rfl,_⟩:=hsrc;rw[h1.1];exact zg1 (S.obj M _ hM)
              · rename_i hM;simp only[bJ,eF] at hsrc;obtain⟨rfl,rfl,rfl,_⟩:=hsrc;rw[h1.1];exact zbX S hsz (S.obj M _ hM).1
              · cases hsrc
            · cases hsrc
          have O8:pq new:=by
            split at hsrc
            · rename_i hx;simp only[bJ,eF] at hsrc;obtain⟨rfl,rfl,rfl,_⟩:=hsrc;exact (iq S hx).un.rows.2
            · split at hsrc
              · rename_i hM;simp only[bJ,eF] at hsrc;obtain⟨rfl,rfl,rfl,_⟩:=hsrc;exact (S.obj _ _ hM).1.1
              · rename_i hM;simp only[bJ,eF] at hsrc;obtain⟨rfl,rfl,rfl,_⟩:=hsrc;exact (S.obj _ _ hM).1.un.rows.2
              · cases hsrc
            · cases hsrc
          split at hA
          · rename_i L hsL;obtain⟨h1,_⟩:=gy S hsL;split at hA
            · rename_i e' s' b' m0 get hL;split at hA
              · rename_i hcond;obtain⟨rfl,rfl,rfl,zb2,hpos,_,hshape⟩:=hcond;subst hA;have hs':(m0+m) * ie.bytes<=140737488355328/\m0+m<=9223372036854775807:=hs;have hsz0:sz ≠ 0:=by omega
                have hsrc':=zb1 hsz0;rw[zb2] at hsrc';obtain⟨⟨Tf,hp⟩,hinfo,xs,hx,hr⟩:=S.obj L _ hL;obtain⟨v',w',news,hrun,hown',hg,hpl,hone,hnl,hrn⟩:=EO (P:=P) (ty:=o.type) hu hi hzv hzs rfl hp S.bs hx hsrc' hs'.2 hs'.1;rw[<- h1.1] at hrun;have hnz:nzG (get 0) (appG m0 get new)=appG m0 get new:=SG λ i=>by
                  unfold appG;split
                  · exact (Ee hshape (Tf 0 0) (O8 0 0)).trans (O8 0 _)
                  · exact Tf 0 _
                rw[hnz];have zbW:=zbZ (P:=P) (L:=L) (zgL Tf O8 (Ee hshape (Tf 0 0) (O8 0 0))) ⟨hp,hinfo⟩ hx.1 hr hnl hrn hown';have S':=S.grow (dst:=o.dst) hL hd hg (hpl.imp id .inl) zbW hone σ.log;refine lW (by simp[hop]) (zb0 v' w' hrun) ⟨g.setSv L v',σ.upd i o.dst ((L,true) :: Yd) (.cl (.vec L)) [(L,.vec e' ie.size ie.bytes (m0+m) (appG m0 get new))] [L],rfl,?_⟩;rw[zbY];exact S'
              · subst hA;exact hs.elim
            · subst hA;exact hs.elim
          · rename_i hsN;split at hA
            · rename_i hfresh;split at hA
              · rename_i hcond;obtain⟨zb2,hpos⟩:=hcond;subst hA;have hs':m * ie.bytes<=140737488355328/\m<=9223372036854775807:=hs;have hsrc':=zb1 (by omega);have hnil:a.eval s=.slice none 0 0:=by
                  have:=iq S hsN;generalize a.eval s=v at this;cases this;rfl
                obtain ⟨v', w', news, hrun, hown', hg, hpl, hone, hnl, hrn⟩ := EO (P := P) (ty := o.type) (base := w.heap.size) (m := 0) (v := .slice none 0 0) (xs := []) hu hi hzv hzs zb2.symm hpos (iZ _)
                  (World.ownsRow_nil w _ e sz) hsrc' (by omega) (by rw[Nat.zero_add];exact hs'.1)
                rw[<- hnil] at hrun;rw[Nat.zero_add,List.nil_append] at hown';have zwj:w'.ownsRow B e sz v' m news:=by
                  refine⟨hown'.1,?_⟩;rcases hown'.2 with h | ⟨k,cap,cur,h1,h2,h3⟩
                  · exact .inl h
                  · exact .inr ⟨k,cap,cur,h1,Bv S.bs h2,h3⟩
                have zbW:yc P (g.setSv dst v') w' B dst e sz ie.bytes m new:=by
                  refine⟨⟨O8,hpos⟩,⟨ie,zv,hi,zb2.symm,rfl,hzv,by rw[hzs,zb2]⟩,news,?_,hrn⟩;rw[show (g.setSv dst v').sv dst=v' by simp[Gh.setSv]];exact zwj
                have hold:∀ b,b < w.heap.size->w'.heap[b]? = w.heap[b]?:=λ b hb=>hg.block b hb (by simp[Value.ownBlock])
                have S' := S.newVec (t := dst) (w' := w') hfresh ⟨⟨hg.os, hg.tape, hg.output, hg.size, fun k hk => hold k (dqS hk S.bs)⟩, hg.drawn⟩ hold
                  (λ b hb=>(hown'.lt b hb).1) zbW
                refine lW (by simp[hop]) (zb0 v' w' hrun) ⟨g.setSv dst v',σ.upd i o.dst ((dst,true) :: Yd) (.cl (.vec dst)) [(dst,.vec e sz ie.bytes m new)] [],rfl,?_⟩;rw[eu];refine S'.put (v:=v') hd (d:=.cl (.vec dst)) ⟨by simp[Gh.setSv],hone⟩ ?_ _;intro L hL;simp[bY,cZ,bi] at hL;subst hL;exact⟨_,by rw[aV,if_pos rfl]⟩
              · subst hA;exact hs.elim
            · subst hA;exact hs.elim
          · subst hA;exact hs.elim
        · subst hA;exact hs.elim
      · subst hA;exact hs.elim
    · subst hA;exact hs.elim
  · subst hA;exact hs.elim
end
end Go.Pm
namespace Go.Pm
variable [aJ]
open Go.RowKit (Below)
open Go.MapKept (IsKey findNow_spec run_checkKey)

section
variable {P:Program}{w:World}

abbrev VI (xs:List Int):List Value:=xs.map (Value.int .i64)
def mkI (ag:Bool) (c:List Int):Value:=match ag with
 | true=>oO c
 | false=>.int .i64 (c.headD 0)

theorem mZ {t : TypeId} {ag : Bool} {n off : Nat} {xs : List Int} (hg : ig P t = some ag) (hs : mg P t = some n) (h1 : ag = false → n = 1) (hl : off + n ≤ xs.length) :
  (part t (VI xs).toArray off).run P w=.ok (mkI ag ((xs.drop off).take n)) w:=by
 cases ag with
 | true =>
  simp only[part,fD,kV hg,fM,if_true,run_sizeOf hs,iT];simp[mkI,oO,List.extract_toArray,List.extract_eq_take_drop,List.map_take,List.map_drop]
 | false =>
  have:=h1 rfl;subst this;have hlt:off < xs.length:=by omega
  simp only[part,fD,kV hg,fM,Bool.false_eq_true,if_false];rw[show (VI xs).toArray[off]? = some (.int .i64 xs[off]) by simp[hlt]];rw[dqR hlt];rfl

theorem take_split (xs:List Int) (m k r:Nat):(xs.drop m).take (k+r)=(xs.drop m).take k ++ (xs.drop (m+k)).take r:=by
 rw[List.take_add,List.drop_drop]
theorem V7 {a b c d:List Int}(h:a.length=b.length):decide (a ++ c=b ++ d)=(decide (a=b) && decide (c=d)):=by
 by_cases h1:a=b
 ·subst h1;simp
 ·have : ¬ (a ++ c = b ++ d) := fun e => h1 (List.append_inj e h).1;simp[h1,this]
theorem take_len {xs:List Int}{m k:Nat}(h:m+k<=xs.length):((xs.drop m).take k).length=k:=by
 rw[List.length_take,List.length_drop];omega

theorem qJ {d:Nat}{t:TypeId}{n:Nat}{ag:Bool}(h:ja P d t=some n) (hg:ig P t=some ag):ag=false->n=1:=by
 intro e;subst e;cases d with
 | zero=>simp[ja] at h
 | succ d =>
  simp only[ja] at h;split at h
  ·split at h
   ·split at h
    ·simp only[bJ] at h;exact h.symm
    ·cases h
   ·cases h
  ·rename_i hu;simp[ig,hu] at hg
  ·rename_i hu;simp[ig,hu] at hg
  ·cases h

def BD (P : Program) (d : Nat) : Option Nat → Field → Option Nat := fun acc f => match acc, f.name != "_", ja P d f.type, mg P f.type with
 | some m,true,some n,some n'=>match Nat.beq f.offset m && Nat.beq n n' with
  | true=>some (m+n)
  | false=>none
 | _,_,_,_=>none
theorem EP {d : Nat} : ∀ l : List Field, l.foldl (BD P d) none = none
  | []=>rfl
  | f :: l=>by rw[List.foldl_cons,show BD P d none f=none from rfl];exact EP l
theorem EQ {d : Nat} {f : Field} {l : List Field} {m n : Nat} (h : (f :: l).foldl (BD P d) (some m) = some n) :
  ∃ k, ja P d f.type = some k ∧ mg P f.type = some k ∧ f.name ≠ "_" ∧ f.offset = m ∧ l.foldl (BD P d) (some (m + k)) = some n := by
 rw[List.foldl_cons] at h;cases hs:BD P d (some m) f with
 | none=>rw[hs,EP] at h;cases h
 | some q =>
  rw[hs] at h;unfold BD at hs;split at hs
  ·rename_i m' k k' e1 e2 e3 e4;simp only[bJ] at e1;subst e1;split at hs
   ·rename_i hb;simp only[fE] at hb;have h1:=jb hb.1;have h2:=jb hb.2;simp only[bJ] at hs;subst hs;subst h2;exact⟨k,e3,e4,by simpa using e2,h1,h⟩
   ·cases hs
  ·cases hs

theorem JM {d : Nat} : ∀ (l : List Field) (m q : Nat), l.foldl (BD P d) (some m) = some q → m ≤ q ∧ ∀ f ∈ l, f.name ≠ "_" ∧ ∃ k, ja P d f.type = some k ∧ mg P f.type = some k ∧ f.offset + k ≤ q
  | [],m,q,h=>by
    simp only[List.foldl_nil,bJ] at h;subst h;exact⟨iZ _,λ f hf=>by simp at hf⟩
  | f :: l,m,q,h=>by
    obtain⟨k,h1,h2,h3,h4,h5⟩:=EQ h;obtain⟨h6,h7⟩:=JM l (m+k) q h5;refine⟨by omega,λ g hg=>?_⟩;rcases jf.1 hg with rfl | hg
    · exact⟨h3,k,h1,h2,by omega⟩
    · exact h7 g hg
theorem mG {d:Nat}{t:TypeId}{n:Nat}(h:ja P d t=some n):∃ ag,ig P t=some ag:=by
 cases d with
 | zero=>simp[ja] at h
 | succ d =>
  simp only[ja] at h;cases hu:P.underlying t with
  | none=>rw[hu] at h;cases h
  | some x=>unfold ig;rw[hu];exact⟨_,rfl⟩

theorem Dp:∀ (d:Nat) (t:TypeId) (n:Nat) (ag:Bool),ja P d t=some n->ig P t=some ag->∀ (e:Nat) (xs ys:List Int),xs.length=n->ys.length=n ->
  (Op.equalIn (d+e) t (mkI ag xs) (mkI ag ys)).run P w=.ok (decide (xs=ys)) w
 | 0,t,n,ag,h,_=>by simp[ja] at h
 | d+1,t,n,ag,h,hg=>by
  intro e xs ys hx hy;rw[show d+1+e=(d+e)+1 by omega];have h0:=h;simp only[ja] at h;split at h
  ·rename_i hu;have hag:ag=false:=by simp[ig,hu] at hg;exact hg
   subst hag;have hn:=qJ h0 hg rfl;subst hn
   match xs,ys,hx,hy with
   | [x],[y],_,_ =>
    simp only[mkI,List.headD_cons];rw[run_equalIn_int w (d+e) t .i64 .i64 x y hu];by_cases hxy:x=y <;> simp[hxy]
  ·rename_i fs hu;split at h
   ·cases h
   ·rename_i hst;have hag:ag=true:=by simp[ig,hu] at hg;exact hg
    subst hag;have hf:P.fieldsOf t=fs:=by simp[Program.fieldsOf,hu]
    simp only[mkI,oO];rw[run_equalIn_struct w (d+e) t _ _ (by rw[hf];exact hu) hst,hf]
    have key:∀ (l:List Field) (m q:Nat),l.foldl (BD P d) (some m)=some q->q<=xs.length->q<=ys.length ->
      m<=q/\(Op.eqFields (d+e) (VI xs).toArray (VI ys).toArray l).run P w=.ok (decide ((xs.drop m).take (q - m)=(ys.drop m).take (q - m))) w:=by
     intro l
     induction l with
     | nil =>
      intro m q hq _ _;simp only[List.foldl_nil,bJ] at hq;subst hq;exact⟨iZ _,by simp[Op.eqFields]⟩
     | cons f l ih =>
      intro m q hq hxl hyl;obtain⟨k,h1,h2,h3,h4,h5⟩:=EQ hq;obtain⟨hle,hr⟩:=ih (m+k) q h5 hxl hyl;obtain⟨ag',hag'⟩:=mG h1;have hk1:=qJ h1 hag';refine⟨by omega,?_⟩;have p1:=mZ (w:=w) (xs:=xs) (off:=m) hag' h2 hk1 (by omega);have p2:=mZ (w:=w) (xs:=ys) (off:=m) hag' h2 hk1 (by omega);have p3:=Dp d f.type k ag' h1 hag' e ((xs.drop m).take k) ((ys.drop m).take k) (take_len (by omega)) (take_len (by omega));rw[show q - m=k+(q - (m+k)) by omega,take_split,take_split,V7 (by rw[take_len (by omega),take_len (by omega)])];simp only[Op.eqFields,h3,ne_eq,not_false_eq_true,if_true,fD,h4,p1,p2,p3,fM];cases hd:decide (List.take k (List.drop m xs)=List.take k (List.drop m ys)) with
      | false=>simp
      | true=>simpa using hr
    have:=(key fs.toList 0 n h (by omega) (by omega)).2;rw[this];simp only[List.drop_zero,Nat.sub_zero];rw[List.take_of_length_le (by omega),List.take_of_length_le (by omega)]
  ·rename_i m0 e0 hu;split at h
   ·rename_i m m' hm hm';split at h
    ·rename_i hb;have hmm:=jb hb;subst hmm;simp only[bJ] at h;have hag:ag=true:=by simp[ig,hu] at hg;exact hg
     subst hag;obtain⟨ag',hag'⟩:=mG hm;have hk1:=qJ hm hag';obtain⟨i,hi,his⟩:∃ i,P.info? e0=some i/\i.size=m:=by
      unfold mg at hm';cases hi:P.info? e0 with
      | none=>rw[hi] at hm';cases hm'
      | some i=>rw[hi] at hm';simp only[Option.map_some,bJ] at hm';exact⟨i,rfl,hm'⟩
     have hc:P.cellsOf e0=m:=by simp[Program.cellsOf,hi,his]
     simp only[mkI,oO];rw[run_equalIn_array w (d+e) _ _ hu hi,hc,List.range_eq_range'];have key:∀ (k s:Nat),(s+k) * m<=xs.length->(s+k) * m<=ys.length->(Op.eqItems (d+e) e0 m (VI xs).toArray (VI ys).toArray (List.range' s k)).run P w=.ok (decide ((xs.drop (s * m)).take (k * m)=(ys.drop (s * m)).take (k * m))) w:=by
      intro k
      induction k with
      | zero=>intro s _ _;simp[Op.eqItems]
      | succ k ih =>
       intro s hxl hyl;have e1:(s+(k+1)) * m=s * m+(k+1) * m:=Nat.add_mul _ _ _;have e2:(k+1) * m=m+k * m:=by rw[Oj,Nat.add_comm]
       have e3:(s+1) * m=s * m+m:=Oj _ _;have hr:=ih (s+1) (by rw[show s+1+k=s+(k+1) by omega];exact hxl) (by rw[show s+1+k=s+(k+1) by omega];exact hyl);have p1:=mZ (w:=w) (xs:=xs) (off:=s * m) hag' hm' hk1 (by omega);have p2:=mZ (w:=w) (xs:=ys) (off:=s * m) hag' hm' hk1 (by omega);have p3:=Dp d e0 m ag' hm hag' e ((xs.drop (s * m)).take m) ((ys.drop (s * m)).take m) (take_len (by omega)) (take_len (by omega));rw[e2,take_split,take_split,V7 (by rw[take_len (by omega),take_len (by omega)])];rw[List.range'_succ];simp only[Op.eqItems,fD,p1,p2,p3,fM];rw[e3] at hr;cases hd:decide (List.take m (List.drop (s * m) xs)=List.take m (List.drop (s * m) ys)) with
       | false=>simp
       | true=>simpa using hr
     have:=key m0 0 (by rw[Nat.zero_add,h];omega) (by rw[Nat.zero_add,h];omega);rw[this];simp only[Nat.zero_mul,List.drop_zero,h];rw[List.take_of_length_le (by omega),List.take_of_length_le (by omega)]
    ·cases h
   ·cases h
  ·cases h

theorem rP:∀ (d:Nat) (t:TypeId) (n:Nat) (ag em:Bool),ja P d t=some n->ig P t=some ag->∀ (e:Nat) (xs:List Int),xs.length=n ->
  (Instr.checkKey em (d+e) t (mkI ag xs)).run P w=.ok () w
 | 0,t,n,ag,em,h,_=>by simp[ja] at h
 | d+1,t,n,ag,em,h,hg=>by
  intro e xs hx;rw[show d+1+e=(d+e)+1 by omega];have h0:=h;simp only[ja] at h;split at h
  ·rename_i hu;have hag:ag=false:=by simp[ig,hu] at hg;exact hg
   subst hag;simp only[mkI,Instr.checkKey,fD,run_underlying hu,fM,iT]
  ·rename_i fs hu;split at h
   ·cases h
   ·rename_i hst;have hag:ag=true:=by simp[ig,hu] at hg;exact hg
    subst hag;simp only[mkI,oO,Instr.checkKey,fD,run_underlying hu,fM];rw[<- Array.forIn_toList];have deep:=(JM fs.toList 0 n h).2;clear h h0;generalize fs.toList=L at deep
    induction L with
    | nil=>simp
    | cons f L ih =>
     obtain⟨hn,k,h1,h2,h3⟩:=deep f (by simp);obtain⟨ag',hag'⟩:=mG h1;have p1:=mZ (w:=w) (xs:=xs) (off:=f.offset) hag' h2 (qJ h1 hag') (by omega);have p3:=rP d f.type k ag' em h1 hag' e ((xs.drop f.offset).take k) (take_len (by omega));simp only[List.forIn_cons,fD,hn,ne_eq,not_false_eq_true,if_true,fM,p1,p3,iT];exact ih λ y hy=>deep y (by simp[hy])
  ·rename_i m0 e0 hu;split at h
   ·rename_i m m' hm hm';split at h
    ·rename_i hb;have hmm:=jb hb;subst hmm;simp only[bJ] at h;have hag:ag=true:=by simp[ig,hu] at hg;exact hg
     subst hag;obtain⟨ag',hag'⟩:=mG hm;have hk1:=qJ hm hag';simp only[mkI,oO,Instr.checkKey,fD,run_underlying hu,fM];simp only[Std.Legacy.Range.forIn_eq_forIn_range',Std.Legacy.Range.size,Nat.sub_zero,Nat.add_one_sub_one,Nat.div_one];have deep:∀ i∈List.range' 0 m0,i * m+m<=xs.length:=λ i hi=>by
      have hlt:i < m0:=by simp at hi;exact hi
      have:(i+1) * m<=m0 * m:=KP _ hlt;rw[Oj] at this;omega
     generalize List.range' 0 m0=is at deep
     induction is with
     | nil=>simp
     | cons i is ih =>
      have h3:=deep i (by simp);have p1:=mZ (w:=w) (xs:=xs) (off:=i * m) hag' hm' hk1 h3;have p3:=rP d e0 m ag' em hm hag' e ((xs.drop (i * m)).take m) (take_len h3);simp only[List.forIn_cons,fD,run_sizeOf hm',fM,p1,p3,iT];exact ih λ y hy=>deep y (by simp[hy])
    ·cases h
   ·cases h
  ·cases h

theorem Ti (kf:KF) (c:List Int):Instr.sameBits 10000 (dS kf c) (dS kf c)=true:=by
 cases kf with
 | one=>simp[dS,Instr.sameBits]
 | ints =>
  have key:∀ (l:List Int) (m:Nat),((VI l).zip (VI l)).all (λ (x,y)=>Instr.sameBits (m+1) x y)=true:=by
   intro l m
   induction l with
   | nil=>rfl
   | cons a l ih =>
    simp only[VI,nG,List.zip_cons_cons,List.all_cons,fE];exact⟨by simp[Instr.sameBits],ih⟩
  simp only[dS,oO,Instr.sameBits];simp only[beq_self_eq_true,Bool.true_and];exact key c 9998

theorem uF {k : TypeId} {kf : KF} {n : Nat} (h : KQ P k = some (kf, n)) :
  (kf=.ints/\ja P 8 k=some n/\ig P k=some true)\/(kf=.one/\ja P 8 k=some n/\ig P k=some false/\n=1):=by
 unfold KQ at h;split at h
 ·rename_i h1 h2;simp only[bJ,eF] at h;obtain⟨rfl,rfl⟩:=h;exact .inl ⟨rfl,h1,h2⟩
 ·rename_i h1 h2;split at h
  ·rename_i hb;simp only[bJ,eF] at h;obtain⟨rfl,rfl⟩:=h;exact .inr ⟨rfl,h1,h2,jb hb⟩
  ·cases h
 ·cases h
theorem Dq {k:TypeId}{kf:KF}{n:Nat}(h:KQ P k=some (kf,n)):kf=.one->n=1:=by
 rintro rfl;rcases uF h with ⟨e,_⟩ | ⟨_,_,_,h⟩
 ·cases e
 ·exact h
theorem znK {k : TypeId} {kf : KF} {n : Nat} (h : KQ P k = some (kf, n)) {xs ys : List Int} (hx : xs.length = n) (hy : ys.length = n) :
  (Op.equalIn 10000 k (dS kf xs) (dS kf ys)).run P w=.ok (decide (xs=ys)) w:=by
 rcases uF h with ⟨rfl,h1,h2⟩ | ⟨rfl,h1,h2,_⟩
 ·exact Dp (w:=w) 8 k n true h1 h2 9992 xs ys hx hy
 ·exact Dp (w:=w) 8 k n false h1 h2 9992 xs ys hx hy
theorem JO {k : TypeId} {kf : KF} {n : Nat} (em : Bool) (h : KQ P k = some (kf, n)) {xs : List Int} (hx : xs.length = n) :
  (Instr.checkKey em 10000 k (dS kf xs)).run P w=.ok () w:=by
 rcases uF h with ⟨rfl,h1,h2⟩ | ⟨rfl,h1,h2,_⟩
 ·exact rP (w:=w) 8 k n true em h1 h2 9992 xs hx
 ·exact rP (w:=w) 8 k n false em h1 h2 9992 xs hx

theorem uG {kt n:Nat}{ag:KF}(h:KQ P kt=some (ag,n)) {c:List Int}(hc:c.length=n):∀ (es:List MapEntry) (en:List (List Int×List Int)) (i:Nat),
  es.map (·.key)=en.map (λ x=>dS ag x.1)->(∀ x∈en,x.1.length=n) ->
   ((Instr.findAsking kt (dS ag c) es i).run P w=.ok none w/\∀ x∈en,x.1 ≠ c) \/
   ∃ (j:Nat) (e:MapEntry) (v:List Int),(Instr.findAsking kt (dS ag c) es i).run P w=.ok (some (i+j,e.val)) w/\es[j]? = some e/\en[j]? = some (c,v)
 | [],[],i,_,_=>.inl ⟨by simp[Instr.findAsking],by simp⟩
 | [],_ :: _,i,hk,_=>by simp at hk
 | _ :: _,[],i,hk,_=>by simp at hk
 | e :: es,(k,v) :: en,i,hk,hl=>by
  simp only[nG,Bq] at hk;have q:=znK (w:=w) h hc (hl _ kR);have q':(Op.equal kt (dS ag c) e.key).run P w=.ok (decide (c=k)) w:=by rw[hk.1];exact q
  by_cases hck:c=k
  ·subst hck;refine .inr ⟨0,e,v,?_,rfl,rfl⟩;simp only[Instr.findAsking,fD,q',fM,decide_true,if_true,iT,Nat.add_zero]
  ·rcases uG h hc es en (i + 1) hk.2 (fun x hx => hl x (je _ hx)) with ⟨h1, h2⟩ | ⟨j, e', v', h1, h2, h3⟩
   ·refine .inl ⟨?_, fun x hx => ?_⟩
    ·simp only [Instr.findAsking, fD, q', fM, hck, decide_false, Bool.false_eq_true, if_false];exact h1
    ·rcases jf.1 hx with rfl | hx
     ·exact λ e=>hck e.symm
     ·exact h2 x hx
   ·refine .inr ⟨j + 1, e', v', ?_, by simpa using h2, by simpa using h3⟩;simp only[Instr.findAsking,fD,q',fM,hck,decide_false,Bool.false_eq_true,if_false];rw[h1,show i+1+j=i+(j+1) by omega]

theorem run_findKey {kt n : Nat} {ag : KF} (h : KQ P kt = some (ag, n)) {c : List Int} (hc : c.length = n) (es : List MapEntry) (en : List (List Int × List Int))
    (hk : es.map (·.key) = en.map (fun x => dS ag x.1)) (hl : ∀ x ∈ en, x.1.length = n) :
      ((Instr.findKey kt (dS ag c) es).run P w=.ok none w/\∀ x∈en,x.1 ≠ c) \/
      ∃ (j:Nat) (e:MapEntry) (v:List Int),(Instr.findKey kt (dS ag c) es).run P w=.ok (some (j,e.val)) w/\es[j]? = some e/\en[j]? = some (c,v):=by
  by_cases hone:ag=.one
  · subst hone;have hn:=Dq h rfl;subst hn;have hu:P.underlying kt=some (.int .i64):=by
      obtain⟨h,hg⟩:ja P 8 kt=some 1/\ig P kt=some false:=by
        rcases uF h with ⟨e,_⟩ | ⟨_,h1,h2,_⟩
        · cases e
        · exact⟨h1,h2⟩
      simp only[ja] at h;split at h
      · assumption
      · rename_i hu;simp[ig,hu] at hg
      · rename_i hu;simp[ig,hu] at hg
      · cases h
    match c,hc with
    | [a],_ =>
      have hkeys:∀ x∈es,IsKey (.int .i64) x.key:=by
        intro x hx;have:x.key∈en.map (λ x=>dS .one x.1):=hk ▸ vC.2 ⟨x,hx,rfl⟩;obtain⟨y,_,hy⟩:=vC.1 this;rw[<- hy];exact VZ _
      have hat:∀ (j:Nat) (e:MapEntry),es[j]? = some e->∃ k v,en[j]? = some ([k],v)/\e.key=.int .i64 k:=by
        intro j e he;have h1:(es.map (·.key))[j]? = some e.key:=by simp[he]
        rw[hk] at h1;simp only[VJ,RZ] at h1;obtain⟨⟨k,v⟩,h2,h3⟩:=h1;have hkl:=hl _ (DW h2)
        match k,hkl with
        | [k0],_=>exact⟨k0,v,h2,h3.symm⟩
      simp only[dS,List.headD_cons];rcases findNow_spec (VZ a) es 0 hkeys with ⟨h1,h2⟩ | ⟨jj,e',h1,h2,h3⟩
      · refine .inl ⟨by simp only [Instr.findKey, fD, run_underlying hu, fM, h1, iT], fun x hx e => ?_⟩;obtain⟨j,hj⟩:=List.getElem?_of_mem hx;have hlen:es.length=en.length:=by have:=congrArg List.length hk;simpa using this
        have hjl:j < es.length:=by rw[hlen];exact (wW.1 hj).1
        obtain⟨k,v,h4,h5⟩:=hat j es[j] (zL hjl);rw[hj] at h4;simp only[bJ] at h4;rw[h4] at e;simp only[Bq,and_true] at e;subst e;exact h2 es[j] (List.getElem_mem hjl) h5
      · obtain ⟨k, v, h4, h5⟩ := hat jj e' h2;rw[h3] at h5;simp only[Value.int.injEq,true_and] at h5;subst h5;exact .inr ⟨jj,e',v,by simp only[Instr.findKey,fD,run_underlying hu,fM,h1,iT,Nat.zero_add],h2,h4⟩
  · have hg:ig P kt=some true:=by
      rcases uF h with ⟨_,_,h2⟩ | ⟨e,_⟩
      · exact h2
      · exact absurd e hone
    have hkv:∀ c:List Int,∃ l,dS ag c=.agg l:=λ c=>by
      cases ag with
      | one=>exact absurd rfl hone
      | ints=>exact⟨_,rfl⟩
    match es,en,hk with
    | [],[],_ =>
      refine .inl ⟨?_,by simp⟩;obtain⟨x,hu⟩:∃ x,P.underlying kt=some x:=by
        cases hu:P.underlying kt with
        | none=>simp[ig,hu] at hg
        | some x=>exact⟨x,rfl⟩
      simp only[Instr.findKey,fD,run_underlying hu,fM,Instr.findNow,iT]
    | [],_ :: _,hk=>simp at hk
    | _ :: _,[],hk=>simp at hk
    | e :: es,x :: en,hk =>
      have hke:e.key=dS ag x.1:=by simp only[nG,Bq] at hk;exact hk.1
      have hf:(Instr.findKey kt (dS ag c) (e :: es)).run P w=(Instr.findAsking kt (dS ag c) (e :: es)).run P w:=by
        obtain⟨y,hu⟩:∃ y,P.underlying kt=some y:=by
          cases hu:P.underlying kt with
          | none=>simp[ig,hu] at hg
          | some y=>exact⟨y,rfl⟩
        have hs:Instr.findNow y (dS ag c) (e :: es) 0=none:=by
          obtain⟨l1,e1⟩:=hkv c;obtain⟨l2,e2⟩:=hkv x.1;simp only[Instr.findNow,hke,e1,e2];have:Instr.sameNow y (.agg l1) (.agg l2)=none:=by
            cases y <;> rfl
          rw[this]
        simp only[Instr.findKey,fD,run_underlying hu,fM,hs]
      rw[hf];rcases uG (w:=w) h hc (e :: es) (x :: en) 0 hk hl with h1 | ⟨j,e',v,h1,h2,h3⟩
      · exact .inl h1
      · exact .inr ⟨j,e',v,by rw[h1,Nat.zero_add],h2,h3⟩

theorem ER {c : List Int} : ∀ {en : List (List Int × List Int)}, (∀ x ∈ en, x.1 ≠ c) → kK c en = none
  | [],_=>rfl
  | (k,v) :: r,h=>by
    simp only[kK];rw[if_neg (h _ kR)];exact ER λ x hx=>h x (je _ hx)
theorem ES {c v : List Int} : ∀ {en : List (List Int × List Int)} {j : Nat}, (en.map (·.1)).Nodup → en[j]? = some (c, v) → kK c en = some v
  | [],j,_,h=>by simp at h
  | (k,u) :: r,j,hn,h=>by
    simp only[nG,List.nodup_cons] at hn;simp only[kK];cases j with
    | zero=>simp at h;rw[if_pos h.1,h.2]
    | succ j =>
      simp only[SC] at h;rw[if_neg (λ e=>hn.1 (vC.2 ⟨_,DW h,e.symm⟩))];exact ES hn.2 h

end
end Go.Pm
namespace Go.Pm
variable [aJ]
open Go.RowKit (Below)

section
variable {P:Program}{Γ:aX}{nt B:Nat}{w0:World}{h0:Fz}{g:Gh}{σ:St}{a:Act}{w:World}{r:Option Nat}{n i:Nat}{Q:Exit->Act->World->Prop}

theorem zg3 (k:Option IntKind) (x:Int):gJ g (.p (zbD k x)) (cellV k x):=by
 cases k with
 | none=>exact .bool _
 | some k=>exact .int _ _
theorem zb4 (o : Option (List Int)) : ∀ (ks : List (Option IntKind)) (i : Nat), RL (gJ g) ((zns o i ks).map .p) (nI o i ks)
  | [],_=>trivial
  | k :: ks,i=>⟨zg3 k _,zb4 o ks (i+1)⟩
theorem znL {uj:Bool}{ks:List (Option IntKind)}{o:Option (List Int)}{d:D1}(h:zbE uj ks o=some d):wI g d (jH uj ks o):=by
 have hr:=zb4 (g:=g) o ks 0;unfold zbE at h;cases uj with
 | true =>
  simp only[bJ] at h;rw[<- h];exact⟨_,rfl,hr⟩
 | false =>
  split at h
  ·rename_i l e;cases e
  ·rename_i v _ e;simp only[bJ] at h;rw[<- h];rw[e] at hr;cases hc:nI o 0 ks with
   | nil=>rw[hc] at hr;exact hr.elim
   | cons x l=>rw[hc] at hr;simp only[jH,hc,List.headD_cons];exact hr.1
  ·cases h
theorem O9 {uj:Bool}{ks:List (Option IntKind)}{o:Option (List Int)}{d:D1}(h:zbE uj ks o=some d):cZ d=[]:=by
 unfold zbE at h;split at h
 ·simp only[bJ] at h;rw[<- h];exact kX _
 ·simp only[bJ] at h;rw[<- h];rfl
 ·cases h

def zlE (c:Cl) (acc:Option (List (Option IntKind))):Option (List (Option IntKind)):=match c,acc with
 | .p (.int k (.ofNat 0)),some l=>some (some k :: l)
 | .p (.bool false),some l=>some (none :: l)
 | _,_=>none
theorem xh : ∀ (vs : List Value) (cs : List Cl) (ks : List (Option IntKind)) (i : Nat), gZ vs = some cs → cs.foldr zlE (some []) = some ks → vs = nI none i ks
  | [],cs,ks,i,h1,h2=>by
    simp only[gZ,bJ] at h1;subst h1;simp only[List.foldr_nil,bJ] at h2;subst h2;rfl
  | v :: vs,cs,ks,i,h1,h2=>by
    simp only[gZ] at h1;split at h1
    · rename_i x l hx hl;simp only[bJ] at h1;subst h1;rw[List.foldr_cons] at h2;unfold zlE at h2;split at h2
      · rename_i k l' e1 e2;simp only[bJ] at h2;subst h2;simp only[Cl.p.injEq] at e1;rw[xh vs l l' (i+1) hl e2];have:v=.int k 0:=by
          rw[e1] at hx;unfold rF at hx;split at hx <;> simp at hx;obtain⟨rfl,rfl⟩:=hx;rfl
        rw[this];rfl
      · rename_i l' e1 e2;simp only[bJ] at h2;subst h2;simp only[Cl.p.injEq] at e1;rw[xh vs l l' (i+1) hl e2];have:v=.bool false:=by
          rw[e1] at hx;unfold rF at hx;split at hx <;> simp at hx;subst hx;rfl
        rw[this];rfl
      · cases h2
    · cases h1

structure zg4 (P : Program) (kt vt : Nat) (ag : KF) (m : Nat) (uj : Bool) (ks : List (Option IntKind)) : Prop where
  key:KQ P kt=some (ag,m)
  zero:∀ w,(zeroValue vt).run P w=.ok (jH uj ks none) w
  one:uj=false->ks.length=1
theorem Pg {kt vt:Nat}{ag:KF}{m:Nat}{uj:Bool}{ks:List (Option IntKind)}(h:D6 P kt vt=some (ag,m,uj,ks)):zg4 P kt vt ag m uj ks:=by
 unfold D6 at h;split at h
 ·rename_i ag' m' ks' zwk h1 h3 h4;have zero:∀ z,(P.info? vt).bind (·.zero)=some z->∀ w,(zeroValue vt).run P w=.ok z w/\z.cells.toList=nI none 0 ks':=by
   intro z hz w;unfold zbC at h3;split at h3
   ·rename_i zc hzc;obtain⟨i,v,hi,hv,ho,_⟩:=jB hzc;rw[hi] at hz;simp only[Option.bind_some,hv,bJ] at hz;subst hz;exact⟨jh hi hv,xh _ _ _ 0 ho h3⟩
   ·cases h3
  cases hb:(zwk || Nat.beq ks'.length 1) with
  | false=>rw[hb] at h;cases h
  | true =>
   rw[hb] at h;cases hz:(P.info? vt).bind (·.zero) with
   | none=>rw[hz] at h;cases h
   | some z =>
    rw[hz] at h;cases zwk with
    | true =>
     cases z with
     | agg cs =>
      simp only[bJ,eF] at h;obtain⟨rfl,rfl,rfl,rfl⟩:=h;refine⟨h1,λ w=>?_,λ e=>by cases e⟩;obtain⟨r1,r2⟩:=zero _ hz w;rw[r1];simp only[Value.cells] at r2;simp only[jH,<- r2]
     | _=>cases h
    | false =>
     have hlen:ks'.length=1:=by
      simp only[Bool.false_or] at hb;exact jb hb
     have fin:z.cells.toList=[z]->some (ag',m',false,ks')=some (ag,m,uj,ks)->zg4 P kt vt ag m uj ks:=by
      intro hcz h;simp only[bJ,eF] at h;obtain⟨rfl,rfl,rfl,rfl⟩:=h;refine⟨h1,λ w=>?_,λ _=>hlen⟩;obtain⟨r1,r2⟩:=zero _ hz w;rw[r1];rw[hcz] at r2;simp only[jH,<- r2,List.headD_cons]
     cases z with
     | agg cs=>cases h
     | _=>exact fin rfl h
 ·cases h

theorem zb5 {ag:KF}{m:Nat}{d:DV}{c:List Int}{v:Value}(h:zgE ag m d=some c) (hag:ag=.one->m=1) (hv:oJ g d v):v=dS ag c/\c.length=m:=by
 unfold zgE at h;split at h
 ·rename_i cs;split at h
  ·rename_i l hl;split at h
   ·rename_i hb;simp only[bJ] at h;subst h;obtain⟨vs,rfl,hr⟩:=hv;exact⟨by rw[V3 hl hr];rfl,jb hb⟩
   ·cases h
  ·cases h
 ·simp only [bJ] at h;subst h;cases hv;exact⟨rfl,(hag rfl).symm⟩
 ·cases h

theorem Dt : ∀ (ks : List (Option IntKind)) (cs : List Cl) (l : List Int) (vs : List Value) (pre : List Int), qx ks cs = some l → RL (gJ g) cs vs → vs = nI (some (pre ++ l)) pre.length ks
  | [],[],l,[],pre,h,_=>rfl
  | [],[],_,_ :: _,_,_,hr=>hr.elim
  | [],_ :: _,l,vs,pre,h,_=>by simp[qx] at h
  | k :: ks,[],l,vs,pre,h,_=>by cases k <;> simp[qx] at h
  | k :: ks,c :: cs,l,[],pre,h,hr=>hr.elim
  | k :: ks,c :: cs,l,v :: vs,pre,h,hr=>by
    unfold qx at h;split at h
    · rename_i e1 e2;cases e1
    · rename_i k' ks' k2 x r e1 e2;simp only[Bq] at e1 e2;obtain⟨rfl,rfl⟩:=e1;obtain⟨rfl,rfl⟩:=e2;split at h
      · rename_i hkk;subst hkk;split at h
        · rename_i l' hl';simp only[bJ] at h;subst h;have ih:=Dt ks cs l' vs (pre ++ [x]) hl' hr.2;have h1:=hr.1;cases h1;rw[show pre ++ [x] ++ l'=pre ++ x :: l' by simp,show (pre ++ [x]).length=pre.length+1 by simp] at ih;rw[ih];simp[nI,cellV,CJ]
        · cases h
      · cases h
    · rename_i ks' b r e1 e2;simp only[Bq] at e1 e2;obtain⟨rfl,rfl⟩:=e1;obtain⟨rfl,rfl⟩:=e2;split at h
      · rename_i l' hl';simp only[bJ] at h;subst h;have h1:=hr.1;cases h1;have ih:∀ y:Int,vs=nI (some (pre ++ y :: l')) (pre.length+1) ks:=λ y=>by
          have ih:=Dt ks cs l' vs (pre ++ [y]) hl' hr.2;rw[show pre ++ [y] ++ l'=pre ++ y :: l' by simp,show (pre ++ [y]).length=pre.length+1 by simp] at ih;exact ih
        rw[ih (match b with | true=>1 | false=>0)];cases b <;> simp[nI,cellV,CJ]
      · cases h
    · cases h

theorem zg5 {uj:Bool}{ks:List (Option IntKind)}{dv:D1}{l:List Int}{v:Value}(h:qx ks dv.cells=some l) (hag:dv.isAgg=uj) (hv:wI g dv v):v=jH uj ks (some l):=by
 subst hag;cases dv with
 | c x =>
  have:=Dt (g:=g) ks [x] l [v] [] h ⟨hv,trivial⟩;simp only[List.nil_append,SE] at this;simp only[D1.isAgg,jH,<- this,List.headD_cons]
 | agg cs =>
  obtain⟨vs,rfl,hr⟩:=hv;have:=Dt (g:=g) ks cs l vs [] h hr;simp only[List.nil_append,SE] at this;simp only[D1.isAgg,jH,<- this]

theorem V8 {kt vt m : Nat} {ag : KF} {uj : Bool} {ks : List (Option IntKind)} (E : zg4 P kt vt ag m uj ks) {es : Array MapEntry} {en : List (List Int × List Int)} (hen : es.toList.map (fun e => (e.key, e.val)) = en.map (fun x => (dS ag x.1, jH uj ks (some x.2))))
    (hl : ∀ x ∈ en, x.1.length = m) (hn : (en.map (·.1)).Nodup) {c : List Int} (hc : c.length = m) :
      ((Instr.findKey kt (dS ag c) es.toList).run P w=.ok none w/\kK c en=none/\∀ x∈en,x.1 ≠ c) \/
      ∃ (j:Nat) (e:MapEntry) (v:List Int),(Instr.findKey kt (dS ag c) es.toList).run P w=.ok (some (j,jH uj ks (some v))) w/\es[j]? = some e/\en[j]? = some (c,v)/\e.key=dS ag c/\kK c en=some v:=by
  have hk:es.toList.map (·.key)=en.map (λ x=>dS ag x.1):=by
    have:=congrArg (List.map Prod.fst) hen;simpa [List.map_map,Function.comp_def] using this
  rcases run_findKey (w:=w) E.key hc es.toList en hk hl with ⟨h1,h2⟩ | ⟨j,e,v,h1,h2,h3⟩
  · exact .inl ⟨h1,ER h2,h2⟩
  · have h4 : (es.toList.map (fun e => (e.key, e.val)))[j]? = some (e.key, e.val) := by simp [h2]
    rw[hen] at h4;simp only[VJ,h3,Option.map_some,bJ,eF] at h4;exact .inr ⟨j,e,v,by rw[h1,<- h4.2],by simpa using h2,h3,h4.1.symm,ES hn h3⟩

theorem Lp {kt vt:Nat}{q:MQ}(h:D6 P kt vt=some q):zg4 P kt vt q.1 q.2.1 q.2.2.1 q.2.2.2:=by
 obtain⟨ag,m,uj,ks⟩:=q;exact Pg h

def V9 (q:MQ) (ok:Bool) (o:Option (List Int)):Value :=
 match ok with
 | true=>.tuple #[jH q.2.2.1 q.2.2.2 o,.bool o.isSome]
 | false=>jH q.2.2.1 q.2.2.2 o
theorem Tj {t kt vt b : Nat} {q : MQ} {ok : Bool} {F : List Int → Option (List Int)} {k : Nat} {es : Array MapEntry} {clock : Nat} (hu : P.underlying t = some (.map kt vt)) (E0 : D6 P kt vt = some q)
    (hheap:w.heap[b]? = some (.map es clock)) (hm:moE q k F es clock) {c:List Int} (hc:c.length=q.2.1) :
    (Instr.lookup t (.map (some b)) (dS q.1 c) ok).run P w=.ok (V9 q ok (F c)) w:=by
  obtain⟨en,M⟩:=hm;have E:=Lp E0;have hck:=JO (P:=P) (w:=w) es.isEmpty E.key hc;rw[M.find c hc];rcases V8 (w:=w) E M.ents (λ x hx=>(M.len x hx).1) M.nodup hc with ⟨h1,h2,_⟩ | ⟨j,e,v,h1,_,_,_,h2⟩
  · rw [h2];simp only[Instr.lookup,fD,run_underlying hu,fM,MapKept.run_getObj_map hheap,iT,hck,h1,E.zero w];cases ok <;> rfl
  · rw [h2];simp only[Instr.lookup,fD,run_underlying hu,fM,MapKept.run_getObj_map hheap,iT,hck,h1];cases ok <;> rfl
theorem Yx {o : Oper} {t : TypeId} {x y : Operand} {q : MQ} {ok : Bool} {A : aH} {F : List Int → Option (List Int)} {fin : DV → aH} {fp : List (Nat × Bool)} (S : bU P nt B w0 h0 g σ a w) (hd : dE nt o.dst = true) (hop : o.op = .lookup t x y ok)
    (hA:found q (eH σ.env y) ok F fin=A) (hs:A.safe) (hone:q.1=.one->q.2.1=1)
    (hst:∀ d,(fin d).safe->kW (fin d) i o.dst σ (σ.upd i o.dst fp d [] []))
    (hrun:∀ c d,fin d=A->c.length=q.2.1->(Instr.lookup t (a.eval x) (dS q.1 c) ok).run P w=.ok (V9 q ok (F c)) w) :
    gV P nt B w0 h0 r n i o A σ a w Q:=by
  unfold found at hA;split at hA
  · rename_i c hc;obtain⟨hyv,hcl⟩:=zb5 hc hone (S.ev y);split at hA
    · rename_i d hdv;have hvd:=znL (g:=g) hdv;have hlab:=O9 hdv;cases ok with
      | true =>
        have hr:=hrun c _ hA hcl;subst hA;refine dD S hd (by simp[hop]) (d:=.tup [d,.c (.p (.bool (F c).isSome))]) (v:=V9 q true (F c)) (fp:=fp) (hst _ hs) ?_ ?_ ?_
        · simp only[execOp,hop,hyv,fD,hr,fM,iT]
        · exact⟨[_,_],rfl,hvd,.bool _,trivial⟩
        · intro M hM;rw[show bY (.tup [d,.c (.p (.bool (F c).isSome))])=cZ d ++ ([] ++ []) from rfl,hlab] at hM;simp at hM
      | false =>
        have hr:=hrun c _ hA hcl;subst hA;refine dD S hd (by simp[hop]) (d:=.one d) (v:=V9 q false (F c)) (fp:=fp) (hst _ hs) ?_ hvd ?_
        · simp only[execOp,hop,hyv,fD,hr,fM,iT]
        · intro M hM;simp[bY,hlab] at hM
    · subst hA;exact hs.elim
  · subst hA;exact hs.elim

theorem Tm {o : Oper} {t : TypeId} {x y : Operand} {ok : Bool} {A : aH} (S : bU P nt B w0 h0 g σ a w) (hd : dE nt o.dst = true) (hop : o.op = .lookup t x y ok)
    (hA:D8 P t (eH σ.env x) (eH σ.env y) ok (lk σ.aB)=A) (hs:A.safe):gV P nt B w0 h0 r n i o A σ a w Q:=by
  unfold D8 at hA;split at hA
  · rename_i kt vt L hu hx;split at hA
    · rename_i q kt' vt' q' k F hE hL;split at hA
      · rename_i hcond;obtain⟨rfl,rfl,rfl⟩:=hcond;have E:=Lp hE;obtain⟨hxv,_⟩:=gy S hx;have hxv:a.eval x=.map (some (lM (g.sv L))):=hxv;obtain⟨es,clock,hheap,_,hm⟩:=S.obj L _ hL;exact Yx (fp:=[(L,false)]) S hd hop hA hs (Dq E.key) (λ d _=>rfl) λ c d _ hc=>by rw[hxv];exact Tj hu hE hheap hm hc
      · subst hA;exact hs.elim
    · subst hA;exact hs.elim
  · subst hA;exact hs.elim

theorem JP {c : List Int} (v : List Int) : ∀ {en : List (List Int × List Int)}, kK c en = none → ∀ c', kK c' (en ++ [(c, v)]) = if c' = c then some v else kK c' en
  | [],_,c'=>by
    simp only[List.nil_append,kK];by_cases h:c=c'
    · subst h;simp
    · rw[if_neg h,if_neg (λ e=>h e.symm)]
  | (k,u) :: r,hn,c'=>by
    simp only[kK] at hn;split at hn
    · cases hn
    · rename_i hkc;simp only[List.cons_append,kK];by_cases h:k=c'
      · subst h;rw[if_pos rfl,if_pos rfl,if_neg hkc]
      · rw [if_neg h, if_neg h];exact JP v hn c'
theorem JR {c v v' : List Int} : ∀ {en : List (List Int × List Int)} {j : Nat}, (en.map (·.1)).Nodup → en[j]? = some (c, v) → ∀ c', kK c' (en.set j (c, v')) = if c' = c then some v' else kK c' en
  | [],j,_,h,_=>by simp at h
  | (k,u) :: r,j,hn,h,c'=>by
    simp only[nG,List.nodup_cons] at hn;cases j with
    | zero =>
      simp only[List.getElem?_cons_zero,bJ,eF] at h;obtain⟨rfl,rfl⟩:=h;simp only[List.set_cons_zero,kK];by_cases h:k=c'
      · subst h;simp
      · rw[if_neg h,if_neg (λ e=>h e.symm),if_neg h]
    | succ j =>
      simp only[SC] at h;have hkc:k ≠ c:=λ e=>hn.1 (vC.2 ⟨_,DW h,e.symm⟩);simp only[List.set_cons_succ,kK];by_cases h2:k=c'
      · subst h2;rw[if_pos rfl,if_pos rfl,if_neg hkc]
      · rw [if_neg h2, if_neg h2];exact JR hn.2 h c'
theorem We (c v:List Int) (F:List Int->Option (List Int)) (x:List Int):D7 c v F x=if x=c then some v else F x:=by
 unfold D7;by_cases h:x=c <;> simp[h]

theorem Ad : ∀ {ks : List (Option IntKind)} {cs : List Cl} {l : List Int}, qx ks cs = some l → l.length = ks.length
  | [],[],l,h=>by simp[qx] at h;subst h;rfl
  | [],_ :: _,l,h=>by simp[qx] at h
  | k :: ks,[],l,h=>by cases k <;> simp[qx] at h
  | k :: ks,c :: cs,l,h=>by
    unfold qx at h;split at h
    · rename_i e1 e2;cases e1
    · rename_i k' ks' k2 x r e1 e2;simp only[Bq] at e1 e2;obtain⟨rfl,rfl⟩:=e1;obtain⟨rfl,rfl⟩:=e2;split at h
      · split at h
        · rename_i l' hl';simp only[bJ] at h;subst h;simp[Ad hl']
        · cases h
      · cases h
    · rename_i ks' b r e1 e2;simp only[Bq] at e1 e2;obtain⟨rfl,rfl⟩:=e1;obtain⟨rfl,rfl⟩:=e2;split at h
      · rename_i l' hl';simp only[bJ] at h;subst h;simp[Ad hl']
      · cases h
    · cases h

theorem Yy {t kt vt b : Nat} {q : MQ} {F : List Int → Option (List Int)} {k : Nat} {es : Array MapEntry} {clock : Nat} (hu : P.underlying t = some (.map kt vt)) (E0 : D6 P kt vt = some q)
    (hheap:w.heap[b]? = some (.map es clock)) (hm:moE q k F es clock) {c:List Int} (hc:c.length=q.2.1) (l:List Int) (hll:l.length=q.2.2.2.length) :
    ∃ es' clock',(Instr.mapUpdate t (.map (some b)) (dS q.1 c) (jH q.2.2.1 q.2.2.2 (some l))).run P w=.ok () { w with heap:=w.heap.setIfInBounds b (.map es' clock') }/\moE q (addN (F c) k) (D7 c l F) es' clock':=by
  obtain⟨ag,m,uj,ks⟩:=q;obtain⟨en,h1',h2',hen,hl,hn,hF,hsz,hbo,hbn⟩:=hm;simp only at h1' h2' hen hl hn hF hc hll ⊢;have E:=Pg E0;have hck:=JO (P:=P) (w:=w) false E.key hc;rcases V8 (w:=w) E hen (λ x hx=>(hl x hx).1) hn hc with ⟨h1,h2,h3⟩ | ⟨j,e,v,h1,h2,h3,h4,h5⟩
  · refine ⟨es.push { key := dS ag c, val := jH uj ks (some l), born := clock }, clock + 1, ?_, en ++ [(c, l)], h1', h2', ?_, ?_, ?_, ?_, ?_, ?_, ?_⟩
    · simp only[Instr.mapUpdate,fD,run_underlying hu,fM,MapKept.run_getObj_map hheap,hck,h1,MapKept.run_setObj_map _ hheap]
    · rw[Array.toList_push,List.map_append,hen,List.map_append];rfl
    · intro x hx;rcases dL.1 hx with hx | hx
      · exact hl x hx
      · simp only[jM] at hx;subst hx;exact⟨hc,hll⟩
    · rw [List.map_append, List.nodup_append];refine⟨hn,by simp,λ a ha b hb e=>?_⟩;simp only[nG,List.map_nil,jM] at hb;obtain⟨x,hx,hxa⟩:=vC.1 ha;exact h3 x hx (by rw[hxa,e,hb])
    · intro c' hc';rw[We,JP l h2,hF c' hc']
    · rw[hF c hc,h2,hsz];simp[addN]
    · intro x hx;rw[Array.toList_push] at hx;rcases dL.1 hx with hx | hx
      · exact Nat.lt_succ_of_lt (hbo x hx)
      · simp only[jM] at hx;subst hx;exact Nat.lt_succ_self _
    · rw [Array.toList_push, List.map_append, List.nodup_append];refine⟨hbn,by simp,λ a ha b hb e=>?_⟩;simp only[nG,List.map_nil,jM] at hb;obtain⟨x,hx,hxa⟩:=vC.1 ha;have:=hbo x hx;omega
  · have hmod:(es.modify j λ e=>{ e with key:=dS ag c,val:=jH uj ks (some l) }).toList=es.toList.set j { e with key:=dS ag c,val:=jH uj ks (some l) }:=by
      rw[Array.toList_modify];have h2':es.toList[j]? = some e:=by simpa using h2
      obtain⟨hj,he⟩:=wW.1 h2';apply List.ext_getElem?;intro q;rw[List.getElem?_modify,List.getElem?_set];by_cases hq:j=q
      · subst hq;rw[h2'];have hj':j < es.size:=by simpa using hj
        simp[hj']
      · simp[hq]
    have hen':es.toList.map (λ e=>(e.key,e.val))=en.map (λ x=>(dS ag x.1,jH uj ks (some x.2))):=hen;refine⟨es.modify j λ e=>{ e with key:=dS ag c,val:=jH uj ks (some l) },clock,?_,en.set j (c,l),h1',h2',?_,?_,?_,?_,?_,?_,?_⟩
    · have hkey : ((es[j]?).map (·.key)).getD (dS ag c) = dS ag c := by rw [h2]; simp [h4]
      have hst:(Instr.keyThatStays (dS ag c) (dS ag c)).run P w=.ok (dS ag c) w:=by
        simp[Instr.keyThatStays,Ti]
      simp only[Instr.mapUpdate,fD,run_underlying hu,fM,MapKept.run_getObj_map hheap,hck,h1,hkey,hst,MapKept.run_setObj_map _ hheap]
    · rw[hmod,List.map_set,List.map_set,hen']
    · intro x hx;rcases List.mem_or_eq_of_mem_set hx with hx | rfl
      · exact hl x hx
      · exact⟨hc,hll⟩
    · rw [List.map_set];rw[show (en.map (·.1)).set j c=en.map (·.1) from ?_]
      · exact hn
      · have : (en.map (·.1))[j]? = some c := by simp [h3]
        obtain⟨hj,he⟩:=wW.1 this;apply List.ext_getElem?;intro q;rw[List.getElem?_set];by_cases hq:j=q
        · subst hq;rw[this];simp;simpa using hj
        · simp[hq]
    · intro c' hc';rw[We,JR hn h3,hF c' hc']
    · rw[hF c hc,h5,List.length_set,hsz];rfl
    · intro x hx;rw[hmod] at hx;rcases List.mem_or_eq_of_mem_set hx with hx | rfl
      · exact hbo x hx
      · exact hbo e (DW (by simpa using h2))
    · rw [hmod, List.map_set];rw[show (es.toList.map (·.born)).set j e.born=es.toList.map (·.born) from ?_]
      · exact hbn
      · have : (es.toList.map (·.born))[j]? = some e.born := by simp [h2]
        obtain⟨hj,he⟩:=wW.1 this;apply List.ext_getElem?;intro q;rw[List.getElem?_set];by_cases hq:j=q
        · subst hq;rw[this];simp;simpa using hj
        · simp[hq]

theorem Yz {o : Oper} {t : TypeId} {x y z : Operand} {A : aH} (S : bU P nt B w0 h0 g σ a w) (hd : dE nt o.dst = true) (hop : o.op = .mapUpdate t x y z)
    (hA:Oz P t (eH σ.env x) (eH σ.env y) (eH σ.env z) (lk σ.aB)=A) (hs:A.safe):gV P nt B w0 h0 r n i o A σ a w Q:=by
  unfold Oz at hA;split at hA
  · rename_i kt vt L hu hx;split at hA
    · rename_i q kt' vt' q' k F hE hL;split at hA
      · rename_i c dv hc hz;split at hA
        · rename_i l hl;split at hA
          · rename_i hcond;obtain⟨rfl,rfl,rfl,hag⟩:=hcond;subst hA;have E:=Lp hE;obtain⟨hxv,_⟩:=gy S hx;have hxv:a.eval x=.map (some (lM (g.sv L))):=hxv;obtain⟨hyv,hcl⟩:=zb5 hc (Dq E.key) (S.ev y);have hzv:a.eval z=jH q'.2.2.1 q'.2.2.2 (some l):=zg5 hl hag (by have:=S.ev z;rw[hz] at this;exact this);obtain⟨es,clock,hheap,_,hm⟩:=S.obj L _ hL;obtain⟨es',clock',hrun,hm'⟩:=Yy (P:=P) hu hE hheap hm hcl l (Ad hl);have hlt:=(RX.1 hheap).1;have hB:=(S.own L _ (lM (g.sv L)) hL rfl).1;refine Dl (by simp[hop]) (w':={ w with heap:=w.heap.setIfInBounds (lM (g.sv L)) (.map es' clock') }) ?_ ⟨g,_,rfl,?_⟩
            · simp only[execOp,hop,hxv,hyv,hzv,fD,hrun,fM,iT]
            · rw [eu];have hoth:∀ b,¬ (lM (g.sv L)=b)->(w.heap.setIfInBounds (lM (g.sv L)) (Obj.map es' clock'))[b]? = w.heap[b]?:=λ b hb=>by rw[Array.getElem?_setIfInBounds,if_neg hb]
              have S' := S.write (o' := .mo kt' vt' q' (addN (F c) k) (D7 c l F)) (w' := { w with heap := w.heap.setIfInBounds (lM (g.sv L)) (.map es' clock') }) hL (fun b hb => hb)
                (yt hB (by simp) (λ q hq=>hoth q λ e=>hq e.symm) rfl rfl rfl rfl) (λ b hb=>hoth b hb)
                ⟨es',clock',by show (w.heap.setIfInBounds (lM (g.sv L)) _)[lM (g.sv L)]? = _;simp[hlt],hE,hm'⟩ (λ M hM=>by simp[dJ] at hM)
              exact S'.put (d:=.junk) hd trivial (λ M hM=>by simp[bY,cZ,bi] at hM) _
          · subst hA;exact hs.elim
        · subst hA;exact hs.elim
      · subst hA;exact hs.elim
    · subst hA;exact hs.elim
  · subst hA;exact hs.elim

theorem bU.newMo (S : bU P nt B w0 h0 g σ a w) {t kt vt : Nat} {q : MQ} (ht : lk σ.aB t = none) (hE : D6 P kt vt = some q) :
  bU P nt B w0 h0 (g.setSv t (.map (some w.heap.size))) { σ with aB:=(t,.mo kt vt q 0 (λ _=>none)) :: σ.aB } a (w.alloc (.map #[] 0)):=by
 have hne:∀ L o,lk σ.aB L=some o->L ≠ t:=λ L o h e=>by subst e;rw[ht] at h;cases h
 have hsame:∀ L o,lk σ.aB L=some o->gG g (g.setSv t (.map (some w.heap.size))) L:=λ L o h=>⟨rfl,by simp[Gh.setSv,hne L o h],rfl⟩;have hold:∀ b,b < w.heap.size->(w.alloc (.map #[] 0)).heap[b]? = w.heap[b]?:=λ b hb=>heap_alloc_old w _ b hb;have hlk:∀ L o,lk ((t,AO.mo kt vt q 0 (λ _=>none)) :: σ.aB) L=some o->(L=t/\o=.mo kt vt q 0 (λ _=>none))\/(L ≠ t/\lk σ.aB L=some o):=by
  intro L o h;rw[aV] at h;split at h
  ·rename_i e;simp at h;exact .inl ⟨e.symm,h.symm⟩
  ·rename_i e;exact .inr ⟨λ e'=>e e'.symm,h⟩
 have fU:∀ L o b,lk σ.aB L=some o->fB (g.setSv t (.map (some w.heap.size))) L o b->fB g L o b:=λ L o b ho hob=>Eq.mp (congrFun (eU (hsame L o ho)) _) hob;refine S.change (g':=g.setSv t (.map (some w.heap.size))) hsame (λ _ _ h=>h) ?_ (λ b o h=>.inl h) (tN.of ⟨(Below.refl B w).alloc S.bs _,iZ _⟩) ?_ ?_ ?_ ?_ ?_
 ·exact S.hw.same λ b o h=>hold b (qF S.hw h)
 ·intro L o ho;rcases hlk L o ho with ⟨rfl,rfl⟩ | ⟨_,ho⟩
  ·have E := Lp hE;exact⟨#[],0,by rw[show lM ((g.setSv L (.map (some w.heap.size))).sv L)=w.heap.size by simp[Gh.setSv,lM]];exact heap_alloc_new w _,hE,[],Dq E.key,E.one,rfl,λ x hx=>by simp at hx,List.nodup_nil,λ c _=>rfl,rfl,λ e he=>by simp at he,by simp⟩
  ·refine iK (S.obj L o ho) (hsame L o ho) (fun M hM => ?_) (fun _ _ h => h) (fun b hob => hold b (gm (S.obj L o ho) hob));obtain⟨o',ho'⟩:=S.clO L o ho M hM;exact hsame M o' ho'
 ·intro L o b ho hob;rcases hlk L o ho with ⟨rfl,rfl⟩ | ⟨_,ho⟩
  ·simp [fB, Gh.setSv, lM] at hob; subst hob;refine⟨S.bs,?_⟩;cases hh:g.h w.heap.size with
   | none=>exact hh
   | some x=>exact absurd (qF S.hw hh) (by omega)
  ·exact S.own L o b ho (fU L o b ho hob)
 ·intro L o b L' o' ho ho' hob fO;rcases hlk L o ho with ⟨rfl,rfl⟩ | ⟨hn,ho2⟩ <;> rcases hlk L' o' ho' with ⟨rfl,rfl⟩ | ⟨hn',kD⟩
  ·rfl
  ·simp [fB, Gh.setSv, lM] at hob; subst hob;exact absurd (gm (S.obj L' o' kD) (fU _ _ _ kD fO)) (by omega)
  ·simp [fB, Gh.setSv, lM] at fO; subst fO;exact absurd (gm (S.obj L o ho2) (fU _ _ _ ho2 hob)) (by omega)
  ·exact S.sep L o b L' o' ho2 kD (fU _ _ _ ho2 hob) (fU _ _ _ kD fO)
 ·intro L o ho;refine⟨o,?_⟩;rw[aV,if_neg (λ e=>hne L o ho e.symm)];exact ho
 ·intro L o ho M hM;have fin:∀ M o,lk σ.aB M=some o->∃ o',lk ((t,AO.mo kt vt q 0 (λ _=>none)) :: σ.aB) M=some o':=λ M o h=>⟨o,by rw[aV,if_neg (λ e=>hne M o h e.symm)];exact h⟩;rcases hlk L o ho with ⟨rfl,rfl⟩ | ⟨_,ho⟩
  ·simp[dJ] at hM
  ·obtain⟨o',ho'⟩:=S.clO L o ho M hM;exact fin M o' ho'

theorem Tn {o : Oper} {t kt vt : TypeId} {q : MQ} {A : aH} (S : bU P nt B w0 h0 g σ a w) (hd : dE nt o.dst = true) (hop : o.op = .makeMap t none) (hE : D6 P kt vt = some q)
    (hA:zU (lk σ.aB) o.dst (.mo kt vt q 0 (λ _=>none)) (λ t=>.cl (.mo t))=A) (hs:A.safe):gV P nt B w0 h0 r n i o A σ a w Q:=by
  unfold zU at hA;split at hA
  · rename_i L hL;split at hA
    · rename_i hlk;subst hA;have S':=S.newMo (kt:=kt) (vt:=vt) hlk hE;refine lW (by simp[hop]) (v:=.map (some w.heap.size)) (w':=w.alloc (.map #[] 0)) ?_ ⟨g.setSv L (.map (some w.heap.size)),_,rfl,?_⟩
      · simp[execOp,hop,Instr.makeMap]
      · rw [eu];refine S'.put (σ:={ σ with aB:=(L,AO.mo kt vt q 0 (λ _=>none)) :: σ.aB }) hd (d:=.cl (.mo L)) ?_ ?_ _
        · simp[oJ,wI,gJ,Gh.setSv,lM]
        · intro M hM;simp[bY,cZ,bi] at hM;subst hM;exact⟨_,by rw[aV,if_pos rfl]⟩
    · subst hA;exact hs.elim
  · subst hA;exact hs.elim
end
end Go.Pm
namespace Go.Pm
variable [aJ]
open Go.RowKit (Below)

section
variable {P:Program}{Γ:aX}{nt B:Nat}{w0:World}{h0:Fz}{g:Gh}{σ:St}{a:Act}{w:World}{r:Option Nat}{n i:Nat}{Q:Exit->Act->World->Prop}

theorem zb6 {h : Fz} {n s l k : Nat} {get : Nat → List PV} {v : Value} (hr : Rep h (.sl n s get) v) (hl : l ≤ k) (hk : k ≤ n) :
  ∃ a len cap,v=.slice a len cap/\len=n/\len<=cap/\Rep h (.sl (k - l) s (slG get l)) (sliced a l k cap s):=by
 have hu:pq get:=hr.un.rows.2;cases hr with
 | sl0=>exact⟨none,0,0,rfl,rfl,iZ _,by
   obtain rfl:k=0:=by omega
   obtain rfl:l=0:=by omega
   exact .sl0 _ _ (rG hu _)⟩
 | sle _ _ a cap=>exact⟨some a,0,cap,rfl,rfl,Nat.zero_le _,by
   obtain rfl:k=0:=by omega
   obtain rfl:l=0:=by omega
   unfold sliced;split
   ·exact .sle _ _ _ _ (rG hu _)
   ·exact .sle _ _ _ _ (rG hu _)⟩
 | sl _ _ _ _ b o cap C ty fr vs hb hcap hlen hc hr =>
  refine⟨_,n,cap,rfl,rfl,hcap,?_⟩;unfold sliced;by_cases hkl:k - l=0
  ·rw [hkl];split
   ·exact .sle _ _ _ _ (rG hu _)
   ·exact .sle _ _ _ _ (rG hu _)
  ·rw [if_neg (by omega)];simp only[Option.map_some,addr_add];refine .sl (k - l) s (slG get l) (rG hu _) b (o+l * s) (cap - l) C ty fr (λ i=>vs (i+l)) hb (by omega) (λ i hi=>hlen (i+l) (by omega)) (λ i j x hi hj=>?_) (λ i j x hi hj=>hr (i+l) j x (by omega) hj);have:=hc (i+l) j x (by omega) hj;rw[Nat.add_mul] at this;rw[show o+l * s+i * s+j=o+(i * s+l * s)+j by omega];exact this

theorem Ph (S:bU P nt B w0 h0 g σ a w){x:Option Operand}{j:Option Int}(h:zT (eH σ.env) x=some j):(j=none/\x.map a.eval=none)\/∃ k q,j=some q/\x.map a.eval=some (.int k q):=by
 cases x with
 | none=>simp only[zT,bJ] at h;exact .inl ⟨h.symm,rfl⟩
 | some x =>
  simp only[zT] at h;split at h
  ·rename_i k q hx;simp only[bJ] at h;exact .inr ⟨k,q,h.symm,by rw[Option.map_some,iQ S hx]⟩
  ·cases h

theorem YA {o : Oper} {t : TypeId} {x : Operand} {lo hi : Option Operand} {A : aH} (S : bU P nt B w0 h0 g σ a w) (hd : dE nt o.dst = true) (hop : o.op = .slice t x lo hi none)
    (hA:xX P t (eH σ.env x) (zT (eH σ.env) lo) (zT (eH σ.env) hi)=A) (hs:A.safe):gV P nt B w0 h0 r n i o A σ a w Q:=by
  unfold xX at hA;split at hA
  · rename_i e m s get lo' hi' hu hx hlo hhi;split at hA
    · rename_i q hq;split at hA
      · rename_i hb;have hsq:=jb hb;subst hsq;subst hA;obtain⟨h1,h2,h3⟩:0<=lo'.getD 0/\lo'.getD 0<=hi'.getD (m:Int)/\hi'.getD (m:Int)<=(m:Int):=hs;have hv:=iq S hx;obtain⟨ad,len,cap,hav,hlen,hcap,hr⟩:=zb6 (l:=(lo'.getD 0).toNat) (k:=(hi'.getD (m:Int)).toNat) hv (by omega) (by omega);subst hlen;have hue:P.underlying t=some (.slice (P.elem t)):=by simp[Program.elem,hu]
        have hel:P.elem t=e:=by simp[Program.elem,hu]
        have hsz:=run_sizeOf (w:=w) hq;have hrun:(Instr.slice t (a.eval x) (lo.map a.eval) (hi.map a.eval) none).run P w=.ok (sliced ad (lo'.getD 0).toNat (hi'.getD (len:Int)).toNat cap s) w:=by
          rw[hav,run_slice_any w t ad len cap hue,hel];have hb:(Instr.sliceBounds true len cap (lo.map a.eval) (hi.map a.eval) none).run P w=.ok ((lo'.getD 0).toNat,(hi'.getD (len:Int)).toNat,cap) w:=by
            rcases Ph S hlo with ⟨rfl,e1⟩ | ⟨k1,q1,rfl,e1⟩ <;> rcases Ph S hhi with ⟨rfl,e2⟩ | ⟨k2,q2,rfl,e2⟩ <;> rw[e1,e2] <;> simp only[Option.getD_some,Option.getD_none] at h1 h2 h3 ⊢
            · simp[Instr.sliceBounds]
            · simp[Instr.sliceBounds,run_sliceBound w k2 q2 cap _ (by omega) (by omega)]
            · simp[Instr.sliceBounds,run_sliceBound w k1 q1 len _ (by omega) (by omega)]
            · simp[Instr.sliceBounds,run_sliceBound w k2 q2 cap _ (by omega) (by omega),run_sliceBound w k1 q1 q2.toNat _ (by omega) (by omega)]
          rw[hb];simp only[fM,hsz]
        refine dD S hd (by simp[hop]) (d:=.p (.sl (hi'.getD (len:Int) - lo'.getD 0).toNat s (slG get (lo'.getD 0).toNat))) (v:=sliced ad (lo'.getD 0).toNat (hi'.getD (len:Int)).toNat cap s) (fp:=[]) rfl ?_ ?_ (iV _)
        · simp[execOp,hop,Instr.sliceAt,run_underlying hu,hrun]
        · rw [show (hi'.getD (len : Int) - lo'.getD 0).toNat = (hi'.getD (len : Int)).toNat - (lo'.getD 0).toNat by omega];exact hr
      · subst hA;exact hs.elim
    · subst hA;exact hs.elim
  · subst hA;exact hs.elim
end
end Go.Pm
namespace Go.Pm
variable [aJ]
open Go.RowKit (Below)

section
variable {P:Program}{Γ:aX}{nt B:Nat}{w0:World}{h0:Fz}{g:Gh}{σ:St}{a:Act}{w:World}{r:Option Nat}{n i:Nat}{Q:Exit->Act->World->Prop}

theorem bU.newObj (S : bU P nt B w0 h0 g σ a w) {t : Nat} {o : AO} {g' : Gh} {w' : World} (ht : lk σ.aB t = none) (hh : g'.h = g.h) (hs : ∀ M, M ≠ t → gG g g' M)
    (hb:Ep B w w') (hold:∀ b,b < w.heap.size->w'.heap[b]? = w.heap[b]?) (hv:∀ b,fB g' t o b->w.heap.size<=b) (hlab:dJ o=[]) (hr:IX P g' w' B t o) :
    bU P nt B w0 h0 g' { σ with aB:=(t,o) :: σ.aB } a w':=by
  have hne:∀ L o,lk σ.aB L=some o->L ≠ t:=λ L o h e=>by subst e;rw[ht] at h;cases h
  have hsame:∀ L o,lk σ.aB L=some o->gG g g' L:=λ L o h=>hs L (hne L o h);have hlk:∀ L x,lk ((t,o) :: σ.aB) L=some x->(L=t/\x=o)\/(L ≠ t/\lk σ.aB L=some x):=by
    intro L x h;rw[aV] at h;split at h
    · rename_i e;simp at h;exact .inl ⟨e.symm,h.symm⟩
    · rename_i e;exact .inr ⟨λ e'=>e e'.symm,h⟩
  have fU:∀ L o b,lk σ.aB L=some o->fB g' L o b->fB g L o b:=λ L o b ho hob=>Eq.mp (congrFun (eU (hsame L o ho)) _) hob;have hle:iP g.h g'.h:=by rw[hh];exact λ _ _ h=>h
  refine S.change (g':=g') hsame hle ?_ (λ b o h=>by rw[hh] at h;exact .inl h) (.of hb) ?_ ?_ ?_ ?_ ?_
  · rw[hh];exact S.hw.same λ b o h=>hold b (qF S.hw h)
  · intro L x hx;rcases hlk L x hx with ⟨rfl,rfl⟩ | ⟨_,hx⟩
    · exact hr
    · refine iK (S.obj L x hx) (hsame L x hx) (fun M hM => ?_) hle (fun b hob => hold b (gm (S.obj L x hx) hob));obtain⟨o',ho'⟩:=S.clO L x hx M hM;exact hsame M o' ho'
  · intro L x b' hx hob;rcases hlk L x hx with ⟨rfl,rfl⟩ | ⟨_,hx⟩
    · have h1 := hv b' hob;refine⟨Bv S.bs h1,?_⟩;rw[hh];cases hq:g.h b' with
      | none=>rfl
      | some x=>exact absurd (qF S.hw hq) (by omega)
    · rw[hh];exact S.own L x b' hx (fU L x b' hx hob)
  · intro L x b' L' x' hx hx' hob fO;rcases hlk L x hx with ⟨rfl,rfl⟩ | ⟨hn,hx2⟩ <;> rcases hlk L' x' hx' with ⟨rfl,rfl⟩ | ⟨hn',SX⟩
    · rfl
    · have := hv b' hob;exact absurd (gm (S.obj L' x' SX) (fU _ _ _ SX fO)) (by omega)
    · have := hv b' fO;exact absurd (gm (S.obj L x hx2) (fU _ _ _ hx2 hob)) (by omega)
    · exact S.sep L x b' L' x' hx2 SX (fU _ _ _ hx2 hob) (fU _ _ _ SX fO)
  · intro L o ho;refine⟨o,?_⟩;rw[aV,if_neg (λ e=>hne L o ho e.symm)];exact ho
  · intro L x hx M hM;rcases hlk L x hx with ⟨rfl,rfl⟩ | ⟨_,hx⟩
    · rw[hlab] at hM;simp at hM
    · obtain ⟨o', ho'⟩ := S.clO L x hx M hM;exact⟨o',by rw[aV,if_neg (λ e=>hne M o' ho' e.symm)];exact ho'⟩

theorem JS {z:Array Value}{s m i:Nat}(hz:z.size=s) (hi:i < m):((madeCells z (m * s)).toList.drop (i * s)).take s=z.toList:=by
 have hii:i * s+s<=m * s:=by have:=KP s (Nat.succ_le_of_lt hi);rw[Oj] at this;exact this
 apply List.ext_getElem?;intro j;rw[C9];split
 ·rename_i hj;rw[dqI];have:(madeCells z (m * s)).toList[i * s+j]? = some z[(i * s+j) % z.size]!:=by
   simp only[madeCells,Array.toList_map,VJ];rw[Array.toList_range,List.getElem?_range (by omega)];rfl
  rw[this,hz,Nat.mul_comm i s,Nat.mul_add_mod,Nat.mod_eq_of_lt hj];have hj':j < z.size:=by omega
  simp[hj']
 ·rename_i hj;rw[dqM (by simp;omega)]

theorem Jb {o : Oper} {t : TypeId} {x y : Operand} {A : aH} (S : bU P nt B w0 h0 g σ a w) (hd : dE nt o.dst = true) (hop : o.op = .makeSlice t x y)
    (hA:oM P Γ t (eH σ.env x) (eH σ.env y) o.dst (lk σ.aB)=A) (hs:A.safe):gV P nt B w0 h0 r n i o A σ a w Q:=by
  unfold oM at hA;split at hA
  · rename_i e k1 j k2 j2 dst hu hx hy hdst;split at hA
    · rename_i ie z hi hz hfresh;obtain⟨i',zv,hi2,hzv,hov,hlen⟩:=jB hz;rw[hi] at hi2;simp only[bJ] at hi2;subst hi2;have hzs:zv.cells.size=ie.size:=by have:=(iY (g:=g) _ _ hov).length;simp at this;omega
      have hxv:=iQ S hx;have hyv:=iQ S hy
      have made:∀ (hs:0<=j/\j=j2/\j<=1000000) (hbytes:ie.bytes<=1000000),∃ w',(execOp a.eval o).run P w=.ok (.value (.slice (some ⟨w.heap.size,0,none⟩) j.toNat j.toNat)) w' /\
          w'.ownsRow B e ie.size (.slice (some ⟨w.heap.size,0,none⟩) j.toNat j.toNat) j.toNat (madeCells zv.cells (j.toNat * ie.size)).toList/\Ep B w w'/\∀ b,b < w.heap.size->w'.heap[b]? = w.heap[b]?:=by
        intro hs hbytes;obtain⟨h0,rfl,h1⟩:=hs;have hj:j=((j.toNat:Nat):Int):=by omega
        have hmul:ie.bytes * j.toNat<=281474976710656:=Bv (Nat.mul_le_mul hbytes (show j.toNat<=1000000 by omega)) (by decide);obtain⟨w',hr,hown,hg⟩:=run_make_full (P:=P) w B t e ie zv ie.size hu hi hzv rfl k1 k2 j.toNat hmul (by simp only[maxLen];omega) S.bs;refine⟨w',?_,hown,⟨⟨hg.os,hg.tape,hg.output,hg.size,λ k hk=>hg.block k (dqS hk S.bs) (by simp)⟩,Eo (eX _ _ _ _ hr)⟩,λ b hb=>hg.block b hb (by simp)⟩;rw[<- hj] at hr;simp only[execOp,hop,hxv,hyv,fD,hr,fM,iT]
      split at hA
      · split at hA
        · rename_i e2 hue;split at hA
          · rename_i i2 z2 zwl hz2' hcond;simp only[fE,Nat.ble_eq] at hcond;have hs1:=jb hcond.1;split at hA
            · rename_i l2 hl2 hb2;have zb7:0 < i2.size:=Nat.lt_of_succ_le (Nat.le_of_ble_eq_true hb2);subst hA;obtain⟨w',hrun,hown,hbel,hold⟩:=made hs hcond.2;obtain⟨i3,zv2,hi3,zDA,zDB,hlen2⟩:=jB hz2';rw[zwl] at hi3;simp only[bJ] at hi3;subst hi3;have znN:zv2.cells.size=i2.size:=by have:=(iY (g:=g) _ _ zDB).length;simp at this;omega
              have hsv:(g.setVv dst (.slice (some ⟨w.heap.size,0,none⟩) j.toNat j.toNat) (λ _=>.slice none 0 0)).sv dst=.slice (some ⟨w.heap.size,0,none⟩) j.toNat j.toNat:=by simp[Gh.setVv]
              have hiv:(g.setVv dst (.slice (some ⟨w.heap.size,0,none⟩) j.toNat j.toNat) (λ _=>.slice none 0 0)).iv dst=λ _=>.slice none 0 0:=by simp[Gh.setVv]
              have hz1:zv.cells.toList=[.slice none 0 0]:=by
                match hl:zv.cells.toList,hov with
                | [],h=>simp[gZ] at h
                | [v],h =>
                  simp only[gZ] at h;split at h
                  · rename_i x' l' h1 h2;simp only[bJ] at h2;subst h2;simp only[bJ,Bq,Cl.p.injEq,and_true] at h;subst h;unfold rF at h1;split at h1 <;> simp at h1;rfl
                  · cases h
                | v :: u :: l,h =>
                  simp only[gZ] at h;split at h
                  · rename_i x' l' h1 h2;simp only[bJ,Bq] at h;obtain⟨_,rfl⟩:=h;split at h2
                    · simp at h2
                    · cases h2
                  · cases h
              have S2 := S.newObj (t := dst) (o := .vv e ie.bytes e2 i2.size i2.bytes j.toNat (fun _ => 0) (fun _ _ => l2)) (g' := g.setVv dst (.slice (some ⟨w.heap.size, 0, none⟩) j.toNat j.toNat) (fun _ => .slice none 0 0)) (w' := w')
                hfresh rfl (λ M hM=>⟨rfl,by simp[Gh.setVv,hM],by simp[Gh.setVv,hM]⟩) hbel hold (λ b hb=>by
                  rcases hb with hb | ⟨i,_,hb⟩
                  · rw[hsv] at hb;simp only[Value.ownBlock,bJ] at hb;omega
                  · rw[hiv] at hb;cases hb) rfl (by
                refine⟨⟨λ _ _ _ _=>Dj hz2' hl2,zb7⟩,⟨ie,zv,hi,hs1,rfl,hzv,by rw[hzs,hs1]⟩,⟨i2,zv2,zwl,rfl,rfl,zDA,znN⟩,?_,λ i hi'=>?_,λ i k _ h=>?_⟩
                rotate_left
                · rw[hiv];exact⟨rfl,λ _=>rfl,[],World.ownsRow_nil _ _ _ _,λ _ h=>absurd h (Si _)⟩
                · rw[hiv] at h;cases h
                rw[hsv,hiv];rw[hs1] at hown;have:(madeCells zv.cells (j.toNat * 1)).toList=(List.range j.toNat).map λ _=>Value.slice none 0 0:=by
                  apply List.ext_getElem?;intro q;by_cases hq:q < j.toNat
                  · have h1 := JS (z := zv.cells) (s := 1) (by rw [hzs, hs1]) hq;have h2:=congrArg (λ l=>l[0]?) h1;simp only[C9,dqI] at h2;rw[if_pos (by decide)] at h2;simp only[Nat.mul_one,Nat.add_zero] at h2;rw[Nat.mul_one,h2,hz1];simp[hq]
                  · rw[dqM (by simp[madeCells];omega),dqM (by simp;omega)]
                rw[this] at hown;exact hown)
              refine lW (by simp[hop]) hrun ⟨g.setVv dst (.slice (some ⟨w.heap.size,0,none⟩) j.toNat j.toNat) (λ _=>.slice none 0 0),_,rfl,?_⟩;rw[eu];refine S2.put (v:=.slice (some ⟨w.heap.size,0,none⟩) j.toNat j.toNat) hd (d:=.cl (.vec dst)) ⟨hsv.symm,rfl⟩ ?_ _;intro M hM;simp[bY,cZ,bi] at hM;subst hM;exact⟨_,by rw[aV,if_pos rfl]⟩
            · subst hA;exact hs.elim
          · subst hA;exact hs.elim
        · subst hA;exact hs.elim
      · split at hA
        · rename_i l hl;split at hA
          · rename_i hcond;simp only[fE,Nat.ble_eq] at hcond;subst hA;obtain⟨w',hrun,hown,hbel,hold⟩:=made hs hcond.2;have hsv:(g.setSv dst (.slice (some ⟨w.heap.size,0,none⟩) j.toNat j.toNat)).sv dst=.slice (some ⟨w.heap.size,0,none⟩) j.toNat j.toNat:=by simp[Gh.setSv]
            have hrl:=iY (g:=g) _ _ hov;rw[kY hl] at hrl;have hrl:=RL.map_left.1 hrl
            have S2 := S.newVec (t := dst) (w' := w') (e := e) (s := ie.size) (b := ie.bytes) (n := j.toNat) (get := fun _ => ww P e l) (v := .slice (some ⟨w.heap.size, 0, none⟩) j.toNat j.toNat) hfresh hbel hold
              (λ b hb=>by simp[Value.ownBlock] at hb;omega) ⟨⟨Ef (uu (qA hrl)),by omega⟩,⟨ie,zv,hi,rfl,rfl,hzv,hzs⟩,_,by rw[hsv];exact hown,λ i hi'=>by rw[JS hzs hi'];exact qA hrl⟩
            refine lW (by simp[hop]) hrun ⟨g.setSv dst (.slice (some ⟨w.heap.size,0,none⟩) j.toNat j.toNat),_,rfl,?_⟩;rw[eu];refine S2.put (v:=.slice (some ⟨w.heap.size,0,none⟩) j.toNat j.toNat) hd (d:=.cl (.vec dst)) ⟨hsv.symm,rfl⟩ ?_ _;intro M hM;simp[bY,cZ,bi] at hM;subst hM;exact⟨_,by rw[aV,if_pos rfl]⟩
          · subst hA;exact hs.elim
        · subst hA;exact hs.elim
    · subst hA;exact hs.elim
  · subst hA;exact hs.elim
end
end Go.Pm
namespace Go.Pm
variable [aJ]
open Go.RowKit (Below)

section
variable {P:Program}{Γ:aX}{nt B:Nat}{w0:World}{h0:Fz}{g:Gh}{σ:St}{a:Act}{w:World}{r:Option Nat}{n i:Nat}{Q:Exit->Act->World->Prop}

theorem ET {h:Fz}{x:PA}{v:Value}(hx:kL h x v):wI ⟨h,g.bk,g.sv,g.iv⟩ (Dc x) v:=by
 cases x with
 | one p=>exact hx
 | agg cs =>
  obtain⟨vs,rfl,hr⟩:=hx;exact⟨vs,rfl,RL.map_left.2 hr⟩
theorem Tq {h:Fz}{rs:List PA}{v:Value}(hr:nJ h rs v):oJ ⟨h,g.bk,g.sv,g.iv⟩ (resD rs) v:=by
 have tup:∀ l:List PA,(∃ vs:List Value,v=.tuple vs.toArray/\RL (kL h) l vs)->oJ ⟨h,g.bk,g.sv,g.iv⟩ (.tup (l.map Dc)) v:=by
  rintro l ⟨vs,hv,hr2⟩;exact⟨vs,hv,RL.map_left.2 (RL.mono hr2 λ _ _ h=>ET h)⟩
 match rs,hr with
 | [],hr=>exact tup _ hr
 | [x],hr=>exact ET hr
 | x :: y :: l,hr=>exact tup _ hr
theorem rQ (x:PA):cZ (Dc x)=[]:=by
 cases x with
 | one p=>rfl
 | agg cs=>exact kX cs
theorem EU (rs:List PA):bY (resD rs)=[]:=by
 have tup:∀ l:List PA,bY (.tup (l.map Dc))=[]:=by
  intro l
  induction l with
  | nil=>rfl
  | cons x l ih=>simp only[nG,bY,lJ,rQ,List.nil_append] at ih ⊢;exact ih
 match rs with
 | []=>exact tup _
 | [x]=>exact rQ x
 | x :: y :: l=>exact tup _

theorem dQ {f:FuncId}{args:Array Value}(h:dA P f):(callFunc f args).run P w=.ok (.enter f args) w:=by
 obtain⟨fn,h1,h2,h3⟩:=h;have h2':fn.body.isNone=false:=by simpa using h2
 simp only[callFunc,fD,run_program,fM,h1,h3,h2',Bool.false_eq_true,if_false,iT]

theorem BF (S : bU P nt B w0 h0 g σ a w) : ∀ (l : List Operand), RL (oJ g) (l.map (eH σ.env)) (l.map a.eval)
  | []=>trivial
  | x :: r=>⟨S.ev x,BF S r⟩

theorem Tt {h:Fz}{l:List PV}{vs:List Value}(hr:RL (Rep h) l vs):RL (kL h) (l.map .one) vs:=RL.map_left.2 hr

theorem EW {h:Fz}{l:List PV}{vs:List Value}(h1:l.length=vs.length) (h2:∀ (j:Nat) (x:PV) (v:Value),l[j]? = some x->vs[j]? = some v->Rep h x v):RL (Rep h) l vs:=RL.of_get h1 h2


theorem bU.swap (S : bU P nt B w0 h0 g σ a w) {u : List (Nat × AO)} {kl K : List Nat} {g' : Gh} {w' : World} (hle : iP g.h g'.h) (hw' : Hw g'.h w') (hbk : ∀ M, g'.bk M = g.bk M) (hs : ∀ M, M ∉ kl → gG g g' M)
    (hkl:∀ L∈kl,lk u L ≠ none) (hX:Yj g.h K w w') (hK:∀ b∈K,∃ L o o',lk u L=some o/\lk σ.aB L=some o'/\fB g L o' b)
    (hv:∀ L o,lk u L=some o->IX P g' w' B L o) (hob:∀ L o b,lk u L=some o->fB g' L o b->(b∈K\/w.heap.size<=b)/\g'.h b=none)
    (hsep:∀ L o b L' o',lk u L=some o->lk u L'=some o'->fB g' L o b->fB g' L' o' b->L=L')
    (hlab:∀ L o,lk u L=some o->∀ M∈dJ o,∃ o',lk σ.aB M=some o') (hnK:∀ b o,g'.h b=some o->g.h b=some o\/w.heap.size<=b\/b∈K) (log:List (Nat×Nat×Nat)) :
    bU P nt B w0 h0 g' ⟨kills (fJ kl) σ.env,u ++ kills (dV kl) σ.aB,log⟩ a w':=by
  have hlk:∀ M x,lk (u ++ kills (dV kl) σ.aB) M=some x->lk u M=some x\/(lk u M=none/\M ∉ kl/\∃ o,lk σ.aB M=some o/\x=dV kl o):=by
    intro M x h;rw[fC] at h;cases hM:lk u M with
    | some y=>rw[hM] at h;exact .inl h
    | none =>
      rw[hM] at h;simp only[] at h;rw[lN] at h;obtain⟨o,ho,rfl⟩:=RZ.1 h;exact .inr ⟨rfl,λ hk=>hkl M hk hM,o,ho,rfl⟩
  have hdom:∀ M o,lk σ.aB M=some o->∃ x,lk (u ++ kills (dV kl) σ.aB) M=some x:=by
    intro M o h;rw[fC];cases lk u M with
    | some y=>exact⟨y,rfl⟩
    | none=>simp only[];rw[lN,h];exact⟨_,rfl⟩
  have EN:∀ M o,M ∉ kl->fB g' M (dV kl o)=fB g M o:=by
    intro M o hne;have:=hs M hne;funext k;cases o <;> simp[dV,fB,this.1,this.2.1,this.2.2]
  have hKB:∀ b∈K,B<=b/\g.h b=none:=λ b hb=>by
    obtain⟨L,_,o',_,h2,h3⟩:=hK b hb;exact S.own L o' b h2 h3
  have hout:∀ M o k,lk u M=none->lk σ.aB M=some o->fB g M o k->k ∉ K:=λ M o k h1 h2 h3 hk=>by
    obtain⟨L,x,o',h4,h5,h6⟩:=hK k hk;rw[S.sep M o k L o' h2 h5 h3 h6,h4] at h1;cases h1
  have hold:∀ M o k,lk u M=none->lk σ.aB M=some o->fB g M o k->w'.heap[k]? = w.heap[k]?:=λ M o k h1 h2 h3 =>
    hX.block k (gm (S.obj M o h2) h3) (hout M o k h1 h2 h3)
  refine⟨S.dfr.mono hle,S.size,?_,?_,?_,?_,hw',λ b o h=>hle _ _ (S.le0 b o h),?_,S.below.trans ⟨hX.os,hX.tape,hX.output,hX.size,hX.drawn,λ k hk=>hX.block k (dqS hk S.bs) (λ hkK=>by have:=(hKB k hkK).1;omega)⟩,Bv S.bs hX.size,?_,?_⟩
  · intro t d ht;rw[lN] at ht;obtain⟨d',hd',rfl⟩:=RZ.1 ht;exact V6 hle hbk hs (S.env t d' hd')
  · intro M x hx;rcases hlk M x hx with hx | ⟨hn,hne,o,ho,rfl⟩
    · exact hv M x hx
    · have hw2 : ∀ k, fB g M o k → w'.heap[k]? = w.heap[k]? := fun k hk => hold M o k hn ho hk;have hr:=S.obj M o ho;have hsM:=hs M hne;cases o with
      | box ty cs =>
        obtain⟨C,hC,hr⟩:=hr;exact⟨C,by rw[hbk M,hw2 _ rfl];exact hC,yu hle hbk hs hr⟩
      | _=>exact iK (o:=dV kl _) hr hsM (λ L hL=>by simp[dJ,dV] at hL) hle hw2
  · intro M x k hx hk;rcases hlk M x hx with hx | ⟨hn,hne,o,ho,rfl⟩
    · obtain ⟨h1, h2⟩ := hob M x k hx hk;exact⟨h1.elim (λ h=>(hKB k h).1) (λ h=>Bv S.bs h),h2⟩
    · rw [EN M o hne] at hk;obtain⟨h1,h2⟩:=S.own M o k ho hk;refine⟨h1,?_⟩;cases hh:g'.h k with
      | none=>rfl
      | some y =>
        rcases hnK k y hh with h3 | h3 | h3
        · rw[h2] at h3;cases h3
        · exact absurd (gm (S.obj M o ho) hk) (by omega)
        · exact (hout M o k hn ho hk h3).elim
  · intro M x k M' x' hx hx' hk hk';have cross:∀ M o L y,lk u M=none->lk σ.aB M=some o->fB g M o k->lk u L=some y->fB g' L y k->False:=by
      intro M o L y hn ho hk hy hk';rcases (hob L y k hy hk').1 with h | h
      · exact hout M o k hn ho hk h
      · exact absurd (gm (S.obj M o ho) hk) (by omega)
    rcases hlk M x hx with hx | ⟨hn,hne,o,ho,rfl⟩ <;> rcases hlk M' x' hx' with hx' | ⟨hn',hne',o2,ho2,rfl⟩
    · exact hsep M x k M' x' hx hx' hk hk'
    · rw [EN M' o2 hne'] at hk';exact (cross M' o2 M x hn' ho2 hk' hx hk).elim
    · rw [EN M o hne] at hk;exact (cross M o M' x' hn ho hk hx' hk').elim
    · rw [EN M o hne] at hk; rw [EN M' o2 hne'] at hk';exact S.sep M o k M' o2 ho ho2 hk hk'
  · intro b o h;rcases hnK b o h with h | h | h
    · exact S.hn b o h
    · exact .inr (Bv S.bs h)
    · exact .inr (hKB b h).1
  · intro t d ht M hM;rw[lN] at ht;obtain⟨d',hd',rfl⟩:=RZ.1 ht;obtain⟨o,ho⟩:=S.clE t d' hd' M (JK M hM);exact hdom M o ho
  · intro M x hx N hN;rcases hlk M x hx with hx | ⟨hn,hne,o,ho,rfl⟩
    · obtain⟨o',ho'⟩:=hlab M x hx N hN;exact hdom N o' ho'
    · obtain ⟨o2, ho2⟩ := S.clO M o ho N (JL N hN);exact hdom N o2 ho2

theorem bU.frozen0 (S:bU P nt B w0 h0 g σ a w):ed g (lk σ.aB) [] g.h :=
 ⟨λ _ _ h=>h,λ _ _ _ _ _ _ _ h=>by simp at h,λ L s n get h=>(S.obj L _ h).1,λ _ _ _ _ _ _ _ _ _ _ h=>by simp at h,
  λ _ _ _ _ _ _ _ _ h=>by simp at h,λ L l h=>S.obj L _ h,λ b hb o ho=>by rw[hb] at ho;cases ho⟩

def kO (g : Gh) (L : Nat) : AO → List Nat
  | .box _ _=>[g.bk L]
  | .vec _ _ _ _ _=>(g.sv L).ownBlock.toList
  | .mo _ _ _ _ _=>[lM (g.sv L)]
  | _=>[]
theorem Lr {L:Nat}{o:AO}{b:Nat}(h:b∈kO g L o):fB g L o b:=by
 cases o with
 | box ty cs=>simp only[kO,jM] at h;exact h.symm
 | vec e s b' n get=>simpa [kO,fB] using h
 | mo kt vt q n F=>simp only[kO,jM] at h;exact h.symm
 | _=>simp[kO] at h
theorem zb8 (L:Nat) (o:AO):(kO g L o).Nodup:=by
 cases o with
 | vec e s b' n get=>simp only[kO];cases (g.sv L).ownBlock <;> simp
 | _=>simp[kO]
def Pi : AO → Prop
  | .box _ _=>True
  | .vec _ _ _ _ _=>True
  | .mo _ _ _ _ _=>True
  | _=>False
theorem Ae {L:Nat}{o:AO}{b:Nat}(ho:Pi o) (h:fB g L o b):b∈kO g L o:=by
 cases o with
 | box ty cs=>simp only[kO,jM];exact h.symm
 | vec e s b' n get=>simpa [kO,fB] using h
 | mo kt vt q n F=>simp only[kO,jM];exact h.symm
 | _=>exact ho.elim
def kB (g:Gh) (ob:Nat->Option AO) (L:Nat):List Nat:=match ob L with | some o=>kO g L o | none=>[]

theorem EX {α : Type} {f : α → List Nat} : ∀ {l : List α}, l.Nodup → (∀ x ∈ l, (f x).Nodup) → (∀ x y b, x ∈ l → y ∈ l → b ∈ f x → b ∈ f y → x = y) → (l.flatMap f).Nodup
  | [],_,_,_=>by simp
  | x :: l,hn,h1,h2=>by
    rw[lJ,List.nodup_append];obtain⟨hx,hl⟩:=List.nodup_cons.1 hn;refine⟨h1 x kR,EX hl (λ y hy=>h1 y (je _ hy)) (λ y z b hy hz=>h2 y z b (je _ hy) (je _ hz)),?_⟩;intro b hb c hc e;subst e;obtain⟨y,hy,hby⟩:=jE.1 hc;exact hx (by rw[h2 x y b kR (je _ hy) hb hby];exact hy)
theorem Af {α : Type} {f : α → List Nat} : ∀ {l : List α}, (l.flatMap f).Nodup → ∀ x y b, x ∈ l → y ∈ l → b ∈ f x → b ∈ f y → x = y
  | [],_,_,_,_,hx,_,_,_=>by simp at hx
  | z :: l,hn,x,y,b,hx,hy,h1,h2=>by
    rw[lJ,List.nodup_append] at hn;obtain⟨_,hl,hd⟩:=hn;rcases jf.1 hx with ex | hx' <;> rcases jf.1 hy with ey | hy'
    · rw[ex,ey]
    · rw[ex] at h1;exact (hd b h1 b (jE.2 ⟨y,hy',h2⟩) rfl).elim
    · rw[ey] at h2;exact (hd b h2 b (jE.2 ⟨x,hx',h1⟩) rfl).elim
    · exact Af hl x y b hx' hy' h1 h2
theorem jU : ∀ {l : List Nat}, o9 l = true → l.Nodup
  | [],_=>List.nodup_nil
  | x :: l,h=>by
    simp only[o9,fE,Bool.not_eq_true'] at h;exact List.nodup_cons.2 ⟨by simpa using h.1,jU h.2⟩

def Tu [df] (g:Gh) (sf:jv):Prop:=∀ f np ls,sf=some (f,np,ls)->df.f=f/\df.np=np/\df.bs=ls.map g.bk
theorem Wh : ∀ {caps : List o6} {ls : List Nat} {cv : List Value}, Ed caps ls = true → RL (CQ g) caps cv → cv = (ls.map g.bk).map uw
  | [],[],[],_,_=>rfl
  | [],[],_ :: _,_,h=>h.elim
  | [],_ :: _,_,h,_=>by cases h
  | .v _ :: _,[],_,h,_=>by cases h
  | .v _ :: _,_ :: _,_,h,_=>by cases h
  | .b _ :: _,[],_,h,_=>by cases h
  | .b _ :: _,_ :: _,[],_,h=>h.elim
  | .b L :: caps,M :: ls,v :: cv,h,hr=>by
    simp only[Ed,fE] at h;have e:=jb h.1;subst e;rw[nG,nG,<- Wh h.2 hr.2];have:=hr.1;simp only[CQ] at this;rw[this];rfl
theorem Pj : ∀ {caps : List o6} {ls : List Nat}, Ed caps ls = true → RL (CQ g) caps ((ls.map g.bk).map uw)
  | [],[],_=>trivial
  | [],_ :: _,h=>by cases h
  | .v _ :: _,[],h=>by cases h
  | .v _ :: _,_ :: _,h=>by cases h
  | .b _ :: _,[],h=>by cases h
  | .b L :: caps,M :: ls,h=>by
    simp only[Ed,fE] at h;have e:=jb h.1;subst e;exact⟨rfl,Pj h.2⟩
theorem Pn {sf:jv}{f:FuncId}{caps:List o6}{x:XC}(h:znw sf f caps=some x):∃ np ls,sf=some (f,np,ls)/\Ed caps ls=true/\x=.slf f np ls.length:=by
 unfold znw at h;split at h
 ·rename_i f' np ls;split at h
  ·rename_i hc;simp only[fE] at hc;have e:=jb hc.1;subst e;simp only[bJ] at h;exact⟨np,ls,rfl,hc.2,h.symm⟩
  ·cases h
 ·cases h
theorem Wi [df] {sf:jv}(hsf:Tu g sf) (S:bU P nt B w0 h0 g σ a w):∀ {cells:List Cl}{cs:List XC}{ms:List Nat}{vs:List Value},gp sf (lk σ.aB) cells=some (cs,ms)->RL (gJ g) cells vs ->
  RL (xcR P g.h w B) cs vs/\qC cs vs=ms.flatMap (kB g (lk σ.aB))/\∀ M∈ms,∃ o,lk σ.aB M=some o/\Pi o
 | [],cs,ms,[],h,_=>by
  simp only[gp,bJ,eF] at h;obtain⟨rfl,rfl⟩:=h;exact⟨trivial,rfl,λ M hM=>by simp at hM⟩
 | [],_,_,_ :: _,_,hr=>hr.elim
 | _ :: _,_,_,[],_,hr=>hr.elim
 | c :: cells,cs,ms,v :: vs,h,hr=>by
  simp only[gp] at h;split at h
  ·rename_i l ms' h1;obtain⟨i1,i2,i3⟩:=Wi hsf S h1 hr.2;split at h
   ·rename_i p;simp only[bJ,eF] at h;obtain⟨rfl,rfl⟩:=h;exact⟨⟨hr.1,i1⟩,by simp only[qC,Yk,List.nil_append];exact i2,i3⟩
   ·rename_i M;split at h
    ·rename_i e s b n get hM;simp only[bJ,eF] at h;obtain⟨rfl,rfl⟩:=h;obtain⟨hp,hi,hx⟩:=S.obj M _ hM;have hv:v=g.sv M:=hr.1.1;refine⟨⟨⟨hr.1.2,hp,hi,by rw[hv];exact hx⟩,i1⟩,?_,λ K hK=>?_⟩
     ·simp only [qC, Yk, lJ, i2, hv];rw[show kB g (lk σ.aB) M=(g.sv M).ownBlock.toList by simp only[kB,hM,kO]]
     ·rcases jf.1 hK with e | hK
      ·rw[e];exact⟨_,hM,trivial⟩
      ·exact i3 K hK
    ·cases h
   ·rename_i M;split at h
    ·rename_i kt vt q n F hM;simp only[bJ,eF] at h;obtain⟨rfl,rfl⟩:=h;obtain⟨es,clock,hh,hx⟩:=S.obj M _ hM;have hv:v=.map (some (lM (g.sv M))):=hr.1;refine⟨⟨⟨_,es,clock,hv,hh,hx⟩,i1⟩,?_,λ K hK=>?_⟩
     ·simp only [qC, Yk, lJ, i2, hv];rw[show kB g (lk σ.aB) M=[lM (g.sv M)] by simp only[kB,hM,kO]];rfl
     ·rcases jf.1 hK with e | hK
      ·rw[e];exact⟨_,hM,trivial⟩
      ·exact i3 K hK
    ·cases h
   ·split at h
    ·rename_i x hx;simp only[bJ,eF] at h;obtain⟨rfl,rfl⟩:=h;obtain⟨np,ls,e1,e2,rfl⟩:=Pn hx;obtain⟨q1,q2,q3⟩:=hsf _ _ _ e1;obtain⟨cv,hv,hcv⟩:=hr.1;refine⟨⟨⟨q1.symm,q2.symm,by rw[q3,List.length_map],by rw[hv,Wh e2 hcv,<- q1,<- q3];rfl⟩,i1⟩,by simp only[qC,Yk,List.nil_append];exact i2,i3⟩
    ·cases h
   ·cases h
  ·cases h

def isB (ob:Nat->Option AO) (L:Nat):Prop:=∃ o,ob L=some o/\Pi o
theorem zb9 [df] {sf : jv} (S : bU P nt B w0 h0 g σ a w) (hsf : Tu g sf) {d : DV} {x : XA} {ls ms : List Nat} {v : Value} (h : wz sf (lk σ.aB) d = some (x, ls, ms)) (hr : oJ g d v) :
  wC P g.h w B x v/\OH w x v=ls.flatMap (kB g (lk σ.aB))/\∀ L∈ls,isB (lk σ.aB) L:=by
 have data:oI (lk σ.aB) d=some (x,ls,ms)->wC P g.h w B x v/\OH w x v=ls.flatMap (kB g (lk σ.aB))/\∀ L∈ls,isB (lk σ.aB) L:=by
  intro h;unfold oI at h;split at h
  ·rename_i y hy;simp only[bJ,eF] at h;obtain⟨rfl,rfl,rfl⟩:=h;exact⟨S.frozen0.repD hy (λ _ h=>h) hr,rfl,λ L hL=>by simp at hL⟩
  ·cases h
 unfold wz at h;split at h
 ·rename_i L;split at h
  ·rename_i ty cells hL;split at h
   ·rename_i cs ms' hc;simp only[bJ,eF] at h;obtain⟨rfl,rfl,rfl⟩:=h;obtain⟨C,hC,hcr⟩:=S.obj L _ hL;obtain⟨i1,i2,i3⟩:=Wi hsf S hc hcr;have hv:v=.pointer (some ⟨g.bk L,0,none⟩):=hr;subst hv;refine⟨⟨_,C,rfl,hC,i1⟩,?_,λ K hK=>?_⟩
    ·simp only [OH, hC, lJ, i2];rw[show kB g (lk σ.aB) L=[g.bk L] by simp only[kB,hL,kO]];rfl
    ·rcases jf.1 hK with e | hK
     ·rw[e];exact⟨_,hL,trivial⟩
     ·exact i3 K hK
   ·cases h
  ·exact data h
 ·exact data h
theorem Wj [df] {sf:jv}(S:bU P nt B w0 h0 g σ a w) (hsf:Tu g sf):∀ {ds:List DV}{xs:List XA}{ls ms:List Nat}{vs:List Value},jg sf (lk σ.aB) ds=some (xs,ls,ms)->RL (oJ g) ds vs ->
  RL (wC P g.h w B) xs vs/\mr w xs vs=ls.flatMap (kB g (lk σ.aB))/\∀ L∈ls,isB (lk σ.aB) L
 | [],xs,ls,ms,[],h,_=>by
  simp only[jg,bJ,eF] at h;obtain⟨rfl,rfl,rfl⟩:=h;exact⟨trivial,rfl,λ L hL=>by simp at hL⟩
 | [],_,_,_,_ :: _,_,hr=>hr.elim
 | _ :: _,_,_,_,[],_,hr=>hr.elim
 | d :: ds,xs,ls,ms,v :: vs,h,hr=>by
  simp only[jg] at h;split at h
  ·rename_i x bl m1 xs' bls m2 h1 h2;simp only[bJ,eF] at h;obtain⟨rfl,rfl,rfl⟩:=h;obtain⟨i1,i2,i3⟩:=zb9 S hsf h1 hr.1;obtain⟨j1,j2,j3⟩:=Wj S hsf h2 hr.2;refine⟨⟨i1,j1⟩,by simp only[mr,i2,j2,List.flatMap_append],λ L hL=>?_⟩;rcases dL.1 hL with h | h
   ·exact i3 L h
   ·exact j3 L h
  ·cases h
theorem BG (S:bU P nt B w0 h0 g σ a w){ls:List Nat}(hn:ls.Nodup):(ls.flatMap (kB g (lk σ.aB))).Nodup:=by
 refine EX hn (λ L _=>?_) λ L L' b _ _ h1 h2=>?_
 ·unfold kB; split
  ·exact zb8 L _
  ·exact List.nodup_nil
 ·unfold kB at h1 h2;split at h1
  ·rename_i o ho;split at h2
   ·rename_i o' ho';exact S.sep L o b L' o' ho ho' (Lr h1) (Lr h2)
   ·simp at h2
  ·simp at h1

def cN : List Cl → List Value → List (Nat × Value)
  | .vec M :: cs,v :: vs=>(M,v) :: cN cs vs
  | .mo M :: cs,v :: vs=>(M,v) :: cN cs vs
  | _ :: cs,_ :: vs=>cN cs vs
  | _,_=>[]
def aN (w:World) (ob:Nat->Option AO) (d:DV) (v:Value):List (Nat×Value) :=
 match d,v with
 | .one (.c (.ptr L 0)),.pointer (some a)=>match ob L,w.heap[a.block]? with
  | some (.box _ cells),some (.cells C _ _)=>cN cells C.toList
  | _,_=>[]
 | _,_=>[]
def asN (w : World) (ob : Nat → Option AO) : List DV → List Value → List (Nat × Value)
  | d :: ds,v :: vs=>aN w ob d v ++ asN w ob ds vs
  | _,_=>[]

theorem lQ {sf:jv}{ob:Nat->Option AO}{L:Nat} : wz sf ob (.one (.c (.ptr L 0)))=match ob L with
  | some (.box ty cells)=>match gp sf ob cells with
   | some (cs,ms)=>some (.box ty cs,L :: ms,ms)
   | none=>none
  | _=>oI ob (.one (.c (.ptr L 0))):=rfl
section put
variable [df] {sf:jv}{h':Fz}{w':World}{g':Gh}(hh:g'.h=h') (hbk:∀ M,g'.bk M=g.bk M) (hsf:Tu g' sf)
include hh hsf
theorem yw:∀ {cells l:List Cl}{ys cs:List XC}{u:List (Nat×AO)}{ls:List Nat}{vs:List Value},fH cells ys=some (l,u)->gp sf (lk σ.aB) cells=some (cs,ls)->RL (xcR P h' w' B) ys vs->(∀ x∈cN cells vs,g'.sv x.1=x.2) ->
  RL (gJ g') l vs/\(∀ x∈u,Pi x.2/\dJ x.2=[]/\IX P g' w' B x.1 x.2)/\qC ys vs=u.flatMap (λ x=>kO g' x.1 x.2)/\u.map (·.1)=ls/\(cN cells vs).map (·.1)=ls/\∀ M∈l.flatMap bi,M∈cells.flatMap bi
 | [],l,[],cs,u,ls,vs,h,h2,hr,_=>by
  simp only[fH,bJ,eF] at h;obtain⟨rfl,rfl⟩:=h;simp only[gp,bJ,eF] at h2;obtain⟨rfl,rfl⟩:=h2;cases vs with
  | nil=>exact⟨trivial,λ x hx=>by simp at hx,rfl,rfl,rfl,λ M hM=>hM⟩
  | cons=>exact hr.elim
 | c :: cells,l,y :: ys,cs,u,ls,[],h,h2,hr,_=>hr.elim
 | c :: cells,l,y :: ys,cs,u,ls,v :: vs,h,h2,hr,hsv=>by
  unfold fH at h;split at h
  ·rename_i e;simp at e
  ·rename_i p cells' q ys' e1 e2;simp only[Bq] at e1 e2;obtain⟨rfl,rfl⟩:=e1;obtain⟨rfl,rfl⟩:=e2;split at h
   ·rename_i l1 u1 hp;simp only[bJ,eF] at h;obtain⟨rfl,rfl⟩:=h;simp only[gp] at h2;split at h2
    ·rename_i c1 m1 hc;simp only[bJ,eF] at h2;obtain⟨rfl,rfl⟩:=h2;obtain⟨i1,i2,i3,i4,i5,i6⟩:=yw hp hc hr.2 (λ x hx=>hsv x hx);refine⟨⟨by have:=hr.1;show Rep g'.h q v;rw[hh];exact this,i1⟩,i2,by simp only[qC,Yk,List.nil_append];exact i3,i4,i5,λ M hM=>?_⟩;simp only[lJ,bi,List.nil_append] at hM ⊢;exact i6 M hM
    ·cases h2
   ·cases h
  ·rename_i M cells' e s b n get ys' e1 e2;simp only[Bq] at e1 e2;obtain⟨rfl,rfl⟩:=e1;obtain⟨rfl,rfl⟩:=e2;split at h
   ·rename_i l1 u1 hp;simp only[bJ,eF] at h;obtain⟨rfl,rfl⟩:=h;simp only[gp] at h2;split at h2
    ·rename_i c1 m1 hc;split at h2
     ·simp only [bJ, eF] at h2; obtain ⟨rfl, rfl⟩ := h2;obtain⟨i1,i2,i3,i4,i5,i6⟩:=yw hp hc hr.2 (λ x hx=>hsv x (je _ hx));have hv:g'.sv M=v:=hsv (M,v) kR;obtain⟨h1,hp1,hi1,hx1⟩:=hr.1;refine⟨⟨⟨hv.symm,h1⟩,i1⟩,λ x hx=>?_,?_,by simp[i4],by simp[cN,i5],λ K hK=>?_⟩
      ·rcases jf.1 hx with e | hx
       ·subst e;refine⟨trivial,rfl,hp1,hi1,?_⟩;show wB g'.h w' B e s (g'.sv M) n get;rw[hv,hh];exact hx1
       ·exact i2 x hx
      ·simp only[qC,Yk,lJ,kO,hv,i3]
      ·simp only [lJ, dL] at hK ⊢;exact hK.imp_right (i6 K)
     ·cases h2
    ·cases h2
   ·cases h
  ·rename_i M cells' kt vt q n F ys' e1 e2;simp only[Bq] at e1 e2;obtain⟨rfl,rfl⟩:=e1;obtain⟨rfl,rfl⟩:=e2;split at h
   ·rename_i l1 u1 hp;simp only[bJ,eF] at h;obtain⟨rfl,rfl⟩:=h;simp only[gp] at h2;split at h2
    ·rename_i c1 m1 hc;split at h2
     ·simp only [bJ, eF] at h2; obtain ⟨rfl, rfl⟩ := h2;obtain⟨i1,i2,i3,i4,i5,i6⟩:=yw hp hc hr.2 (λ x hx=>hsv x (je _ hx));have hv:g'.sv M=v:=hsv (M,v) kR;obtain⟨b,es,clock,h1,hh1,hx1⟩:=hr.1;subst h1;have hb:lM (g'.sv M)=b:=by rw[hv];rfl
      refine⟨⟨by show Value.map (some b)=.map (some (lM (g'.sv M)));rw[hb],i1⟩,λ x hx=>?_,?_,by simp[i4],by simp[cN,i5],λ K hK=>?_⟩
      ·rcases jf.1 hx with e | hx
       ·subst e;exact⟨trivial,rfl,es,clock,by rw[hb];exact hh1,hx1⟩
       ·exact i2 x hx
      ·simp only[qC,Yk,lJ,kO,hb,i3];rfl
      ·simp only [lJ, dL] at hK ⊢;exact hK.imp_right (i6 K)
     ·cases h2
    ·cases h2
   ·cases h
  ·rename_i f caps cells' f2 np2 n2 ys' e1 e2;simp only[Bq] at e1 e2;obtain⟨rfl,rfl⟩:=e1;obtain⟨rfl,rfl⟩:=e2;split at h
   ·rename_i l1 u1 hp;simp only[bJ,eF] at h;obtain⟨rfl,rfl⟩:=h;simp only[gp] at h2;split at h2
    ·rename_i c1 m1 hc;split at h2
     ·rename_i x hx;simp only[bJ,eF] at h2;obtain⟨rfl,rfl⟩:=h2;obtain⟨i1,i2,i3,i4,i5,i6⟩:=yw hp hc hr.2 (λ x hx=>hsv x hx);obtain⟨np,ls,e1,e2,rfl⟩:=Pn hx;obtain⟨q1,q2,q3⟩:=hsf _ _ _ e1;obtain⟨_,_,_,hv⟩:=hr.1;refine⟨⟨⟨(ls.map g'.bk).map uw,by rw[hv,<- q1,<- q3];rfl,Pj e2⟩,i1⟩,i2,by simp only[qC,Yk,List.nil_append];exact i3,i4,i5,λ M hM=>?_⟩;simp only[lJ,dL] at hM ⊢;exact hM.imp_right (i6 M)
     ·cases h2
    ·cases h2
   ·cases h
  ·cases h
 | [],_,_ :: _,_,_,_,_,h,_,_,_=>by simp[fH] at h
 | _ :: _,_,[],_,_,_,_,h,_,_,_=>by simp[fH] at h
include hbk
theorem znP (S : bU P nt B w0 h0 g σ a w) {d : DV} {x y : XA} {u : List (Nat × AO)} {ls ms : List Nat} {v : Value} (h : CO (lk σ.aB) d y = some u) (h2 : wz sf (lk σ.aB) d = some (x, ls, ms)) (hd : oJ g d v) (hr : wC P h' w' B y v)
    (hsv:∀ x∈aN w' (lk σ.aB) d v,g'.sv x.1=x.2) :
    (∀ x∈u,Pi x.2/\(∀ M∈dJ x.2,∃ o',lk σ.aB M=some o')/\IX P g' w' B x.1 x.2)/\OH w' y v=u.flatMap (λ x=>kO g' x.1 x.2)/\u.map (·.1)=ls/\(aN w' (lk σ.aB) d v).map (·.1)=ms:=by
  have data:oI (lk σ.aB) d=some (x,ls,ms)->ls=[]/\ms=[]:=by
    intro h;unfold oI at h;split at h
    · simp only[bJ,eF] at h;exact⟨h.2.1.symm,h.2.2.symm⟩
    · cases h
  unfold CO at h;split at h
  · rename_i L;split at h
    · rename_i ty' cells hL;rw[lQ,hL] at h2;dsimp only at h2;split at h2
      · rename_i cs ms' hc;simp only[bJ,eF] at h2;obtain⟨rfl,rfl,rfl⟩:=h2;split at h
        · rename_i ty cs';split at h
          · rename_i l u' hty hp;simp only[bJ] at h;subst h;have hty:=jb hty;subst hty;obtain⟨k,C,rfl,hC,hrl⟩:=hr;have hk:k=g.bk L:=by
              have hd:Value.pointer (some ⟨k,0,none⟩)=.pointer (some ⟨g.bk L,0,none⟩):=hd;simpa using hd
            subst hk;simp only[aN,hL,hC] at hsv ⊢;obtain⟨i1,i2,i3,i4,i5,i6⟩:=yw (P:=P) (B:=B) hh hsf hp hc hrl hsv;refine⟨λ x hx=>?_,?_,by simp[i4],i5⟩
            · rcases jf.1 hx with e | hx
              · subst e;refine⟨trivial,λ M hM=>S.clO L _ hL M (i6 M hM),C,?_,i1⟩;show w'.heap[g'.bk L]? = _;rw[hbk];exact hC
              · obtain ⟨j1, j2, j3⟩ := i2 x hx;exact⟨j1,λ M hM=>by rw[j2] at hM;simp at hM,j3⟩
            · simp only[OH,hC,lJ,kO,hbk,i3];rfl
          · cases h
        · cases h
      · cases h2
    · rename_i hno;have hx:oI (lk σ.aB) (.one (.c (.ptr L 0)))=some (x,ls,ms):=by
        rw[lQ] at h2;cases hL:lk σ.aB L with
        | none=>rw[hL] at h2;exact h2
        | some o =>
          rw[hL] at h2;cases o with
          | box ty cells=>exact absurd hL (hno _ _)
          | _=>exact h2
      obtain⟨rfl,rfl⟩:=data hx;split at h
      · simp only [bJ] at h; subst h;refine⟨λ x hx=>by simp at hx,rfl,rfl,?_⟩;have e:aN w' (lk σ.aB) (.one (.c (.ptr L 0))) v=[]:=by
          cases v with
          | pointer p=>cases p with
            | none=>rfl
            | some ad =>
              simp only[aN];cases hL:lk σ.aB L with
              | none=>rfl
              | some o =>
                cases o with
                | box ty cells=>exact (hno _ _ hL).elim
                | _=>rfl
          | _=>rfl
        rw[e];rfl
      · cases h
  · rename_i hno;have hx:oI (lk σ.aB) d=some (x,ls,ms):=by
      unfold wz at h2;split at h2
      · exact (hno _ rfl).elim
      · exact h2
    obtain⟨rfl,rfl⟩:=data hx;split at h
    · simp only [bJ] at h; subst h;refine⟨λ x hx=>by simp at hx,rfl,rfl,?_⟩;have e:aN w' (lk σ.aB) d v=[]:=by
        unfold aN;split
        · exact (hno _ rfl).elim
        · rfl
      rw[e];rfl
    · cases h
theorem Wl (S:bU P nt B w0 h0 g σ a w):∀ {ds:List DV}{xs ys:List XA}{u:List (Nat×AO)}{ls ms:List Nat}{vs:List Value},iI (lk σ.aB) ds ys=some u->jg sf (lk σ.aB) ds=some (xs,ls,ms)->RL (oJ g) ds vs->RL (wC P h' w' B) ys vs ->
  (∀ x∈asN w' (lk σ.aB) ds vs,g'.sv x.1=x.2) ->
  (∀ x∈u,Pi x.2/\(∀ M∈dJ x.2,∃ o',lk σ.aB M=some o')/\IX P g' w' B x.1 x.2)/\mr w' ys vs=u.flatMap (λ x=>kO g' x.1 x.2)/\u.map (·.1)=ls/\(asN w' (lk σ.aB) ds vs).map (·.1)=ms
 | [],xs,[],u,ls,ms,vs,h,h2,hd,hr,_=>by
  simp only[iI,bJ] at h;subst h;simp only[jg,bJ,eF] at h2;obtain⟨rfl,rfl,rfl⟩:=h2;cases vs with
  | nil=>exact⟨λ x hx=>by simp at hx,rfl,rfl,rfl⟩
  | cons=>exact hr.elim
 | d :: ds,xs,y :: ys,u,ls,ms,[],h,h2,hd,hr,_=>hr.elim
 | d :: ds,xs,y :: ys,u,ls,ms,v :: vs,h,h2,hd,hr,hsv=>by
  simp only[iI] at h;split at h
  ·rename_i u1 u2 e1 e2;simp only[bJ] at h;subst h;simp only[jg] at h2;split at h2
   ·rename_i x bl m1 xs' bls m2 h3 h4;simp only[bJ,eF] at h2;obtain⟨rfl,rfl,rfl⟩:=h2;obtain⟨i1,i2,i3,i4⟩:=Wl S e2 h4 hd.2 hr.2 (λ x hx=>hsv x (dL.2 (.inr hx)));obtain⟨j1,j2,j3,j4⟩:=znP hh hbk hsf S e1 h3 hd.1 hr.1 (λ x hx=>hsv x (dL.2 (.inl hx)));exact⟨λ x hx=>(dL.1 hx).elim (j1 x) (i1 x),by simp only[mr,i2,j2,List.flatMap_append],by simp[i3,j3],by simp[asN,i4,j4]⟩
   ·cases h2
  ·cases h
 | [],_,_ :: _,_,_,_,_,h,_,_,_,_=>by simp[iI] at h
 | _ :: _,_,[],_,_,_,_,h,_,_,_,_=>by simp[iI] at h
end put

theorem Ag {α : Type} : ∀ {l : List (Nat × α)} {k : Nat} {x : α}, (l.map (·.1)).Nodup → (k, x) ∈ l → lk l k = some x
  | [],_,_,_,h=>by simp at h
  | (j,y) :: l,k,x,hn,h=>by
    rw[nG,List.nodup_cons] at hn;rw[aV];rcases jf.1 h with e | h'
    · simp only[eF] at e;rw[if_pos e.1.symm,e.2]
    · rw [if_neg (fun e => hn.1 (by rw [e]; exact vC.2 ⟨_, h', rfl⟩))];exact Ag hn.2 h'
theorem vH {α:Type}{l:List (Nat×α)}{k:Nat}(h:k∈l.map (·.1)):∃ x,lk l k=some x:=by
 cases hk:lk l k with
 | some x=>exact⟨x,rfl⟩
 | none =>
  obtain⟨⟨j,x⟩,hx,rfl⟩:=vC.1 h;exact (Le hk x hx).elim
theorem zca {sf:jv}{ob:Nat->Option AO}{d:DV}{x:XA}{ls ms:List Nat}(h:wz sf ob d=some (x,ls,ms)):∀ M∈ms,M∈ls:=by
 have data:oI ob d=some (x,ls,ms)->∀ M∈ms,M∈ls:=by
  intro h;unfold oI at h;split at h
  ·simp only[bJ,eF] at h;rw[<- h.2.2];exact λ M hM=>by simp at hM
  ·cases h
 unfold wz at h;split at h
 ·split at h
  ·split at h
   ·simp only[bJ,eF] at h;rw[<- h.2.1,<- h.2.2];exact λ M hM=>je _ hM
   ·cases h
  ·exact data h
 ·exact data h
theorem JU {sf : jv} {ob : Nat → Option AO} : ∀ {ds : List DV} {xs : List XA} {ls ms : List Nat}, jg sf ob ds = some (xs, ls, ms) → ∀ M ∈ ms, M ∈ ls
  | [],xs,ls,ms,h=>by
    simp only[jg,bJ,eF] at h;rw[<- h.2.2];exact λ M hM=>by simp at hM
  | d :: ds,xs,ls,ms,h=>by
    simp only[jg] at h;split at h
    · rename_i x bl m1 xs' bls m2 h1 h2;simp only[bJ,eF] at h;obtain⟨rfl,rfl,rfl⟩:=h;intro M hM;exact dL.2 ((dL.1 hM).imp (zca h1 M) (JU h2 M))
    · cases h
theorem xk (x:Cl):eG [] x=x:=by cases x <;> rfl
theorem BH (x:D1):dZ [] x=x:=by
 cases x with
 | c y=>simp only[dZ,xk]
 | agg cs=>simp only[dZ,show eG []=id from funext xk,List.map_id]
theorem Tv (x:DV):fJ [] x=x:=by
 cases x with
 | one y=>simp only[fJ,BH]
 | tup ds=>simp only[fJ,show dZ []=id from funext BH,List.map_id]
theorem Tz (x:AO):dV [] x=x:=by
 cases x with
 | box ty cs=>simp only[dV,show eG []=id from funext xk,List.map_id]
 | _=>rfl
theorem EY {α : Type} {f : α → α} (hf : ∀ x, f x = x) : ∀ l : List (Nat × α), kills f l = l
  | []=>rfl
  | (k,x) :: l=>by simp only[kills,hf x,EY hf l]
theorem zcb {dst : Option Nat} {fp : List (Nat × Bool)} {d : DV} {u : List (Nat × AO)} {ms : List Nat} :
  σ.upd i dst fp d u ms=⟨SV dst d (kills (fJ ms) σ.env),u ++ kills (dV ms) σ.aB,σ.log⟩:=by
 cases ms with
 | nil=>rw[eu,EY Tv,EY Tz]
 | cons L r=>cases dst <;> rfl

theorem Wn [df] {sf : jv} {ob : Nat → Option AO} {h' : Fz} {w' : World} : ∀ {cells : List Cl} {l : List Cl} {ys cs : List XC} {u : List (Nat × AO)} {ms : List Nat} {vs : List Value}, fH cells ys = some (l, u) → gp sf ob cells = some (cs, ms) → RL (xcR P h' w' B) ys vs → (cN cells vs).map (·.1) = ms
  | [],l,ys,cs,u,ms,vs,h,h2,hr=>by
    simp only[gp,bJ,eF] at h2;rw[<- h2.2];cases vs <;> rfl
  | c :: cells,l,[],cs,u,ms,vs,h,h2,hr=>by simp[fH] at h
  | c :: cells,l,y :: ys,cs,u,ms,[],h,h2,hr=>hr.elim
  | c :: cells,l,y :: ys,cs,u,ms,v :: vs,h,h2,hr=>by
    have hx:∃ l1 u1,fH cells ys=some (l1,u1):=by
      unfold fH at h;split at h
      · rename_i e;simp at e
      · rename_i e1 e2;simp only[Bq] at e1 e2;obtain⟨rfl,rfl⟩:=e1;obtain⟨rfl,rfl⟩:=e2;split at h
        · rename_i hp;exact⟨_,_,hp⟩
        · cases h
      · rename_i e1 e2;simp only[Bq] at e1 e2;obtain⟨rfl,rfl⟩:=e1;obtain⟨rfl,rfl⟩:=e2;split at h
        · rename_i hp;exact⟨_,_,hp⟩
        · cases h
      · rename_i e1 e2;simp only[Bq] at e1 e2;obtain⟨rfl,rfl⟩:=e1;obtain⟨rfl,rfl⟩:=e2;split at h
        · rename_i hp;exact⟨_,_,hp⟩
        · cases h
      · rename_i e1 e2;simp only[Bq] at e1 e2;obtain⟨rfl,rfl⟩:=e1;obtain⟨rfl,rfl⟩:=e2;split at h
        · rename_i hp;exact⟨_,_,hp⟩
        · cases h
      · cases h
    obtain⟨l1,u1,hp⟩:=hx;simp only[gp] at h2;split at h2
    · rename_i c1 m1 hc;have ih:=Wn hp hc hr.2;split at h2
      · simp only[bJ,eF] at h2;rw[<- h2.2];exact ih
      · split at h2
        · simp only[bJ,eF] at h2;rw[<- h2.2];simp only[cN,nG,ih]
        · cases h2
      · split at h2
        · simp only[bJ,eF] at h2;rw[<- h2.2];simp only[cN,nG,ih]
        · cases h2
      · split at h2
        · simp only[bJ,eF] at h2;rw[<- h2.2];exact ih
        · cases h2
      · cases h2
    · cases h2
theorem zg6 [df] {sf:jv}{ob:Nat->Option AO}{h':Fz}{w':World}{d:DV}{x y:XA}{u:List (Nat×AO)}{ls ms:List Nat}{v:Value}(h:CO ob d y=some u) (h2:wz sf ob d=some (x,ls,ms)) (hr:wC P h' w' B y v):(aN w' ob d v).map (·.1)=ms:=by
 have data:oI ob d=some (x,ls,ms)->ms=[]:=by
  intro h;unfold oI at h;split at h
  ·simp only[bJ,eF] at h;exact h.2.2.symm
  ·cases h
 unfold CO at h;split at h
 ·rename_i L;split at h
  ·rename_i ty' cells hL;rw[lQ,hL] at h2;dsimp only at h2;split at h2
   ·rename_i cs ms' hc;simp only[bJ,eF] at h2;obtain⟨rfl,rfl,rfl⟩:=h2;split at h
    ·split at h
     ·rename_i l u' hty hp;obtain⟨k,C,rfl,hC,hrl⟩:=hr;simp only[aN,hL,hC];exact Wn hp hc hrl
     ·cases h
    ·cases h
   ·cases h2
  ·rename_i hno;have hx:oI ob (.one (.c (.ptr L 0)))=some (x,ls,ms):=by
    rw[lQ] at h2;cases hL:ob L with
    | none=>rw[hL] at h2;exact h2
    | some o =>
     rw[hL] at h2;cases o with
     | box ty cells=>exact absurd hL (hno _ _)
     | _=>exact h2
   rw[data hx];have e:aN w' ob (.one (.c (.ptr L 0))) v=[]:=by
    cases v with
    | pointer p=>cases p with
     | none=>rfl
     | some ad =>
      simp only[aN];cases hL:ob L with
      | none=>rfl
      | some o =>
       cases o with
       | box ty cells=>exact absurd hL (hno _ _)
       | _=>rfl
    | _=>rfl
   rw[e];rfl
 ·rename_i hno;have hx:oI ob d=some (x,ls,ms):=by
   unfold wz at h2;split at h2
   ·exact (hno _ rfl).elim
   ·exact h2
  rw[data hx];have e:aN w' ob d v=[]:=by
   unfold aN;split
   ·exact (hno _ rfl).elim
   ·rfl
  rw[e];rfl
theorem Po [df] {sf : jv} {ob : Nat → Option AO} {h' : Fz} {w' : World} : ∀ {ds : List DV} {xs ys : List XA} {u : List (Nat × AO)} {ls ms : List Nat} {vs : List Value}, iI ob ds ys = some u → jg sf ob ds = some (xs, ls, ms) → RL (wC P h' w' B) ys vs → (asN w' ob ds vs).map (·.1) = ms
  | [],xs,ys,u,ls,ms,vs,h,h2,hr=>by
    simp only[jg,bJ,eF] at h2;rw[<- h2.2.2];cases vs <;> rfl
  | d :: ds,xs,[],u,ls,ms,vs,h,h2,hr=>by simp[iI] at h
  | d :: ds,xs,y :: ys,u,ls,ms,[],h,h2,hr=>hr.elim
  | d :: ds,xs,y :: ys,u,ls,ms,v :: vs,h,h2,hr=>by
    simp only[iI] at h;split at h
    · rename_i u1 u2 e1 e2;simp only[jg] at h2;split at h2
      · rename_i x bl m1 xs' bls m2 h3 h4;simp only[bJ,eF] at h2;rw[<- h2.2.2];simp only[asN,List.map_append,zg6 e1 h3 hr.1, Po e2 h4 hr.2]
      · cases h2
    · cases h

theorem Wp : ∀ {caps : List o6} {ls : List Nat} {cv : List Value}, OA caps = some ls → RL (CQ g) caps cv → ∀ (k L : Nat), ls[k]? = some L → cv[k]? = some (uw (g.bk L))
  | [],ls,cv,h,hr,k,L,hk=>by simp only[OA,bJ] at h;subst h;simp at hk
  | .v _ :: _,ls,cv,h,hr,k,L,hk=>by cases h
  | .b M :: caps,ls,[],h,hr,k,L,hk=>hr.elim
  | .b M :: caps,ls,v :: cv,h,hr,k,L,hk=>by
    simp only[OA] at h;split at h
    · rename_i l hl;simp only[bJ] at h;subst h;cases k with
      | zero =>
        simp only[List.getElem?_cons_zero,bJ] at hk ⊢;subst hk;exact hr.1
      | succ k =>
        rw[SC] at hk ⊢;exact Wp hl hr.2 k L hk
    · cases h
theorem znQ {gf np:Nat}{caps:List o6}{cv pre:List Value}(hr:RL (CQ g) caps cv) (hp:pre.length=np):∀ f np' ls,zgH gf np caps=some (f,np',ls)->∀ (k L:Nat),ls[k]? = some L->(pre ++ cv)[np'+k]? = some (uw (g.bk L)):=by
 intro f np' ls h k L hk;unfold zgH at h;split at h
 ·rename_i l hl;simp only[bJ,eF] at h;obtain⟨rfl,rfl,rfl⟩:=h;rw[List.getElem?_append_right (by omega),show np+k - pre.length=k by omega];exact Wp hl hr k L hk
 ·cases h
theorem JV : ∀ {cells l : List Cl} {ys : List XC} {u : List (Nat × AO)}, fH cells ys = some (l, u) → l.length = cells.length ∧ (∀ x ∈ u, jG x.2 = false) ∧ ∀ f caps, l = [.clo f caps] → cells = [.clo f caps]
  | [],l,ys,u,h=>by
    cases ys with
    | nil =>
      simp only[fH,bJ,eF] at h;obtain⟨rfl,rfl⟩:=h;exact⟨rfl,λ x hx=>by simp at hx,λ f caps e=>by cases e⟩
    | cons y ys=>simp[fH] at h
  | c :: cells,l,ys,u,h=>by
    cases ys with
    | nil=>cases c <;> simp[fH] at h
    | cons y ys =>
      have ih:=λ l' u' h'=>@JV cells l' ys u' h'
      have vc:∀ (M:Nat) (o:AO) (l':List Cl) (u':List (Nat×AO)) (c':Cl),jG o=false->(∀ f caps,c' ≠ .clo f caps)->fH cells ys=some (l',u') ->
          (c' :: l').length=(c :: cells).length/\(∀ x∈(M,o) :: u',jG x.2=false)/\∀ f caps,c' :: l'=[.clo f caps]->c :: cells=[.clo f caps]:=λ M o l' u' c' ho hc h'=>by
        obtain⟨i1,i2,i3⟩:=ih l' u' h';refine⟨by simp[i1],λ x hx=>?_,λ f caps e=>(hc f caps (List.cons.inj e).1).elim⟩;rcases jf.1 hx with rfl | hx
        · exact ho
        · exact i2 x hx
      cases c with
      | p v =>
        cases y with
        | p v' =>
          simp only[fH] at h;split at h
          · rename_i l' u' h';simp only[bJ,eF] at h;obtain⟨rfl,rfl⟩:=h;obtain⟨i1,i2,i3⟩:=ih l' u' h';exact⟨by simp[i1],i2,λ f caps e=>by cases e⟩
          · cases h
        | _=>simp[fH] at h
      | vec M =>
        cases y with
        | vec e s b n get =>
          simp only[fH] at h;split at h
          · rename_i l' u' h';simp only[bJ,eF] at h;obtain⟨rfl,rfl⟩:=h;exact vc M _ l' u' _ rfl (λ _ _ e=>by cases e) h'
          · cases h
        | _=>simp[fH] at h
      | mo M =>
        cases y with
        | mo kt vt q n F =>
          simp only[fH] at h;split at h
          · rename_i l' u' h';simp only[bJ,eF] at h;obtain⟨rfl,rfl⟩:=h;exact vc M _ l' u' _ rfl (λ _ _ e=>by cases e) h'
          · cases h
        | _=>simp[fH] at h
      | clo f0 zPf =>
        cases y with
        | slf f2 np2 n2 =>
          simp only[fH] at h;split at h
          · rename_i l' u' h';simp only[bJ,eF] at h;obtain⟨rfl,rfl⟩:=h;obtain⟨i1,i2,i3⟩:=ih l' u' h';refine⟨by simp[i1],i2,λ f caps e=>?_⟩;obtain⟨e3,e4⟩:=List.cons.inj e;subst e4;rw[e3,List.eq_nil_of_length_eq_zero i1.symm]
          · cases h
        | _=>simp[fH] at h
      | _=>cases y <;> simp[fH] at h
theorem JW {ob : Nat → Option AO} : ∀ {ds : List DV} {ys : List XA} {u : List (Nat × AO)}, iI ob ds ys = some u → ∀ x ∈ u, jG x.2 = true → ob x.1 = some x.2
  | [],[],u,h=>by simp only[iI,bJ] at h;subst h;intro x hx;simp at hx
  | [],_ :: _,_,h=>by simp[iI] at h
  | _ :: _,[],_,h=>by simp[iI] at h
  | d :: ds,y :: ys,u,h=>by
    simp only[iI] at h;split at h
    · rename_i u1 u2 e1 e2;simp only[bJ] at h;subst h;intro x hx hc;rcases dL.1 hx with hx | hx
      · unfold CO at e1;split at e1
        · split at e1
          · rename_i L ty' cells hL;split at e1
            · rename_i ty cs;split at e1
              · rename_i l u' hty hput;simp only[bJ] at e1;subst e1;obtain⟨_,h1,h2⟩:=JV hput;rcases jf.1 hx with rfl | hx
                · have ht := jb hty;subst ht;unfold jG at hc;split at hc
                  · rename_i ty2 f caps e3;simp only[AO.box.injEq] at e3;obtain⟨rfl,rfl⟩:=e3;rw[hL,h2 f caps rfl]
                  · cases hc
                · rw[h1 x hx] at hc;cases hc
              · cases e1
            · cases e1
          · split at e1
            · simp only[bJ] at e1;subst e1;simp at hx
            · cases e1
        · split at e1
          · simp only[bJ] at e1;subst e1;simp at hx
          · cases e1
      · exact JW e2 x hx hc
    · cases h
theorem YB {ms:List Nat}{o:AO}(h:jG o=true):dV ms o=o:=by
 unfold jG at h;split at h
 ·rfl
 ·cases h
theorem zcd {α:Type}{f:α->α}{l:List (Nat×α)}{n:Nat} : lk (kills f l) n=(lk l n).map f:=by
 induction l with
 | nil=>rfl
 | cons x l ih =>
  obtain⟨k,a⟩:=x;rw[kills,aV,aV,ih];split <;> rfl
theorem JX : ∀ {u rest : List (Nat × AO)}, (u.map (·.1)).Nodup → (∀ x ∈ u, jG x.2 = true → lk rest x.1 = some x.2) → ∀ L : Nat, lk ((u.filter fun x => !jG x.2) ++ rest) L = lk (u ++ rest) L
  | [],_,_,_,_=>rfl
  | (k,o) :: u,rest,hn,h,L=>by
    rw[nG,List.nodup_cons] at hn;have ih:=JX hn.2 (λ y hy=>h y (je _ hy)) L;cases hc:jG o with
    | false =>
      rw[List.filter_cons_of_pos (by simp[hc]),List.cons_append,List.cons_append,aV,aV,ih]
    | true =>
      rw[List.filter_cons_of_neg (by simp[hc]),List.cons_append,aV,ih];split
      · rename_i e;subst e;have h0:=h (k,o) kR hc;rw[fC];cases hu:lk u k with
        | none=>exact h0
        | some o2=>exact (hn.1 (vC.2 ⟨_,dY hu,rfl⟩)).elim
      · rfl
theorem bU.objs_congr (S:bU P nt B w0 h0 g σ a w){l:List (Nat×AO)}(h:∀ L,lk l L=lk σ.aB L):bU P nt B w0 h0 g { σ with aB:=l } a w :=
 ⟨S.dfr,S.size,S.env,λ L o ho=>S.obj L o (by rw[<- h];exact ho),λ L o b ho=>S.own L o b (by rw[<- h];exact ho),
  λ L o b L' o' ho ho'=>S.sep L o b L' o' (by rw[<- h];exact ho) (by rw[<- h];exact ho'),S.hw,S.le0,S.hn,S.below,S.bs,
  λ t d ht L hL=>by rw[h];exact S.clE t d ht L hL,λ L o ho M hM=>by rw[h];exact S.clO L o (by rw[<- h];exact ho) M hM⟩
theorem Wq {sf : jv} {o : Oper} {A : aH} {gf : FuncId} {C : MK} {ds : List DV} {vals : List Value} (hall : iE P Γ) (S : bU P nt B w0 h0 g σ a w) (hd : dE nt o.dst = true) (hnd : ∀ c, o.op ≠ .defer c)
    (hC:Γ.mt gf=some C) (hrun:dA P gf->(execOp a.eval o).run P w=.ok (.enter gf vals.toArray) w) (hds:RL (oJ g) ds vals)
    (hcap:∀ f np ls,sf=some (f,np,ls)->∀ (k L:Nat),ls[k]? = some L->vals[np+k]? = some (uw (g.bk L)))
    (hA:pg C sf ds (lk σ.aB)=A) (hs:A.safe):gV P nt B w0 h0 r n i o A σ a w Q:=by
  letI:df:=match sf with | some (f,np,ls)=>⟨f,np,ls.map g.bk⟩ | none=>⟨0,0,[]⟩
  have hsf:Tu g sf:=λ f np ls e=>by subst e;exact⟨rfl,rfl,rfl⟩
  have hsv:∀ k b,(df.bs)[k]? = some b->vals[df.np+k]? = some (uw b):=by
    cases sf with
    | none=>intro k b hk;have hk:([]:List Nat)[k]? = some b:=hk;simp at hk
    | some y =>
      obtain⟨f,np,ls⟩:=y;intro k b hk;have hk:(ls.map g.bk)[k]? = some b:=hk;rw[VJ] at hk;obtain⟨L,hL,rfl⟩:=RZ.1 hk;exact hcap f np ls rfl k L hL
  unfold pg at hA;split at hA
  · rename_i xs ls ms has;split at hA
    · rename_i rs ys hCx;split at hA
      · rename_i u hput;split at hA
        · rename_i hcond0;subst hA;simp only[fE,Nat.ble_eq] at hcond0;have hcond:=hcond0.1;obtain⟨x1,x2,x3⟩:=Wj S hsf has hds;have hkb:∀ b∈mr w xs vals,∃ L∈ls,∃ o',lk σ.aB L=some o'/\fB g L o' b:=λ b hb=>by
            rw[x2] at hb;obtain⟨L,hL,hb⟩:=jE.1 hb;unfold kB at hb;split at hb
            · rename_i o' ho';exact⟨L,hL,o',ho',Lr hb⟩
            · simp at hb
          obtain⟨hcall,znR⟩:=hall.mt gf C hC xs ys rs hCx w g.h B vals x1 hsv (by rw[x2];exact BG S (jU hcond.1)) (λ b hb=>by
            obtain⟨L,_,o',h1,h2⟩:=hkb b hb;exact S.own L o' b h1 h2) S.hw S.bs
          refine nM hnd (w':=w) (f:=gf) (args:=vals.toArray) (hrun hcall) (znR.mono ?_);rintro e w' ⟨h',v,rfl,hres,hys,hnd',hown,hle,hw',hn',hX⟩;refine⟨v,rfl,?_⟩;let nv:=asN w' (lk σ.aB) ds vals;let g':Gh:=⟨h',g.bk,λ M=>match lk nv M with | some x=>x | none=>g.sv M,g.iv⟩;have zDE:ms.Nodup:=by
            match ms,hcond.2 with
            | [],_=>exact List.nodup_nil
            | [x],_=>simp
            | _ :: _ :: _,h=>simp at h
          have hkeys:nv.map (·.1)=ms:=Po hput has hys;obtain⟨p1,p2,p3,p4⟩:=Wl (P:=P) (B:=B) (g:=g) (h':=h') (w':=w') (g':=g') rfl (λ _=>rfl) (λ f np ls e=>hsf f np ls e) S hput has hds hys (λ x hx=>by
            have:=Ag (l:=nv) (by rw[hkeys];exact zDE) (show (x.1,x.2)∈nv from hx);show (match lk nv x.1 with | some x=>x | none=>g.sv x.1)=x.2;rw[this])
          have hul:∀ L∈ls,∃ o',lk u L=some o':=λ L hL=>vH (by rw[p3];exact hL);have S1:=S.swap (u:=u) (kl:=ms) (K:=mr w xs vals) (g':=g') hle hw' (λ _=>rfl) (λ M hM=>⟨rfl,by
              show (match lk nv M with | some x=>x | none=>g.sv M)=g.sv M;cases hk:lk nv M with
              | none=>rfl
              | some x=>exact (hM (by rw[<- hkeys];exact vC.2 ⟨_,dY hk,rfl⟩)).elim,rfl⟩)
            (λ L hL=>by obtain⟨x,hx⟩:=hul L (JU has L hL);rw[hx];simp) hX
            (λ b hb=>by obtain⟨L,hL,o',h1,h2⟩:=hkb b hb;obtain⟨x,hx⟩:=hul L hL;exact⟨L,x,o',hx,h1,h2⟩)
            (λ L x hx=>(p1 _ (dY hx)).2.2)
            (λ L x b hx hb=>hown b (by rw[p2];exact jE.2 ⟨_,dY hx,Ae (p1 _ (dY hx)).1 hb⟩))
            (λ L x b L' x' hx hx' hb hb'=>by
              rw[p2] at hnd';have:=Af hnd' (L,x) (L',x') b (dY hx) (dY hx') (Ae (p1 _ (dY hx)).1 hb) (Ae (p1 _ (dY hx')).1 hb');exact congrArg Prod.fst this)
            (λ L x hx=>(p1 _ (dY hx)).2.1) (λ b o h=>hn' b o h) σ.log
          refine⟨g',_,rfl,?_⟩;rw[zcb];have S2:=S1.put (v:=v) (d:=resD rs) hd (Tq (g:=g') hres) (λ L hL=>by rw[EU] at hL;simp at hL) σ.log;refine S2.objs_congr λ L=>JX (by rw[p3];exact jU hcond.1) (λ x hx hc=>?_) L;rw[zcd,JW hput x hx hc];exact congrArg some (YB hc)
        · subst hA;exact hs.elim
      · subst hA;exact hs.elim
    · subst hA;exact hs.elim
  · subst hA;exact hs.elim
end
end Go.Pm
namespace Go.Pm
variable [aJ]
open Go.RowKit (Below)

section
variable {P:Program}{Γ:aX}{nt B:Nat}{w0:World}{h0:Fz}{g:Gh}{σ:St}{a:Act}{w:World}{r:Option Nat}{n i:Nat}{Q:Exit->Act->World->Prop}

def zg7 (d:DV):List Cl:=match d with | .one (.c c)=>[c] | _=>[.junk]

theorem yx (S : bU P nt B w0 h0 g σ a w) : ∀ (l : List Operand), RL (gJ g) (l.flatMap fun x => zg7 (eH σ.env x)) (l.map a.eval)
  | []=>trivial
  | x :: r=>by
    have h:=S.ev x;simp only[lJ,nG];unfold zg7;cases he:eH σ.env x with
    | one d =>
      cases d with
      | c c=>rw[he] at h;exact⟨h,yx S r⟩
      | agg cs=>exact⟨trivial,yx S r⟩
    | tup ds=>exact⟨trivial,yx S r⟩

theorem EZ {h:Fz}{l:List PV}{vs:List Value}(hr:RL (Rep h) l vs):l.length=vs.length/\∀ (j:Nat) (x:PV) (v:Value),l[j]? = some x->vs[j]? = some v->Rep h x v :=
 ⟨hr.length,λ j x v hx hv=>by obtain⟨u,hu,hxu⟩:=hr.get j x hx;rw[hu] at hv;simp only[bJ] at hv;rw[<- hv];exact hxu⟩

theorem Ws (S : bU P nt B w0 h0 g σ a w) : ∀ (l : List Operand) {cs : List o6}, xY (eH σ.env) l = some cs → RL (CQ g) cs (l.map a.eval) ∧ ∀ L ∈ jr cs, ∃ o, lk σ.aB L = some o
  | [],cs,h=>by simp only[xY,bJ] at h;subst h;exact⟨trivial,λ L hL=>by simp[jr] at hL⟩
  | x :: l,cs,h=>by
    simp only[xY] at h;split at h
    · rename_i c cs' hc hl;simp only[bJ] at h;subst h;obtain⟨i1,i2⟩:=Ws S l hl;have hx:=S.ev x;have hxl:=S.evLab x;unfold zv4 at hc;split at hc
      · rename_i v he;simp only[bJ] at hc;subst hc;rw[he] at hx;exact⟨⟨hx,i1⟩,i2⟩
      · rename_i L he;simp only[bJ] at hc;subst hc;rw[he] at hx hxl;refine⟨⟨hx,i1⟩,λ M hM=>?_⟩;simp only[jr,jf] at hM;rcases hM with rfl | hM
        · exact hxl M (by simp[bY,cZ,bi])
        · exact i2 M hM
      · cases hc
    · cases h
theorem TA : ∀ {cs : List o6} {vs : List Value}, RL (CQ g) cs vs → RL (oJ g) (cs.map capD) vs
  | [],[],_=>trivial
  | [],_ :: _,h=>h.elim
  | _ :: _,[],h=>h.elim
  | .v _ :: _,_ :: _,h=>⟨h.1,TA h.2⟩
  | .b _ :: _,_ :: _,h=>⟨h.1,TA h.2⟩

theorem YC {ev:Operand->DV}{fs ls:List Operand}{l:List PV}(h:Js ev fs ls=some l):∃ x cs,fs=[x]/\ls=[]/\ev x=.one (.agg cs)/\iO cs=some l:=by
 unfold Js at h;split at h
 ·rename_i x;split at h
  ·rename_i cs hx;exact⟨x,cs,rfl,rfl,hx,h⟩
  ·cases h
 ·cases h
theorem Ls {o : Oper} {f : FuncId} {first caps : Array Operand} {A : aH} (S : bU P nt B w0 h0 g σ a w) (hd : dE nt o.dst = true) (hop : o.op = .makeFunc (.func f) first caps)
    (hA:act P Γ o (eH σ.env) (lk σ.aB)=A) (hs:A.safe):gV P nt B w0 h0 r n i o A σ a w Q:=by
  simp only[act,aMf,hop] at hA;have e:∀ l:Array Operand,l.map a.eval=(l.toList.map a.eval).toArray:=λ l=>by cases l;simp
  split at hA
  · split at hA
    · rename_i cs hf hc;subst hA;obtain⟨i1,i2⟩:=Ws S caps.toList hc;refine lW (by simp[hop]) (v:=.func (.func f) #[] (caps.toList.map a.eval).toArray) (w':=w) ?_ ⟨g,_,rfl,?_⟩
      · simp only[execOp,hop,Instr.makeFunc,fD,iT,fM,e,hf,List.map_nil]
      · rw [eu];exact S.put (d:=.cl (.clo f cs)) hd ⟨_,rfl,i1⟩ (λ L hL=>i2 L (by simpa [bY,cZ,bi] using hL)) _
    · subst hA;exact hs.elim
  split at hA
  · rename_i l hb;subst hA;obtain⟨x,cs,e1,e2,hx,hl⟩:=YC hb;have h1:=S.ev x;rw[hx] at h1;obtain⟨vs,hv,hr⟩:=h1;rw[kY hl] at hr;have hr:RL (λ (x:PV) y=>gJ g (.p x) y) l vs:=RL.map_left.1 hr;have hr:RL (Rep g.h) l vs:=hr.mono λ _ _ h=>h;have r1:=EZ hr;refine lW (by simp[hop]) (v:=.func (.func f) #[.agg vs.toArray] #[]) (w':=w) ?_ ⟨g,_,rfl,?_⟩
    · simp only[execOp,hop,Instr.makeFunc,fD,iT,fM,e,e1,e2,nG,List.map_nil,hv]
    · rw [eu];exact S.put (d:=.p (.fna f l)) hd (Rep.fna f l vs r1.1 r1.2) (iV _) _
  split at hA
  · rename_i l u l' u' h1 h2;subst hA;have h1:o7 (lk σ.aB) (first.toList.flatMap λ x=>zg7 (eH σ.env x))=some (l,u):=h1;have h2:o7 (lk σ.aB) (caps.toList.flatMap λ x=>zg7 (eH σ.env x))=some (l',u'):=h2;obtain⟨h',S1,F⟩:=S.freeze ((Dk h1).append (Dk h2));have r1:=EZ (F.repL h1 (λ y hy=>dL.2 (.inl hy)) (yx S first.toList));have r2:=EZ (F.repL h2 (λ y hy=>dL.2 (.inr hy)) (yx S caps.toList));have hv:Rep h' (.fn f l l') (.func (.func f) (first.toList.map a.eval).toArray (caps.toList.map a.eval).toArray):=.fn f l l' _ _ r1.1 r2.1 r1.2 r2.2;refine lW (by simp[hop]) (v:=.func (.func f) (first.toList.map a.eval).toArray (caps.toList.map a.eval).toArray) (w':=w) ?_ ⟨⟨h',g.bk,g.sv,g.iv⟩,_,rfl,?_⟩
    · simp only[execOp,hop,Instr.makeFunc,fD,iT,fM,e]
    · rw [eu];exact S1.put (d:=.p (.fn f l l')) hd hv (λ L hL=>by simp[bY,cZ,bi] at hL) _
  · subst hA;exact hs.elim

theorem Du {h h':Fz}{p:PV}{v:Value}(hs:iD p=true) (hr:Rep h' p v):Rep h p v:=by
 cases hr with
 | bool b=>exact .bool b
 | int k n=>exact .int k n
 | _=>cases hs
theorem yz {h h' : Fz} : ∀ {l : List PV} {vs : List Value}, l.all iD = true → RL (Rep h') l vs → RL (Rep h) l vs
  | [],[],_,_=>trivial
  | [],_ :: _,_,hr=>hr.elim
  | _ :: _,[],_,hr=>hr.elim
  | p :: l,v :: vs,hs,hr=>by
    simp only[List.all_cons,fE] at hs;exact⟨Du hs.1 hr.1,yz hs.2 hr.2⟩
theorem Wu {h h':Fz}{x:PA}{v:Value}(hs:zbz x=true) (hr:kL h' x v):kL h x v:=by
 cases x with
 | one p=>exact Du hs hr
 | agg cs =>
  obtain⟨vs,rfl,hr⟩:=hr;exact⟨vs,rfl,yz hs hr⟩
theorem E5 {h h' : Fz} : ∀ {l : List PA} {vs : List Value}, l.all zbz = true → RL (kL h') l vs → RL (kL h) l vs
  | [],[],_,_=>trivial
  | [],_ :: _,_,hr=>hr.elim
  | _ :: _,[],_,hr=>hr.elim
  | p :: l,v :: vs,hs,hr=>by
    simp only[List.all_cons,fE] at hs;exact⟨Wu hs.1 hr.1,E5 hs.2 hr.2⟩
theorem zce {h h':Fz}{rs:List PA}{v:Value}(hs:Ov rs=true) (hr:nJ h' rs v):nJ h rs v:=by
 match rs,hs,hr with
 | [],_,⟨vs,e,r⟩=>exact⟨vs,e,E5 rfl r⟩
 | [x],hs,hr =>
  simp only[Ov,List.all_cons,List.all_nil,Bool.and_true] at hs;exact Wu hs hr
 | x :: y :: l,hs,⟨vs,e,r⟩=>exact⟨vs,e,E5 hs r⟩

def uH (h h' h2:Fz):Fz:=λ b=>match h b,h' b with
 | none,some _=>none
 | _,_=>h2 b
theorem Pq {h h' h2:Fz}(h1:iP h h') (h3:iP h' h2):iP h (uH h h' h2):=λ b o hb=>by
 show (match h b,h' b with | none,some _=>none | _,_=>h2 b)=some o;rw[hb];exact h3 b o (h1 b o hb)
theorem Ah {h h' h2:Fz} : iP (uH h h' h2) h2:=λ b o hb=>by
 have hb:(match h b,h' b with | none,some _=>none | _,_=>h2 b)=some o:=hb;split at hb
 ·cases hb
 ·exact hb
theorem JY {h h' h2:Fz}{n:Nat}(h1:iP h h') (hn:∀ b o,h2 b=some o->h' b=some o\/n<=b) (b:Nat) (o:OE) (hb:uH h h' h2 b=some o):h b=some o\/n<=b:=by
 have hb2:=Ah b o hb;have hb:(match h b,h' b with | none,some _=>none | _,_=>h2 b)=some o:=hb;rcases hn b o hb2 with h4 | h4
 ·cases e:h b with
  | none=>rw[e,h4] at hb;cases hb
  | some x =>
   have:=h1 b x e;rw[h4] at this;exact .inl this.symm
 ·exact .inr h4
theorem TC {h h' h2:Fz}{k:Nat}(hk:h2 k=none):uH h h' h2 k=none:=by
 show (match h k,h' k with | none,some _=>none | _,_=>h2 k)=none;split
 ·rfl
 ·exact hk
theorem Wv : ∀ {l : List PV} {o : Nat} {x y : PV}, zbA l = true → l[o]? = some x → l[o + 1]? = some y → iD x = true → iD y = true → False
  | [],o,x,y,_,hx,_,_,_=>by simp at hx
  | [a],0,x,y,_,_,hy,_,_=>by simp at hy
  | [a],o+1,x,y,_,hx,_,_,_=>by simp at hx
  | a :: b :: r,0,x,y,h,hx,hy,h1,h2=>by
    simp at hx hy;subst hx hy;simp[zbA,h1,h2] at h
  | a :: b :: r,o+1,x,y,h,hx,hy,h1,h2=>by
    simp only[zbA,fE] at h;exact Wv (l:=b :: r) h.2 (by simpa using hx) (by simpa using hy) h1 h2
theorem E8 {h h':Fz}{p q:PV}{v:Value}(hs:iD p=true) (hp:Rep h p v) (hq:Rep h' q v):iD q=true:=by
 cases hp with
 | bool b=>cases hq with
  | bool=>rfl
 | int k n=>cases hq with
  | int=>rfl
 | _=>cases hs
theorem Pv {u:jT}(h:VK u=true):∀ x∈u,∃ l,x.2=.fbox l/\∀ v∈l,iD v=false:=by
 intro y hy;unfold VK at h;split at h
 ·rcases jf.1 hy with rfl | hy
  ·refine ⟨_, rfl, fun v hv => ?_⟩;have:=List.all_eq_true.1 h v hv;simpa using this
  ·rcases jf.1 hy with rfl | hy
   ·exact⟨_,rfl,λ v hv=>by simp only[jM] at hv;subst hv;rfl⟩
   ·simp at hy
 ·cases h
theorem JZ {g : Gh} {ob : Nat → Option AO} {u : jT} {h' h2 : Fz} (F : ed g ob u h') (hu : dW ob u) (hno : ∀ x ∈ u, ∃ l, x.2 = .fbox l ∧ ∀ v ∈ l, iD v = false) (hle : iP h' h2) {p : PV} (ha : Anch p) :
  ∀ {v:Value},Rep h2 p v->Rep (uH g.h h' h2) p v:=by
 induction ha with
 | scal v h=>intro x hr;exact Du h hr
 | nils=>intro x hr;cases hr;exact .nils
 | sl n s get h hel ih =>
  intro x hr;cases hr with
  | sl0 _ _ hun=>exact .sl0 _ _ hun
  | sle _ _ a cap hun=>exact .sle _ _ a cap hun
  | sl _ _ _ hun b o cap C ty fr vs hb hcap hlen hc hr =>
   cases n with
   | zero=>exact .sle _ _ _ _ hun
   | succ m =>
   refine .sl _ _ _ hun b o cap C ty fr vs ?_ hcap hlen hc λ i j x hi hx=>ih i x (DW hx) (hr i j x hi hx);show (match g.h b,h' b with | none,some _=>none | _,_=>h2 b)=_;cases e1:g.h b with
   | some y=>exact hb
   | none =>
    cases e2:h' b with
    | none=>exact hb
    | some y =>
     exfalso;have hy:y=.fz (.cells C ty fr):=by
      have:=hle b y e2;rw[hb] at this;exact (Option.some.inj this).symm
     subst hy;obtain⟨L,x,o',hm,hL,hk⟩:=F.new b e1 _ e2;obtain⟨l0,hl0,hns⟩:=hno _ hm;simp only at hl0;subst hl0;rcases hu _ hm with ⟨e,s,b',n,get',_,e3⟩ | ⟨ty',cells,l,us,e4,e3,e5,e6⟩ | ⟨te,bb,e,s,b',n,ln,get',_,e3⟩
     ·cases e3
     ·simp only at e3 e4;cases e3;rw[hL] at e4;simp only[bJ] at e4;subst e4;obtain⟨C',hC',hrl⟩:=F.box L ty' cells l0 us hL e5 e6 hm;have hk:g.bk L=b:=hk;subst hk;rw[e2] at hC';simp only[bJ,OE.fz.injEq,Obj.cells.injEq] at hC';obtain⟨rfl,rfl,rfl⟩:=hC';obtain⟨j,x0,hx0,hs0⟩:=h 0;have c0:=hc 0 j x0 (by omega) hx0;have hl:=hrl.length;have hlt:o+0 * s+j < l0.length:=by
       have:=(RX.1 c0).1;simp only[Array.length_toList] at hl;omega
      obtain⟨v0,hv0,r0⟩:=hrl.get _ _ (zL hlt);have hv0:C[o+0 * s+j]? = some v0:=by simpa using hv0
      rw[hv0] at c0;simp only[bJ] at c0;subst c0;have:=E8 hs0 (hr 0 j x0 (by omega) hx0) r0;rw[hns _ (List.getElem_mem hlt)] at this;cases this
     ·cases e3
theorem yA {x y:PV}(h:Sm x y):iD x=iD y:=by cases h <;> rfl
theorem zcf:∀ {d:Nat}{x y:PV},Sm x y->wG d x=true->wG d y=true:=by
 intro d
 induction d with
 | zero=>intro x y _ h;cases h
 | succ d ih =>
  intro x y hs h;have hs2:=yA hs;cases hs with
  | sl n m s g g' hl hg =>
   have hr:=(Sm.rows (.sl n m s g g' hl hg)).2 0 0;simp only[wG,fE,List.any_eq_true,List.all_eq_true] at h ⊢;obtain⟨⟨x,hx,hxs⟩,h2⟩:=h;obtain⟨j,hj⟩:=List.getElem?_of_mem hx;obtain⟨y,hy,r⟩:=RL.get hr j x hj;refine⟨⟨y,DW hy,by rw[<- yA r];exact hxs⟩,λ z hz=>?_⟩;obtain⟨k,hk⟩:=List.getElem?_of_mem hz;obtain⟨u,hu,r⟩:=RL.get' hr k z hk;exact ih r (h2 u (DW hu))
  | int k a b=>rfl
  | bool a b=>rfl
  | fp l l' o hl hg=>exact h
  | atom p hp=>exact h
theorem Px {d:Nat}{g:Nat->List PV}(hu:pq g) (h:(g 0).all (wG d)=true){i:Nat}{x:PV}(hx:x∈g i):wG d x=true:=by
 obtain⟨j,hj⟩:=List.getElem?_of_mem hx;obtain⟨y,hy,r⟩:=RL.get' (hu 0 i) j x hj;exact zcf r (List.all_eq_true.1 h y (DW hy))
theorem Py:∀ {d:Nat}{x:PV},wG d x=true->Sm x x->Anch x:=by
 intro d
 induction d with
 | zero=>intro x h;cases h
 | succ d ih =>
  intro x h hs;unfold wG at h;split at h
  ·exact .nils
  ·rename_i n s g;rw[fE] at h;have hu:pq g:=hs.rows.2;refine .sl _ _ _ (λ i=>?_) λ i y hy=>?_
   ·obtain ⟨x, hx, hxs⟩ := List.any_eq_true.1 h.1;obtain⟨j,hj⟩:=List.getElem?_of_mem hx;obtain⟨y,hy,r⟩:=RL.get (hu 0 i) j x hj;exact⟨j,y,hy,by rw[<- yA r];exact hxs⟩
   ·refine ih (Px hu h.2 hy) ?_;obtain⟨j,hj⟩:=List.getElem?_of_mem hy;obtain⟨z,hz,r⟩:=RL.get (hu i i) j y hj;rw[hj] at hz;cases hz;exact r
  ·exact .scal _ h
theorem znT {l m:List PV}(h:RS l m) (hs:sc2 l=true):sc2 m=true:=by
 simp only[sc2,fE,List.all_eq_true,Nat.ble_eq] at hs ⊢;refine⟨λ x hx=>?_,by rw[<- h.length];exact hs.2⟩;obtain⟨j,hj⟩:=List.getElem?_of_mem hx;obtain⟨y,hy,r⟩:=RL.get' h j x hj;rw[<- yA r];exact hs.1 y (DW hy)
theorem zcg {l m:List PV}(h:RS l m) (hs:l.all iD=true):m.all iD=true:=by
 rw[List.all_eq_true] at hs ⊢;intro x hx;obtain⟨j,hj⟩:=List.getElem?_of_mem hx;obtain⟨y,hy,r⟩:=RL.get' h j x hj;rw[<- yA r];exact hs y (DW hy)
theorem bU.borrow (S : bU P nt B w0 h0 g σ a w) {u : jT} {h' h2 hx : Fz} {w' : World} (F : ed g (lk σ.aB) u h') (hb : tN h' w.heap.size w w') (hw2 : Hw h2 w')
    (h1:iP g.h hx) (h3:iP hx h2) (h4:∀ b o,hx b=some o->g.h b=some o\/w.heap.size<=b):bU P nt B w0 h0 ⟨hx,g.bk,g.sv,g.iv⟩ σ a w' :=
  S.world h1 (λ b x hb'=>hw2 b x (h3 b x hb')) h4 ⟨hb.os,hb.tape,hb.output,hb.size,hb.drawn,λ k hk=>hb.block k hk⟩


theorem ownsRow_base {w:World}{base B e s n:Nat}{v:Value}{xs:List Value}(h:w.ownsRow base e s v n xs) (hB:∀ k,base<=k->v.ownBlock=some k->B<=k):w.ownsRow B e s v n xs:=by
 refine⟨h.1,?_⟩;rcases h.2 with hn | ⟨k,cap,cur,rfl,hk,rest⟩
 ·exact .inl hn
 ·exact .inr ⟨k,cap,cur,rfl,hB k hk rfl,rest⟩

theorem Wx {args:Array Operand}{ev:Operand->DV}{p:DV}(h:args.toList.map ev=[p]):∃ x,args = #[x]/\ev x=p:=by
 match hl:args.toList,h with
 | [x],h =>
  simp at h;exact⟨x,by rw[<- Array.toArray_toList (xs:=args),hl],h⟩
 | [],h=>simp at h
 | _ :: _ :: _,h=>simp at h

theorem zg8 {e m s:Nat}{get:Nat->List PV}{args:Array Operand}(S:bU P nt B w0 h0 g σ a w) (h:znv P e (args.toList.map (eH σ.env))=some (m,s,get)):∃ x,args = #[x]/\Rep g.h (.sl m s get) (a.eval x):=by
 generalize hl:args.toList.map (eH σ.env)=l at h;unfold znv at h;split at h
 ·cases h;obtain⟨x,rfl,hx⟩:=Wx hl;exact⟨x,rfl,iq S hx⟩
 ·split at h
  ·rename_i z hz;split at h
   ·rename_i k hk;cases h;obtain⟨x,rfl,hx⟩:=Wx hl;have:=iq S hx;refine⟨x,rfl,?_⟩;generalize a.eval x=v at this;cases this;exact .sl0 _ _ λ _ _=>Dj hz hk
   ·cases h
  ·cases h
 ·cases h
theorem Pz {α : Type} : ∀ {l m : List α} {x : α}, Ec l = some (m, x) → l = m ++ [x]
  | [],m,x,h=>by cases h
  | d :: r,m,x,h=>by
    simp only[Ec] at h;split at h
    · rename_i l' y e;cases h;rw[Pz e];rfl
    · rename_i e;cases h;cases r with
      | nil=>rfl
      | cons y r =>
        simp only[Ec] at e;split at e <;> cases e
theorem J3 {f:Operand->DV}{args:Array Operand}{ds:List DV}{d:DV}(h:Ec (args.toList.map f)=some (ds,d)):∃ (xs:List Operand) (x:Operand),args.toList=xs ++ [x]/\ds=xs.map f/\f x=d:=by
 obtain⟨xs,ys,e1,e2,e3⟩:=List.map_eq_append_iff.1 (Pz h)
 match ys,e3 with
 | [x],e3 =>
  simp only[nG,List.map_nil,Bq,and_true] at e3;exact⟨xs,x,e1,e2.symm,e3⟩
theorem PD {f:Operand->Value}{args:Array Operand}{xs:List Operand}{x:Operand}(h:args.toList=xs ++ [x]):(#[] ++ Array.map f args ++ #[])=(xs.map f ++ [f x]).toArray:=by
 have e:args=(xs ++ [x]).toArray:=by rw[<- h]
 subst e;simp
theorem zch {o : Oper} {f : Operand} {args : Array Operand} {ts : Array TypeId} {A : aH} {gf : FuncId} {e s b : Nat} {F : List PA → Nat → (Nat → List PV) → ae (Nat × (Nat → List PV))} (hok : dX P gf (.grow e s b F)) (S : bU P nt B w0 h0 g σ a w) (hd : dE nt o.dst = true)
    (hop:o.op=.call { callee:=.value f,args,argTypes:=ts }) (hfv:a.eval f=.func (.func gf) #[] #[])
    (hA:iU P Γ o (.grow e s b F) (args.toList.map (eH σ.env)) (lk σ.aB)=A) (hs:A.safe):gV P nt B w0 h0 r n i o A σ a w Q:=by
  unfold iU at hA;simp only at hA;split at hA
  · rename_i ds L hlast;obtain⟨xs,x,hargs,rfl,hx⟩:=J3 hlast;split at hA
    · rename_i az e' s' b' n get has hL;split at hA
      · rename_i m get' hF;split at hA
        · rename_i hcond;obtain⟨rfl,rfl,rfl⟩:=hcond;subst hA;obtain⟨⟨hxv,hone⟩,_⟩:=gy S hx;obtain⟨hpos,hinfo,ys,hys,hr⟩:=S.obj L _ hL;have hav:=S.frozen0.repDs has (λ y hy=>hy) (BF S xs);obtain⟨hcall,hrun⟩:=hok w g.h B az (xs.map a.eval) (g.sv L) n get m get' hF hav (by rw[<- hxv];exact hone) hpos hinfo ⟨ys,hys,hr⟩ (λ k hk=>S.own L _ k hL hk) S.hw S.bs;refine nM (by simp[hop]) (w':=w) (f:=gf) (args:=(xs.map a.eval ++ [g.sv L]).toArray) ?_ (hrun.mono ?_)
          · simp only [execOp, hop, resolve, hfv, Deferred.ofValue, fD, iT, fM, invoke];rw[show (#[] ++ Array.map a.eval args ++ #[])=(xs.map a.eval ++ [g.sv L]).toArray by rw[<- hxv];exact PD hargs];exact dQ hcall
          rintro r0 w' ⟨h2,v',rfl,PE,Tf,⟨zs,hzs,hrz⟩,hblk,hle,hw2,hn2,hX⟩;let g':Gh:=⟨h2,g.bk,λ M=>if M=L then v' else g.sv M,g.iv⟩;have hsv:g'.sv L=v':=if_pos rfl;have zci:∀ M x,lk [(L,AO.vec e' s' b' m get')] M=some x->M=L/\x=.vec e' s' b' m get':=λ M x h=>by
            rw[aV] at h;split at h
            · rename_i e;exact⟨e.symm,(Option.some.inj h).symm⟩
            · cases h
          have S1 := S.swap (u := [(L, .vec e' s' b' m get')]) (kl := [L]) (K := (g.sv L).ownBlock.toList) (g' := g') hle hw2 (fun _ => rfl)
            (λ M hM=>⟨rfl,if_neg λ e=>hM (by rw[e];exact jM.2 rfl),rfl⟩)
            (λ M hM=>by rw[jM.1 hM,aV,if_pos rfl];simp) hX
            (λ k hk=>⟨L,_,_,by rw[aV,if_pos rfl],hL,(show (g.sv L).ownBlock=some k by simpa using hk)⟩)
            (λ M x hx=>by obtain⟨rfl,rfl⟩:=zci M x hx;exact⟨⟨Tf,hpos.2⟩,hinfo,zs,by rw[hsv];exact hzs,hrz⟩)
            (λ M x k hx hk=>by obtain⟨rfl,rfl⟩:=zci M x hx;exact hblk k (by rw[<- hsv];exact hk))
            (λ M x k M' x' hx hx' _ _=>by rw[(zci M x hx).1,(zci M' x' hx').1])
            (λ M x hx N hN=>by obtain⟨rfl,rfl⟩:=zci M x hx;simp[dJ] at hN) (λ k y hk=>hn2 k y hk) σ.log
          refine⟨v',rfl,g',_,rfl,?_⟩;rw[zcb];refine S1.put (v:=v') hd (d:=.cl (.vec L)) ⟨hsv.symm,PE⟩ (λ M hM=>?_) σ.log;simp[bY,cZ,bi] at hM;subst hM;exact⟨_,by rw[List.singleton_append,aV,if_pos rfl]⟩
        · subst hA;exact hs.elim
      · subst hA;exact hs.elim
    · subst hA;exact hs.elim
  · rename_i ds hlast;obtain⟨xs,x,hargs,rfl,hx⟩:=J3 hlast;split at hA
    · rename_i az dst has hdst;split at hA
      · rename_i ie z hfresh hi hz;split at hA
        · rename_i l hl;split at hA
          · rename_i m get' hF;split at hA
            · rename_i hcond;obtain⟨hsz,rfl,hpos⟩:=hcond;subst hA;obtain⟨zv,hzv,hzs⟩:=gI hz hi;have hxv:a.eval x=.slice none 0 0:=by
                have:=iq S hx;generalize a.eval x=v at this;cases this;rfl
              have hnb:(a.eval x).ownBlock=none:=by rw[hxv];rfl
              have hav:=S.frozen0.repDs has (λ y hy=>hy) (BF S xs);have hinfo:∃ i z,P.info? e=some i/\i.size=s/\i.bytes=ie.bytes/\i.zero=some z/\z.cells.size=s:=⟨ie,zv,hi,hsz,rfl,hzv,by rw[hzs,hsz]⟩;obtain⟨hcall,hrun⟩:=hok w g.h B az (xs.map a.eval) (a.eval x) 0 (λ _=>l) m get' hF hav (by rw[hxv];rfl) ⟨Ef (Dj hz hl),hpos⟩ hinfo ⟨[],by rw[hxv];exact World.ownsRow_nil w B e s,λ i hi=>absurd hi (by omega)⟩ (λ k hk=>by rw[hnb] at hk;cases hk) S.hw S.bs;refine nM (by simp[hop]) (w':=w) (f:=gf) (args:=(xs.map a.eval ++ [a.eval x]).toArray) ?_ (hrun.mono ?_)
              · simp only [execOp, hop, resolve, hfv, Deferred.ofValue, fD, iT, fM, invoke];rw[PD hargs];exact dQ hcall
              rintro r0 w' ⟨h2,v',rfl,PE,Tf,⟨zs,znN,hrz⟩,hblk,hle,hw2,hn2,hX⟩;have hbk:∀ k,v'.ownBlock=some k->w.heap.size<=k/\h2 k=none:=λ k hk=>by
                obtain⟨h3,h4⟩:=hblk k hk;exact⟨h3.elim (λ h=>by rw[hnb] at h;simp at h) id,h4⟩
              have S2:=S.world hle hw2 (λ k y hk=>by
                rcases hn2 k y hk with h | h | h
                · exact .inl h
                · exact .inr h
                · rw[hnb] at h;simp at h) ⟨hX.os,hX.tape,hX.output,hX.size,hX.drawn,λ k hk=>hX.block k hk (by rw[hnb];simp)⟩
              have S3:=S2.adopt (t:=dst) (v:=v') (e:=e) (s:=s) (b:=ie.bytes) (n:=m) (get:=get') hfresh (λ k hk=>⟨Bv S.bs (hbk k hk).1,(hbk k hk).2,λ L o ho hob=>by
                  have fO:fB g L o k:=hob;have:=gm (S.obj L o ho) fO;have:=(hbk k hk).1;omega⟩) (by
                refine⟨⟨Tf,hpos⟩,hinfo,zs,?_,hrz⟩;rw[show ((⟨h2,g.bk,g.sv,g.iv⟩:Gh).setSv dst v').sv dst=v' by simp[Gh.setSv]];exact znN)
              refine⟨v',rfl,(⟨h2,g.bk,g.sv,g.iv⟩:Gh).setSv dst v',_,rfl,?_⟩;rw[eu];refine S3.put (v:=v') hd (d:=.cl (.vec dst)) ⟨by simp[Gh.setSv],PE⟩ ?_ _;intro L hL;simp[bY,cZ,bi] at hL;subst hL;exact⟨_,by rw[aV,if_pos rfl]⟩
            · subst hA;exact hs.elim
          · subst hA;exact hs.elim
        · subst hA;exact hs.elim
      · subst hA;exact hs.elim
    · subst hA;exact hs.elim
  · subst hA;exact hs.elim
theorem zg9 {o : Oper} {f : Operand} {args : Array Operand} {ts : Array TypeId} {A : aH} {gf : FuncId} (hall : iE P Γ) (S : bU P nt B w0 h0 g σ a w) (hd : dE nt o.dst = true)
    (hop:o.op=.call { callee:=.value f,args,argTypes:=ts }) (hfv:a.eval f=.func (.func gf) #[] #[])
    (hA:iU P Γ o (Γ.own gf) (args.toList.map (eH σ.env)) (lk σ.aB)=A) (hs:A.safe):gV P nt B w0 h0 r n i o A σ a w Q:=by
  have enter:∀ x,args = #[x]->dA P gf->(execOp a.eval o).run P w=.ok (.enter gf #[a.eval x]) w:=by
    rintro x rfl hcall;simp only[execOp,hop,resolve,hfv,Deferred.ofValue,fD,iT,fM,invoke];rw[show (#[] ++ Array.map a.eval #[x] ++ #[]) = #[a.eval x] by simp];exact dQ hcall
  have hok:=hall.own gf;unfold iU at hA;split at hA
  · subst hA;exact hs.elim
  · rename_i e s b hk;rw[hk] at hok;split at hA
    · rename_i L hf caps hargs;obtain⟨x,y,rfl,hx,hy⟩:=EE hargs;obtain⟨⟨hxv,hone⟩,_⟩:=gy S hx;split at hA
      · rename_i e' s' b' m get ag hL hag;split at hA
        · rename_i hcond;obtain⟨rfl,rfl,rfl⟩:=hcond;subst hA;have hs':znt m (λ i j=>(Ea (Γ.cfn hf) caps ag get i j).isSome) (kT (Γ.cfn hf) caps ag get):=hs;obtain⟨hpos,hinfo,xs,hxs,hr⟩:=S.obj L _ hL;have hown:∀ k,(g.sv L).ownBlock=some k->g.h k=none:=λ k hk=>(S.own L _ k hL hk).2;have hfn:=iq S hy;generalize hyv:a.eval y=yv at hfn;cases hfn with
          | fn _ _ _ fv cv l1 l2 hf1 hc1 =>
            have e1:fv=[]:=List.eq_nil_of_length_eq_zero l1.symm;subst e1;obtain⟨ii,zz,hi1,hi2,_⟩:=hinfo;obtain⟨hcall,hrun⟩:=hok w g.h B (g.sv L) m get hf caps cv ag (Γ.cfn hf) (hall.cmp hf) (EW l2 hc1) hag ⟨ii,hi1,hi2⟩ hpos.2 ⟨xs,hxs,hr⟩ (by rw[<- hxv];exact hone) S.hw hown S.bs hs';refine nM (by simp[hop]) (w':=w) (f:=gf) (args:=#[a.eval x,a.eval y]) ?_ ?_
            · simp only [execOp, hop, resolve, hfv, Deferred.ofValue, fD, iT, fM, invoke];rw[show (#[] ++ Array.map a.eval #[x,y] ++ #[]) = #[a.eval x,a.eval y] by simp];exact dQ hcall
            · rw [hxv, hyv];refine hrun.mono ?_;rintro r0 w' ⟨rfl,⟨xs',zDF,hr'⟩,hg⟩;refine⟨.tuple #[],rfl,g,_,rfl,?_⟩;rw[eu];have hold:∀ k,k < w.heap.size->¬ (g.sv L).ownBlock=some k->w'.heap[k]? = w.heap[k]?:=λ k hk hne=>hg.block k hk (λ e=>hne e.symm)
              have S' := S.write2 (o' := .vec e' s' b' m (Eb m (kT (Γ.cfn hf) caps ag get) get)) hL (fun b hb => hb) ⟨⟨hg.os, hg.tape, hg.output, hg.size, fun k hk => hold k (dqS hk S.bs) (fun e => by have := (S.own L _ k hL e).1; omega)⟩, hg.drawn⟩
                hold ⟨⟨rG hpos.1 _,hpos.2⟩,⟨ii,zz,hi1,hi2,by assumption⟩,xs',zDF,hr'⟩ (λ M hM=>by simp[dJ] at hM)
              exact S'.put (d:=.tup []) hd ⟨[],rfl,trivial⟩ (λ L hL=>by simp[bY] at hL) _
        · subst hA;exact hs.elim
      · subst hA;exact hs.elim
    · subst hA;exact hs.elim
  · rename_i e s b hk;rw[hk] at hok;split at hA
    · rename_i m s' get dst hargs hdst;obtain⟨x,rfl,hx⟩:=zg8 S hargs;split at hA
      · rename_i ie z hfresh hi hz;split at hA
        · rename_i hcond;obtain⟨rfl,hsz,rfl,hpos⟩:=hcond;subst hA;have hs':m * ie.bytes<=140737488355328/\m<=9223372036854775807:=hs;obtain⟨zv,hzv,hzs⟩:=gI hz hi;obtain⟨hcall,hrun⟩:=hok w g.h (a.eval x) m get hx S.hw hs'.1 hs'.2;refine nM (by simp[hop]) (w':=w) (f:=gf) (args:=#[a.eval x]) (enter x rfl hcall) (hrun.mono ?_);rintro r0 w' ⟨h',v',rfl,hone,⟨xs,hxs,hr⟩,hnh,hb,hle,hw',hn'⟩;refine⟨v',rfl,?_⟩;have S2:=S.world hle hw' hn' hb;have hbk:∀ k,v'.ownBlock=some k->w.heap.size<=k:=λ k hk=>(hxs.lt k hk).1;have S3:=S2.adopt (t:=dst) (v:=v') (e:=e) (s:=s') (b:=ie.bytes) (n:=m) (get:=get) hfresh (λ k hk=>⟨Bv S.bs (hbk k hk),hnh k hk,λ L o ho hob=>by
              have fO:fB g L o k:=hob;have:=gm (S.obj L o ho) fO;have:=hbk k hk;omega⟩) (by
            refine⟨⟨hx.un.rows.2,hpos⟩,⟨ie,zv,hi,hsz,rfl,hzv,by rw[hzs,hsz]⟩,xs,?_,hr⟩;rw[show ((⟨h',g.bk,g.sv,g.iv⟩:Gh).setSv dst v').sv dst=v' by simp[Gh.setSv]];exact ownsRow_base hxs λ k hk _=>Bv S.bs hk)
          refine⟨(⟨h',g.bk,g.sv,g.iv⟩:Gh).setSv dst v',_,rfl,?_⟩;rw[eu];refine S3.put (v:=v') hd (d:=.cl (.vec dst)) ⟨by simp[Gh.setSv],hone⟩ ?_ _;intro L hL;simp[bY,cZ,bi] at hL;subst hL;exact⟨_,by rw[aV,if_pos rfl]⟩
        · subst hA;exact hs.elim
      · subst hA;exact hs.elim
    · subst hA;exact hs.elim
  · rename_i e s b F hk;rw[hk] at hok;split at hA
    · rename_i az u dst has hdst;split at hA
      · rename_i n get rs ie z hF hfresh hi hz;split at hA
        · rename_i hcond;obtain⟨hsz,rfl,hpos,zwn,zwo⟩:=hcond;subst hA;obtain⟨zv,hzv,hzs⟩:=gI hz hi;obtain⟨h',S1,F'⟩:=S.freeze (uA has);have hargs:=F'.repDs has (λ y hy=>hy) (BF S args.toList);obtain⟨hcall,hrun⟩:=hok w h' az (args.toList.map a.eval) n get rs hF hargs S1.hw;refine nM (by simp[hop]) (w':=w) (f:=gf) (args:=(args.toList.map a.eval).toArray) ?_ (hrun.mono ?_)
          · simp only [execOp, hop, resolve, hfv, Deferred.ofValue, fD, iT, fM, invoke];rw[show (#[] ++ Array.map a.eval args ++ #[])=(args.toList.map a.eval).toArray by cases args;simp];exact dQ hcall
          rintro r0 w' ⟨h2,v',xs,rfl,hxr,hone,Tf,⟨ys,hys,hr⟩,hnh,hb,hle,hw2,hn2⟩;have hlr:∀ i,i < n->RL (Rep (uH g.h h' h2)) (get i) ((ys.drop (i * s)).take s):=λ i hi=>by
            cases u with
            | nil =>
              refine (hr i hi).mono λ _ _ h=>Rep.mono (λ b o hbo=>?_) h;show (match g.h b,h' b with | none,some _=>none | _,_=>h2 b)=some o;cases e1:g.h b with
              | some y=>exact hbo
              | none =>
                cases e2:h' b with
                | none=>exact hbo
                | some y =>
                  obtain⟨L,x,o',hm,_⟩:=F'.new b e1 _ e2;simp at hm
            | cons x l =>
              have h3:=zwn;unfold zbH at h3;split at h3
              · rename_i e;cases e
              · split at h3
                · rename_i e;exact (hr i hi).mono_mem λ p v hp h=>JZ F' (uA has) (Pv e) hle (Py (Px Tf h3 hp) (by
                    obtain⟨j,hj⟩:=List.getElem?_of_mem hp;obtain⟨z,hz,r⟩:=RL.get (Tf i i) j p hj;rw[hj] at hz;cases hz;exact r)) h
                · exact yz (zcg (Tf 0 i) h3) (hr i hi)
          have S2:=S.borrow F' hb hw2 (Pq F'.le hle) Ah (JY F'.le hn2);have hbk:∀ k,v'.ownBlock=some k->w.heap.size<=k:=λ k hk=>(hys.lt k hk).1;have S3:=S2.adopt (t:=dst) (v:=v') (e:=e) (s:=s) (b:=ie.bytes) (n:=n) (get:=get) hfresh (λ k hk=>⟨Bv S.bs (hbk k hk),TC (hnh k hk),λ L o ho hob=>by
              have fO:fB g L o k:=hob;have:=gm (S.obj L o ho) fO;have:=hbk k hk;omega⟩) (by
            refine⟨⟨Tf,hpos⟩,⟨ie,zv,hi,hsz,rfl,hzv,by rw[hzs,hsz]⟩,ys,?_,hlr⟩;rw[show ((⟨uH g.h h' h2,g.bk,g.sv,g.iv⟩:Gh).setSv dst v').sv dst=v' by simp[Gh.setSv]];exact ownsRow_base hys λ k hk _=>Bv S.bs hk)
          refine⟨OG v' xs rs,rfl,(⟨uH g.h h' h2,g.bk,g.sv,g.iv⟩:Gh).setSv dst v',_,rfl,?_⟩;rw[eu];have hvx:RL (Rep (uH g.h h' h2)) rs xs:=yz zwo hxr;cases rs with
          | nil =>
            refine S3.put (v:=v') hd (d:=.cl (.vec dst)) ⟨by simp[Gh.setSv],hone⟩ ?_ _;intro L hL;simp[bY,cZ,bi] at hL;subst hL;exact⟨_,by rw[aV,if_pos rfl]⟩
          | cons x l =>
            refine S3.put (v:=.tuple (v' :: xs).toArray) hd (d:=.tup (.c (.vec dst) :: (x :: l).map λ v=>.c (.p v))) ⟨v' :: xs,rfl,⟨by simp[Gh.setSv],hone⟩,?_⟩ ?_ _
            · refine RL.map_left.2 (hvx.mono λ _ _ h=>h)
            · intro L hL;have hL':L=dst:=by
                simp only[bY,lJ,dL,jE,vC] at hL;rcases hL with hL | ⟨d,⟨v,_,rfl⟩,hL⟩
                · simpa [cZ,bi] using hL
                · simp[cZ,bi] at hL
              subst hL';exact⟨_,by rw[aV,if_pos rfl]⟩
        · subst hA;exact hs.elim
      · subst hA;exact hs.elim
    · subst hA;exact hs.elim
  · rename_i e s b F hk;rw[hk] at hok;exact zch (Γ:=Γ) hok S hd hop hfv hA hs
theorem zha {g : Gh} {ob : Nat → Option AO} {u : jT} {h' h2 : Fz} {n s : Nat} {get : Nat → List PV} {v : Value} (F : ed g ob u h') (hu : dW ob u) (hno : u.all zly = true) (hle : iP h' h2) (hg : ∀ i, sc2 (get i) = true)
    (hr:Rep h2 (.sl n s get) v):Rep (uH g.h h' h2) (.sl n s get) v:=by
  cases hr with
  | sl0 _ _ hun=>exact .sl0 _ _ hun
  | sle _ _ a cap hun=>exact .sle _ _ a cap hun
  | sl _ _ _ hun b o cap C ty fr vs hb hcap hlen hc hr =>
    cases n with
    | zero=>exact .sle _ _ _ _ hun
    | succ m =>
    have hsc:∀ i j x,(get i)[j]? = some x->iD x=true:=λ i j x hx=>by
      have:=hg i;simp only[sc2,fE,List.all_eq_true] at this;exact this.1 x (DW hx)
    refine .sl _ _ _ hun b o cap C ty fr vs ?_ hcap hlen hc λ i j x hi hx=>Du (hsc i j x hx) (hr i j x hi hx);show (match g.h b,h' b with | none,some _=>none | _,_=>h2 b)=_;cases e1:g.h b with
    | some y=>exact hb
    | none =>
      cases e2:h' b with
      | none=>exact hb
      | some y =>
        exfalso;have hy:y=.fz (.cells C ty fr):=by
          have:=hle b y e2;rw[hb] at this;exact (Option.some.inj this).symm
        subst hy;obtain⟨L,x,o',hm,hL,hk⟩:=F.new b e1 _ e2;have hna:=List.all_eq_true.1 hno _ hm;have hlen0:2<=(get 0).length:=by
          have:=hg 0;simp only[sc2,fE,Nat.ble_eq] at this;exact this.2
        rcases hu _ hm with ⟨e,s,b',n,get',_,e3⟩ | ⟨ty',cells,l,us,e4,e3,e5,e6⟩ | ⟨te,bb,e,s,b',n,ln,get',_,e3⟩
        · simp only at e3;subst e3;cases hna
        · simp only at e3 e4; subst e3;rw[hL] at e4;simp only[bJ] at e4;subst e4;obtain⟨C',hC',hrl⟩:=F.box L ty' cells l us hL e5 e6 hm;have hk:g.bk L=b:=hk;subst hk;rw[e2] at hC';simp only[bJ,OE.fz.injEq,Obj.cells.injEq] at hC';obtain⟨rfl,rfl,rfl⟩:=hC';obtain⟨x0,hx0⟩:∃ x,(get 0)[0]? = some x:=⟨_,zL (by omega)⟩;obtain⟨x1,hx1⟩:∃ x,(get 0)[1]? = some x:=⟨_,zL (by omega)⟩;have c0:=hc 0 0 x0 (by omega) hx0;have c1:=hc 0 1 x1 (by omega) hx1;simp only[Nat.zero_mul,Nat.add_zero] at c0 c1;have hl:=hrl.length;have l0:o < l.length:=by
            have:=(RX.1 c0).1;simp at hl;omega
          have l1:o+1 < l.length:=by
            have:=(RX.1 c1).1;simp at hl;omega
          obtain⟨v0,hv0,r0⟩:=hrl.get o _ (zL l0);obtain⟨v1,hv1,r1⟩:=hrl.get (o+1) _ (zL l1);have hv0:C[o]? = some v0:=by simpa using hv0
          have hv1:C[o+1]? = some v1:=by simpa using hv1
          rw[hv0] at c0;rw[hv1] at c1;simp only[bJ] at c0 c1;subst c0 c1;exact Wv hna (zL l0) (zL l1) (E8 (hsc 0 0 x0 hx0) (hr 0 0 x0 (by omega) hx0) r0) (E8 (hsc 0 1 x1 hx1) (hr 0 1 x1 (by omega) hx1) r1)
        · simp only at e3;subst e3;cases hna
theorem zcj {g:Gh}{ob:Nat->Option AO}{u:jT}{h' h2:Fz}{r:List PA}{v:Value}(F:ed g ob u h') (hu:dW ob u) (hl:Ox u r=true) (hle:iP h' h2) (hr:nJ h2 r v):nJ (uH g.h h' h2) r v:=by
 unfold Ox at hl;split at hl
 ·rename_i n s get x us;have hun:Sm (.sl n s get) (.sl n s get):=Rep.un (h:=h2) (v:=v) hr;have Tf:pq get:=hun.rows.2;cases hg:sc2 (get 0) with
  | true =>
   simp only[hg] at hl;exact zha (n:=n) (s:=s) (get:=get) (v:=v) F hu hl hle (λ i=>znT (Tf 0 i) hg) hr
  | false =>
   simp only[hg,fE] at hl;exact JZ F hu (λ y hy=>Pv hl.1 y hy) hle (Py hl.2 hun) hr
 ·cases hl

theorem PG {o : Oper} {gf : FuncId} {args : Array Operand} {az pre post : List PA} {pv qv : List Value} {u : jT} {A : aH} (hok : iE P Γ) (S : bU P nt B w0 h0 g σ a w) (hd : dE nt o.dst = true)
    (hnd:∀ c,o.op ≠ .defer c) (hpre:RL (kL g.h) pre pv) (hpost:RL (kL g.h) post qv) (has:fQ (lk σ.aB) (args.toList.map (eH σ.env))=some (az,u))
    (zwp:dA P gf->(execOp a.eval o).run P w=.ok (.enter gf (pv ++ args.toList.map a.eval ++ qv).toArray) w) {gK:List Nat} {rs:List PA}
    (hC:(Γ.fn gf (pre ++ az ++ post)).o=some rs) (hA:jm gK u rs=A):gV P nt B w0 h0 r n i o A σ a w Q:=by
    obtain⟨h',S1,F⟩:=S.freeze (uA has);have hargs:=F.repDs has (λ y hy=>hy) (BF S args.toList);have up:∀ {l:List PA} {vs:List Value},RL (kL g.h) l vs->RL (kL h') l vs:=λ hr=>hr.mono λ x v hx=>by
      cases x with
      | one p=>exact Rep.mono F.le hx
      | agg cs=>obtain⟨ws,e,hr⟩:=hx;exact⟨ws,e,hr.mono λ _ _ h=>h.mono F.le⟩
    have hall:RL (kL h') (pre ++ az ++ post) (pv ++ args.toList.map a.eval ++ qv):=((up hpre).append hargs).append (up hpost);obtain⟨hcall,hrun⟩:=hok.fn gf (pre ++ az ++ post) rs hC w h' _ hall S1.hw;refine nM hnd (w':=w) (f:=gf) (args:=(pv ++ args.toList.map a.eval ++ qv).toArray) (zwp hcall) (hrun.mono ?_);rintro e w' ⟨h2,v,rfl,hres,hb,hle,hw2,hn2⟩;refine⟨v,rfl,?_⟩;have fin:∀ {g':Gh},bU P nt B w0 h0 g' σ a w'->nJ g'.h rs v->∃ g'' σ',σ'=σ.upd i o.dst (rd gK) (resD rs) [] []/\bU P nt B w0 h0 g'' σ' (a.put o.dst v) w':=λ S2 hr =>
      ⟨_,_,rfl,by rw[eu];exact S2.put (v:=v) (d:=resD rs) hd (Tq hr) (λ L hL=>by rw[EU] at hL;simp at hL) σ.log⟩
    subst hA;unfold jm;cases hsc:Ov rs with
    | true=>exact fin (S.borrow F hb hw2 (λ _ _ h=>h) (λ b x hx=>hle b x (F.le b x hx)) (λ _ _ h=>.inl h)) (zce hsc hres)
    | false =>
      cases hl:Ox u rs with
      | true=>exact fin (S.borrow F hb hw2 (Pq F.le hle) Ah (JY F.le hn2)) (zcj F (uA has) hl hle hres)
      | false =>
        exact⟨⟨h2,g.bk,g.sv,g.iv⟩,_,rfl,by
          rw[eu];exact (S1.world hle hw2 hn2 hb).put (v:=v) (d:=resD rs) hd (Tq (g:=g) hres) (λ L hL=>by rw[EU] at hL;simp at hL) σ.log⟩
theorem zck {o : Oper} {f : Operand} {args : Array Operand} {ts : Array TypeId} {A : aH} (hok : iE P Γ) (S : bU P nt B w0 h0 g σ a w) (hd : dE nt o.dst = true)
    (hop:o.op=.call { callee:=.value f,args,argTypes:=ts })
    (hA:act P Γ o (eH σ.env) (lk σ.aB)=A) (hs:A.safe):gV P nt B w0 h0 r n i o A σ a w Q:=by
  simp only[act,aCl,hop] at hA;split at hA
  · rename_i gf caps hf;split at hA
    · rename_i C hC;obtain⟨cv,hfv,hcap⟩:=(gy S hf).1;refine Wq (vals:=args.toList.map a.eval ++ cv) hok S hd (by simp[hop]) hC (λ hcall=>?_) ((BF S args.toList).append (TA hcap)) (znQ hcap (by simp)) hA hs;simp only[execOp,hop,resolve,hfv,Deferred.ofValue,fD,iT,fM,invoke];rw[show (#[] ++ Array.map a.eval args ++ cv.toArray)=(args.toList.map a.eval ++ cv).toArray by cases args;simp];exact dQ hcall
    · subst hA;exact hs.elim
  · rename_i gf first caps hf
    split at hA
    · rename_i C hC;have hfn:=iq S hf;generalize hfv:a.eval f=fvv at hfn;cases hfn with
      | fn _ _ _ fv cv l1 l2 hf1 hc1 =>
        have hp:∀ {l:List PV} {vs:List Value},RL (Rep g.h) l vs->RL (oJ g) (l.map λ v=>DV.p v) vs:=λ hr=>RL.map_left.2 hr;refine Wq (vals:=fv ++ args.toList.map a.eval ++ cv) hok S hd (by simp[hop]) hC (λ hcall=>?_) (((hp (EW l1 hf1)).append (BF S args.toList)).append (hp (EW l2 hc1))) (λ _ _ _ e=>by cases e) hA hs;simp only[execOp,hop,resolve,hfv,Deferred.ofValue,fD,iT,fM,invoke];rw[show (fv.toArray ++ Array.map a.eval args ++ cv.toArray)=(fv ++ args.toList.map a.eval ++ cv).toArray by cases args;simp];exact dQ hcall
    split at hA
    · split at hA
      · have hfn := iq S hf;generalize hfv:a.eval f=fvv at hfn;cases hfn with
        | fn _ _ _ fv cv l1 l2 hf1 hc1 =>
          have e1:fv=[]:=List.eq_nil_of_length_eq_zero l1.symm;have e2:cv=[]:=List.eq_nil_of_length_eq_zero l2.symm;subst e1 e2;exact zg9 hok S hd hop hfv hA hs
      · subst hA;exact hs.elim
    split at hA
    · rename_i az u has;have hfn:=iq S hf;generalize hfv:a.eval f=fvv at hfn;cases hfn with
      | fn _ _ _ fv cv l1 l2 hf1 hc1 =>
        split at hA
        · rename_i rs hrs;refine PG hok S hd (by simp[hop]) (Tt (EW l1 hf1)) (Tt (EW l2 hc1)) has (λ hcall=>?_) hrs hA;simp only[execOp,hop,resolve,hfv,Deferred.ofValue,fD,iT,fM,invoke];rw[show (fv.toArray ++ Array.map a.eval args ++ cv.toArray)=(fv ++ args.toList.map a.eval ++ cv).toArray by cases args;simp];exact dQ hcall
        · subst hA;exact hs.elim
    · subst hA;exact hs.elim
  · rename_i gf cells hf;split at hA
    · rename_i az u has;have hfn:=iq S hf;generalize hfv:a.eval f=fvv at hfn;cases hfn with
      | fna _ _ vs l1 hf1 =>
        split at hA
        · rename_i rs hrs;refine PG (pre:=[.agg cells]) (post:=[]) (pv:=[.agg vs.toArray]) (qv:=[]) hok S hd (by simp[hop]) ⟨⟨vs,rfl,EW l1 hf1⟩,trivial⟩ trivial has (λ hcall=>?_) (by simpa using hrs) hA;simp only[execOp,hop,resolve,hfv,Deferred.ofValue,fD,iT,fM,invoke];rw[show (#[Value.agg vs.toArray] ++ Array.map a.eval args ++ #[])=([Value.agg vs.toArray] ++ args.toList.map a.eval ++ []).toArray by cases args;simp];exact dQ hcall
        · subst hA;exact hs.elim
    · subst hA;exact hs.elim
  · subst hA;exact hs.elim

theorem Ai {o : Oper} {A : aH} (hok : iE P Γ) (S : bU P nt B w0 h0 g σ a w) (hd : dE nt o.dst = true) (hA : act P Γ o (eH σ.env) (lk σ.aB) = A) (hs : A.safe) :
  gV P nt B w0 h0 r n i o A σ a w Q:=by
 have hA':=hA;cases hop:o.op with
 | move x=>simp only[act,aCl,hop] at hA;subst hA;exact OZ S hd (.inl hop)
 | assign x=>simp only[act,aCl,hop] at hA;subst hA;exact OZ S hd (.inr hop)
 | pick c x y =>
  simp only[act,aPk,hop] at hA;split at hA
  ·rename_i t hc;subst hA;exact zbP S hd hop hc
  ·subst hA;exact hs.elim
 | alloc e =>
  simp only[act,aAl,hop] at hA;split at hA
  ·rename_i z hz;exact Yp S hd hop hz hA hs
  ·subst hA;exact hs.elim
 | box e x =>
  simp only[act,aBx,hop] at hA;split at hA
  ·rename_i d m hx hm;split at hA
   ·rename_i hcond;simp only[fE] at hcond;exact zgT S hd hop hx hcond.2 hA hs
   ·subst hA;exact hs.elim
  ·subst hA;exact hs.elim
 | build t parts =>
  simp only[act,aBd,hop] at hA;split at hA
  ·rename_i z hf hz;split at hA
   ·rename_i l hl;subst hA;refine Yq S hd hop hf hz hl (λ L hL=>?_);rcases ED _ _ _ hl L hL with h | ⟨x,_,h⟩
    ·rw[JG hz] at h;simp at h
    ·exact S.evLab x.2 L h
   ·subst hA;exact hs.elim
  ·subst hA;exact hs.elim
 | buildSlice t m parts=>exact EL S hd hop hA' hs
 | load t x=>exact zbQ S hd hop hA' hs
 | store t x y=>exact Yw S hd hop hA' hs
 | nilCheck x=>exact Lm S hd hop hA' hs
 | binOp op t x y t'=>exact Yu S hd hop hA' hs
 | unOp op t x=>exact zbR S hd hop hA' hs
 | convert t1 t2 x=>exact O3 S hd hop hA' hs
 | fieldAddr t x f=>exact I9 S hd hop hA' hs
 | indexAddr t x y=>exact Ja S hd hop hA' hs
 | extract x k=>exact O4 S hd hop hA' hs
 | index t x y=>exact Yr S hd hop hA' hs
 | field t x f=>exact Yt S hd hop hA' hs
 | slice t x lo hi mx =>
  cases mx with
  | none=>simp only[act,hop] at hA;exact YA S hd hop hA hs
  | some m=>simp only[act,hop] at hA;subst hA;exact hs.elim
 | lookup t x y k =>
  simp only[act,hop] at hA;exact Tm S hd hop hA hs
 | mapUpdate t x y z =>
  simp only[act,hop] at hA;exact Yz S hd hop hA hs
 | makeMap t x =>
  cases x with
  | none =>
   simp only[act,aMm,hop] at hA;split at hA
   ·split at hA
    ·split at hA
     ·rename_i hE;exact Tn S hd hop hE hA hs
     ·subst hA;exact hs.elim
    ·subst hA;exact hs.elim
   ·subst hA;exact hs.elim
  | some x=>simp only[act,aMm,hop] at hA;subst hA;exact hs.elim
 | makeSlice t x y=>simp only[act,hop] at hA;exact Jb S hd hop hA hs
 | makeFunc fn first caps =>
  cases fn with
  | func f=>exact Ls S hd hop hA' hs
  | _=>simp only[act,aMf,hop] at hA;subst hA;exact hs.elim
 | call c =>
  obtain⟨callee,args,ts⟩:=c;cases callee with
  | value f=>exact zck hok S hd hop hA' hs
  | invoke x m=>simp only[act,hop] at hA;subst hA;exact hs.elim
  | builtin b =>
   cases b with
   | len=>exact zgU S hd hop hA' hs
   | max=>exact zgV S hd hop hA' hs
   | min=>exact zgW S hd hop hA' hs
   | append=>exact Td S hd hop hA' hs
   | _=>simp only[act,hop] at hA;subst hA;exact hs.elim
 | _=>simp only[act,hop] at hA;subst hA;exact hs.elim
end
end Go.Pm
namespace Go.Pm
variable [aJ]
open Go.RowKit (Below)

theorem jk {α : Type} {f : α → α} {l : List (Nat × α)} : ∀ {ks : List Nat} {t : Nat} {x : α}, lk (tJ f l ks) t = some x → ∃ y, lk l t = some y ∧ x = f y ∧ t ∈ ks
  | [],t,x,h=>by simp[tJ,lk] at h
  | k :: ks,t,x,h=>by
    simp only[tJ] at h;split at h
    · rename_i d hd;rw[aV] at h;split at h
      · rename_i e;simp only[bJ] at h;subst e;exact⟨d,hd,h.symm,kR⟩
      · obtain⟨y,h1,h2,h3⟩:=jk h;exact⟨y,h1,h2,je _ h3⟩
    · obtain⟨y,h1,h2,h3⟩:=jk h;exact⟨y,h1,h2,je _ h3⟩

theorem mJ {α : Type} {f : α → α} {l : List (Nat × α)} : ∀ {ks : List Nat} {t : Nat} {y : α}, lk l t = some y → t ∈ ks → lk (tJ f l ks) t = some (f y)
  | [],t,y,_,ht=>by simp at ht
  | k :: ks,t,y,h,ht=>by
    simp only[tJ];by_cases hk:k=t
    · subst hk;rw[h];rw[aV,if_pos rfl]
    · have ht' : t ∈ ks := by rcases jf.1 ht with h | h; · exact absurd h.symm hk
                              · exact h
      split
      · rw[aV,if_neg hk];exact mJ h ht'
      · exact mJ h ht'

section
variable {P:Program}{Γ:aX}{nt B:Nat}{w0:World}{h0:Fz}{g:Gh}{σ:St}{a:Act}{w:World}{r:Option Nat}{n i:Nat}{Q:Exit->Act->World->Prop}

theorem J4 {c:Cl}{x:Value}(h:gJ g c x):gJ g (oN c) x:=by
 cases c <;> exact h
theorem xm : ∀ {cs : List Cl} {vs : List Value}, RL (gJ g) cs vs → RL (gJ g) (cs.map oN) vs
  | [],[],_=>trivial
  | [],_ :: _,h=>h.elim
  | _ :: _,[],h=>h.elim
  | _ :: _,_ :: _,h=>⟨J4 h.1,xm h.2⟩
theorem Fa {d:D1}{x:Value}(h:wI g d x):wI g (uo d) x:=by
 cases d with
 | c y=>exact J4 h
 | agg cs=>obtain⟨vs,rfl,hr⟩:=h;exact⟨vs,rfl,xm hr⟩
theorem BI : ∀ {cs : List D1} {vs : List Value}, RL (wI g) cs vs → RL (wI g) (cs.map uo) vs
  | [],[],_=>trivial
  | [],_ :: _,h=>h.elim
  | _ :: _,[],h=>h.elim
  | _ :: _,_ :: _,h=>⟨Fa h.1,BI h.2⟩
theorem zcl {d:DV}{x:Value}(h:oJ g d x):oJ g (KX d) x:=by
 cases d with
 | one y=>exact Fa h
 | tup ds=>obtain⟨vs,rfl,hr⟩:=h;exact⟨vs,rfl,BI hr⟩
theorem BJ {c:Cl} : ∀ M∈bi (oN c),M∈bi c:=by
 cases c <;> first | exact λ _ h=>h | (intro M h;simp[oN,bi] at h)
theorem BK {cs:List Cl} : ∀ M∈(cs.map oN).flatMap bi,M∈cs.flatMap bi:=by
 intro M hM;simp only[jE,vC] at hM ⊢;obtain⟨_,⟨c,hc,rfl⟩,hM⟩:=hM;exact⟨c,hc,BJ M hM⟩
theorem yB {d:D1} : ∀ M∈cZ (uo d),M∈cZ d:=by
 cases d with
 | c y=>exact BJ
 | agg cs=>exact BK
theorem TD {d:DV} : ∀ M∈bY (KX d),M∈bY d:=by
 cases d with
 | one y=>exact yB
 | tup ds =>
  intro M hM;simp only[KX,bY,jE,vC] at hM ⊢;obtain⟨_,⟨d,hd,rfl⟩,hM⟩:=hM;exact⟨d,hd,yB M hM⟩
theorem PH {o:AO} : ∀ M∈dJ (Dh o),M∈dJ o:=by
 cases o with
 | box ty cs=>exact BK
 | _=>exact λ _ h=>h
theorem YD {B L:Nat}{o:AO}(h:IX P g w B L o):IX P g w B L (Dh o):=by
 cases o with
 | box ty cs=>obtain⟨C,hC,hr⟩:=h;exact⟨C,hC,xm hr⟩
 | _=>exact h
theorem BL {L:Nat}{o:AO} : fB g L (Dh o)=fB g L o:=by cases o <;> rfl

theorem bU.env' (S : bU P nt B w0 h0 g σ a w) {t : Nat} {d : DV} (hv : oJ g d (a.tmps.getD t undef)) (hl : ∀ L ∈ bY d, ∃ o, lk σ.aB L = some o) :
  bU P nt B w0 h0 g { σ with env:=(t,d) :: σ.env } a w:=by
 refine⟨S.dfr,S.size,?_,S.obj,S.own,S.sep,S.hw,S.le0,S.hn,S.below,S.bs,?_,S.clO⟩
 ·intro u e hu;simp only[aV] at hu;split at hu
  ·rename_i h;simp only[bJ] at hu;subst hu;rw[<- h];exact hv
  ·exact S.env u e hu
 ·intro u e hu;simp only[aV] at hu;split at hu
  ·simp only[bJ] at hu;subst hu;exact hl
  ·exact S.clE u e hu

theorem Dv {P:Program}{e:TypeId} : RS (xW P e) (xW P e):=by
 unfold xW;split
 ·rename_i z hz;split
  ·rename_i l hl;obtain⟨vs,hv⟩:∃ vs,gZ vs=some z:=by
    unfold fA at hz
    repeat' split at hz
    all_goals first | (cases hz;done) | (cases hz;exact⟨_,by assumption⟩)
   have h:=iY (g:=⟨λ _=>none,λ _=>0,λ _=>undef,λ _ _=>undef⟩) _ _ hv;rw[kY hl] at h;have h:=RL.map_left.1 h;exact uu (qA h)
  ·trivial
 ·trivial
theorem bU.coerce (S : bU P nt B w0 h0 g σ a w) {L e : Nat} {ie : TypeInfo} {z : List Cl} {get : Nat → List PV} (hu : pq get) (hL : lk σ.aB L = none) (hi : P.info? e = some ie) (hz : fA P e = some z) (hp : 0 < ie.size) :
  bU P nt B w0 h0 (g.setSv L (.slice none 0 0)) { σ with aB:=(L,.vec e ie.size ie.bytes 0 get) :: σ.aB } a w:=by
 obtain⟨zv,hzv,hzs⟩:=gI hz hi;refine S.newVec hL (.refl B w) (λ _ _=>rfl) (λ b hb=>by simp[Value.ownBlock] at hb) ⟨⟨hu,hp⟩,⟨ie,zv,hi,rfl,rfl,hzv,hzs⟩,[],?_,λ k hk=>absurd hk (by omega)⟩;rw[show (g.setSv L (.slice none 0 0)).sv L=.slice none 0 0 by simp[Gh.setSv]];exact World.ownsRow_nil w B e ie.size

theorem Fb {h:Fz}{v:Value}(hr:Rep h .nils v):v=.slice none 0 0:=by cases hr;rfl

theorem pG : ∀ (l : List (Nat × Nat × Nat)) (σ σ' : St) (g : Gh), jP P l σ = some σ' → bU P nt B w0 h0 g σ a w → ∃ g', bU P nt B w0 h0 g' σ' a w
  | [],σ,σ',g,h,S=>by simp[jP] at h;subst h;exact⟨g,S⟩
  | (t,L,e) :: l,σ,σ',g,h,S=>by
    simp only[jP] at h;split at h
    · rename_i ht;split at h
      · rename_i ie z hL hi hz;split at h
        · rename_i hp;have S1:=S.coerce (get:=λ _=>xW P e) (Ef Dv) hL hi hz (Nat.lt_of_succ_le (Nat.le_of_ble_eq_true hp));have hv:a.tmps.getD t undef=.slice none 0 0:=Fb (S.env t _ ht);have S2:=S1.env' (t:=t) (d:=.cl (.vec L)) (by rw[hv];simp[oJ,wI,gJ,Gh.setSv,Value.oneCell']) (λ M hM=>by simp[bY,cZ,bi] at hM;subst hM;exact⟨_,by rw[aV,if_pos rfl]⟩);exact pG l _ σ' _ h S2
        · cases h
      · cases h
    · exact pG l σ σ' g h S
    · cases h

theorem pI : ∀ (l : List (Nat × Nat × Nat × Nat)) (σ σ' : St) (g : Gh), jQ P l σ = some σ' → bU P nt B w0 h0 g σ a w → ∃ g', bU P nt B w0 h0 g' σ' a w
  | [],σ,σ',g,h,S=>by simp[jQ] at h;subst h;exact⟨g,S⟩
  | (bx,k,L,e) :: l,σ,σ',g,h,S=>by
    simp only[jQ] at h;split at h
    · rename_i ty cs hbx;split at h
      · rename_i hk;split at h
        · rename_i ie z hL hi hz;split at h
          · rename_i hp;have S1:=S.coerce (get:=λ _=>xW P e) (Ef Dv) hL hi hz (Nat.lt_of_succ_le (Nat.le_of_ble_eq_true hp));have hne:L ≠ bx:=λ e=>by subst e;rw[hL] at hbx;cases hbx
            have Fe:lk ({ σ with aB:=(L,AO.vec e ie.size ie.bytes 0 (λ _=>xW P e)) :: σ.aB } : St).aB bx=some (.box ty cs):=by
              show lk ((L,AO.vec e ie.size ie.bytes 0 (λ _=>xW P e)) :: σ.aB) bx=_;rw[aV,if_neg hne];exact hbx
            obtain⟨C,hC,hr⟩:=S1.obj bx _ Fe;obtain⟨v,hv,hkv⟩:=hr.get k _ hk;have hv0:v=.slice none 0 0:=Fb hkv;subst hv0;have PI:C.toList.set k (.slice none 0 0)=C.toList:=by
              apply List.ext_getElem?;intro j;by_cases hj:j=k
              · subst hj;have hlt:=(wW.1 hv).1;rw[List.getElem?_set_self hlt,hv]
              · rw[List.getElem?_set_ne (λ e=>hj e.symm)]
            have S2 := S1.write (o' := .box ty (cs.set k (.vec L))) (w' := w) Fe (fun b hb => hb) (.refl B w) (fun _ _ => rfl)
              ⟨C,hC,by rw[<- PI];exact hr.set k (by simp[gJ,Gh.setSv,Value.oneCell'])⟩
              (λ M hM=>by
                simp only[dJ,jE] at hM;obtain⟨c,hc,hM⟩:=hM;rcases List.mem_or_eq_of_mem_set hc with h | h
                · exact S1.clO bx _ Fe M (jE.2 ⟨c,h,hM⟩)
                · subst h;simp[bi] at hM;subst hM;exact⟨_,by rw[aV,if_pos rfl]⟩)
            exact pI l _ σ' _ h S2
          · cases h
        · cases h
      · exact pI l σ σ' g h S
      · cases h
    · cases h

theorem bU.adopt0 (S : bU P nt B w0 h0 g σ a w) {t : Nat} {o' : AO} {g' : Gh} (ht : lk σ.aB t = none) (hh : g'.h = g.h) (hs : ∀ M, M ≠ t → gG g g' M)
    (hv:∀ k,¬ fB g' t o' k) (hr:IX P g' w B t o') (hlab:dJ o'=[]):bU P nt B w0 h0 g' { σ with aB:=(t,o') :: σ.aB } a w:=by
  have hne:∀ L o,lk σ.aB L=some o->L ≠ t:=λ L o h e=>by subst e;rw[ht] at h;cases h
  have hsame:∀ L o,lk σ.aB L=some o->gG g g' L:=λ L o h=>hs L (hne L o h);have hle:iP g.h g'.h:=by rw[hh];exact λ _ _ h=>h
  have hlk:∀ L o,lk ((t,o') :: σ.aB) L=some o->(L=t/\o=o')\/(L ≠ t/\lk σ.aB L=some o):=by
    intro L o h;rw[aV] at h;split at h
    · rename_i e;simp only[bJ] at h;exact .inl ⟨e.symm,h.symm⟩
    · rename_i e;exact .inr ⟨λ e'=>e e'.symm,h⟩
  refine S.change (g':=g') hsame hle (by rw[hh];exact S.hw) (λ b o h=>.inl (by rw[hh] at h;exact h)) (.refl _ B w) ?_ ?_ ?_ ?_ ?_
  · intro L o ho;rcases hlk L o ho with ⟨rfl,rfl⟩ | ⟨_,ho⟩
    · exact hr
    · exact iK (S.obj L o ho) (hsame L o ho) (λ M hM=>by obtain⟨o',ho'⟩:=S.clO L o ho M hM;exact hsame M o' ho') hle λ _ _=>rfl
  · intro L o k ho hk;rcases hlk L o ho with ⟨rfl,rfl⟩ | ⟨_,ho⟩
    · exact (hv k hk).elim
    · rw[eU (hsame L o ho)] at hk;rw[hh];exact S.own L o k ho hk
  · intro L o k L' o2 ho ho' hk hk';rcases hlk L o ho with ⟨rfl,rfl⟩ | ⟨_,ho2⟩ <;> rcases hlk L' o2 ho' with ⟨rfl,rfl⟩ | ⟨_,kD⟩
    · rfl
    · exact (hv k hk).elim
    · exact (hv k hk').elim
    · rw [eU (hsame L o ho2)] at hk; rw [eU (hsame L' o2 kD)] at hk';exact S.sep L o k L' o2 ho2 kD hk hk'
  · intro L o ho;refine⟨o,?_⟩;rw[aV,if_neg (λ e=>hne L o ho e.symm)];exact ho
  · intro L o ho M hM;rcases hlk L o ho with ⟨rfl,rfl⟩ | ⟨_,ho⟩
    · rw[hlab] at hM;simp at hM
    · obtain ⟨o2, ho2⟩ := S.clO L o ho M hM;exact⟨o2,by rw[aV,if_neg (λ e=>hne M o2 ho2 e.symm)];exact ho2⟩

theorem pJ : ∀ (l : List (Nat × Nat × Nat × Nat × Nat)) (σ σ' : St) (g : Gh), jR P l σ = some σ' → bU P nt B w0 h0 g σ a w → ∃ g', bU P nt B w0 h0 g' σ' a w
  | [],σ,σ',g,h,S=>by simp[jR] at h;subst h;exact⟨g,S⟩
  | (bx,k,L,te,e) :: l,σ,σ',g,h,S=>by
    simp only[jR] at h;split at h
    · rename_i ty cs hbx;split at h
      · rename_i hk;split at h
        · rename_i it zt hL hit hzt;split at h
          · rename_i ie z hi hz;split at h
            · rename_i hp;simp only[fE] at hp;have hs1:=jb hp.1;have hpos:0 < ie.size:=Nat.lt_of_succ_le (Nat.le_of_ble_eq_true hp.2);obtain⟨zv,hzv,hzs⟩:=gI hz hi;obtain⟨tv,htv,hts⟩:=gI hzt hit;let g':=g.setVv L (.slice none 0 0) (λ _=>.slice none 0 0);have hsv:g'.sv L=.slice none 0 0:=by simp[g',Gh.setVv]
              have S1 := S.adopt0 (t := L) (o' := .vv te it.bytes e ie.size ie.bytes 0 (fun _ => 0) (fun _ _ => xW P e)) (g' := g') hL rfl SY
                (fun k hk => by rcases hk with hk | ⟨i, hi, _⟩
                                · rw[hsv] at hk;cases hk
                                · omega)
                ⟨⟨λ _ _ _ _=>Dv,hpos⟩,⟨it,tv,hit,hs1,rfl,htv,by rw[hts,hs1]⟩,⟨ie,zv,hi,rfl,rfl,hzv,hzs⟩,by rw[hsv];exact World.ownsRow_nil w B te 1,λ i hi=>absurd hi (by omega),λ i k hi=>absurd hi (by omega)⟩ rfl
              have hne:L ≠ bx:=λ e=>by subst e;rw[hL] at hbx;cases hbx
              have Fe:lk ({ σ with aB:=(L,AO.vv te it.bytes e ie.size ie.bytes 0 (λ _=>0) (λ _ _=>xW P e)) :: σ.aB } : St).aB bx=some (.box ty cs):=by
                show lk ((L,AO.vv te it.bytes e ie.size ie.bytes 0 (λ _=>0) (λ _ _=>xW P e)) :: σ.aB) bx=_;rw[aV,if_neg hne];exact hbx
              obtain⟨C,hC,hr⟩:=S1.obj bx _ Fe;obtain⟨v,hv,hkv⟩:=hr.get k _ hk;have hv0:v=.slice none 0 0:=Fb hkv;subst hv0;have PI:C.toList.set k (.slice none 0 0)=C.toList:=by
                apply List.ext_getElem?;intro j;by_cases hj:j=k
                · subst hj;have hlt:=(wW.1 hv).1;rw[List.getElem?_set_self hlt,hv]
                · rw[List.getElem?_set_ne (λ e=>hj e.symm)]
              have S2 := S1.write (o' := .box ty (cs.set k (.vec L))) (w' := w) Fe (fun b hb => hb) (.refl B w) (fun _ _ => rfl)
                ⟨C,hC,by rw[<- PI];exact hr.set k ⟨hsv.symm,rfl⟩⟩
                (λ M hM=>by
                  simp only[dJ,jE] at hM;obtain⟨c,hc,hM⟩:=hM;rcases List.mem_or_eq_of_mem_set hc with h | h
                  · exact S1.clO bx _ Fe M (jE.2 ⟨c,h,hM⟩)
                  · subst h;simp[bi] at hM;subst hM;exact⟨_,by rw[aV,if_pos rfl]⟩)
              exact pJ l _ σ' _ h S2
            · cases h
          · cases h
        · cases h
      · exact pJ l σ σ' g h S
      · cases h
    · cases h

theorem yC {ob : Nat → Option AO} : ∀ {ks : List Nat} {x : Nat × AO}, x ∈ zW ob ks → ∃ ty cells l, ob x.1 = some (.box ty cells) ∧ x.2 = .fbox l ∧ ik ob cells = some (l, [])
  | [],x,h=>by simp[zW] at h
  | k :: ks,x,h=>by
    simp only[zW] at h;split at h
    · rename_i ty cells hk;split at h
      · rename_i l hl;rcases jf.1 h with rfl | h
        · exact⟨ty,cells,l,hk,rfl,hl⟩
        · exact yC h
      · exact yC h
    · exact yC h
theorem PK {ob:Nat->Option AO}{ks:List Nat} : dW ob (zW ob ks):=λ x hx=>by
 obtain⟨ty,cells,l,h1,h2,h3⟩:=yC hx;exact .inr (.inl ⟨ty,cells,l,[],h1,h2,Lc h3,λ y hy=>by simp at hy⟩)
theorem Ff {ob : Nat → Option AO} : ∀ {ks : List Nat}, dW ob (I8 ob ks)
  | []=>dW.nil ob
  | L :: r=>λ x hx=>by
    simp only[I8] at hx;split at hx
    · rename_i e s b n get hL;rcases jf.1 hx with rfl | hx
      · exact .inl ⟨_,_,_,_,_,hL,rfl⟩
      · exact (Ff x hx).mono λ y hy=>by simp only[I8,hL];exact je _ hy
    · rename_i hn;refine (Ff x hx).mono λ y hy=>?_;show y∈I8 ob (L :: r);unfold I8;split
      · exact je _ hy
      · exact hy
theorem pK : ∀ (l : List Nat) (σ σ' : St) (g : Gh), jS l σ = some σ' → bU P nt B w0 h0 g σ a w → ∃ g', bU P nt B w0 h0 g' σ' a w
  | [],σ,σ',g,h,S=>by simp[jS] at h;subst h;exact⟨g,S⟩
  | t :: r,σ,σ',g,h,S=>by
    unfold jS at h;split at h
    · rename_i x hx;have hv:=S.env t _ hx;split at h
      · exact pK r _ σ' g h S
      · split at h
        · rename_i v u hf;obtain⟨h',S1,F⟩:=S.freeze (Tc hf);have hr:=F.rep hf (λ y hy=>hy) hv;exact pK r _ σ' _ h (S1.env' (t:=t) (d:=.p v) hr (λ L hL=>by simp[bY,cZ,bi] at hL))
        · cases h
    · cases h
theorem Wy {P:Program}{e:Nat}{g:Gh}{x:Cl}{v:Value}(r:gJ g x v):gJ g (zX P e x) v:=by
 unfold zX;split
 ·split
  ·exact Rep.up (.nil _ _ (Ef Dv)) r
  ·exact r
 ·exact r
theorem PM {P:Program}{e:Nat}{x:Cl} : bi (zX P e x)=bi x:=by
 unfold zX;split
 ·split <;> rfl
 ·rfl
theorem zcm {P:Program}{e b:Nat}{g:Gh}{cs:List Cl}{vs:List Value}(r:RL (gJ g) cs vs):RL (gJ g) (OC b (zX P e) cs) vs:=by
 unfold OC;split
 ·rename_i x hx;obtain⟨v,hv,hxv⟩:=r.get b _ hx;have:=r.set b (a:=zX P e x) (b:=v) (Wy hxv);have e:vs.set b v=vs:=by
   obtain⟨hlt,hv⟩:=wW.1 hv;rw[<- hv,List.set_getElem_self]
  rwa[e] at this
 ·exact r
theorem PN {P:Program}{e b:Nat}{cs:List Cl}{M:Nat}(h:M∈(OC b (zX P e) cs).flatMap bi):M∈cs.flatMap bi:=by
 unfold OC at h;split at h
 ·rename_i x hx;obtain⟨c,hc,hM⟩:=jE.1 h;rcases List.mem_or_eq_of_mem_set hc with hc | rfl
  ·exact jE.2 ⟨c,hc,hM⟩
  ·rw [PM] at hM;exact jE.2 ⟨x,DW hx,hM⟩
 ·exact h
theorem yD {α : Type} {k : Nat} {x : α} : ∀ {l : List (Nat × α)}, (∃ y, lk l k = some y) → ∀ n, lk (SL k x l) n = lk ((k, x) :: l) n
  | [],⟨_,h⟩,_=>by cases h
  | (j,y) :: r,h,n=>by
    unfold SL;cases hb:Nat.beq j k with
    | true =>
      have:=jb hb;subst this;simp only[aV];split <;> rfl
    | false =>
      have hne:=Nat.ne_of_beq_eq_false hb;obtain⟨z,hz⟩:=h;rw[aV,if_neg hne] at hz;have ih:=yD (x:=x) ⟨z,hz⟩ n;simp only[aV] at ih ⊢;by_cases h1:j=n
      · rw[if_pos h1,if_neg (λ e=>hne (h1.trans e.symm)),if_pos h1]
      · rw[if_neg h1,ih,if_neg h1]
theorem bU.lk_congr (S:bU P nt B w0 h0 g σ a w){τ:St}(h1:∀ L,lk τ.env L=lk σ.env L) (h2:∀ L,lk τ.aB L=lk σ.aB L):bU P nt B w0 h0 g τ a w :=
 ⟨S.dfr,S.size,λ t d ht=>S.env t d (by rw[<- h1];exact ht),λ L o ho=>S.obj L o (by rw[<- h2];exact ho),λ L o b ho=>S.own L o b (by rw[<- h2];exact ho),
  λ L o b L' o' ho ho'=>S.sep L o b L' o' (by rw[<- h2];exact ho) (by rw[<- h2];exact ho'),S.hw,S.le0,S.hn,S.below,S.bs,
  λ t d ht L hL=>by rw[h2];exact S.clE t d (by rw[<- h1];exact ht) L hL,λ L o ho M hM=>by rw[h2];exact S.clO L o (by rw[<- h2];exact ho) M hM⟩
theorem YE {k b e L:Nat}(S:bU P nt B w0 h0 g σ a w):bU P nt B w0 h0 g (nf1 P k L b e σ) a w:=by
 unfold nf1;split
 ·split
  ·rename_i x hx;exact (S.env' (d:=.one (.c (zX P e x))) (Wy (S.env L _ hx)) λ M hM=>S.clE L _ hx M (by simpa [bY,cZ,PM] using hM)).lk_congr (yD ⟨_,hx⟩) λ _=>rfl
  ·rename_i cs hx;obtain⟨vs,hv,hr⟩:=S.env L _ hx;exact (S.env' (d:=.one (.agg (OC b (zX P e) cs))) ⟨vs,hv,zcm hr⟩ λ M hM=>S.clE L _ hx M (PN hM)).lk_congr (yD ⟨_,hx⟩) λ _=>rfl
  ·exact S
 ·split
  ·rename_i ty cs hL;obtain⟨D,hD,hr⟩:=S.obj L _ hL;exact (S.write2 (w':=w) (o':=.box ty (OC b (zX P e) cs)) hL (λ _ h=>h) (.refl B w) (λ _ _ _=>rfl) ⟨D,hD,zcm hr⟩ λ M hM=>S.clO L _ hL M (PN hM)).lk_congr (λ _=>rfl) (yD ⟨_,hL⟩)
  ·exact S
theorem wK : ∀ {l : List (Nat × Nat × Nat × Nat)} {σ : St}, bU P nt B w0 h0 g σ a w → bU P nt B w0 h0 g (Di P l σ) a w
  | [],_,S=>S
  | (_,_,_,_) :: l,_,S=>wK (l:=l) (YE S)
theorem Lt {k:Keep}{s:St}{g:Gh}{σ:St}(h:uq P k σ=some s) (S:bU P nt B w0 h0 g σ a w):∃ g',bU P nt B w0 h0 g' s a w:=by
 unfold uq at h;split at h
 ·cases h
 ·rename_i σ1 h1;obtain⟨g1,S1⟩:=pG k.coT σ σ1 g h1 S;split at h
  ·cases h
  ·rename_i σ2 h2;obtain⟨g2',S2'⟩:=pI k.coB σ1 σ2 g1 h2 S1;split at h
   ·cases h
   rename_i σ3 h3;obtain⟨g2,S2⟩:=pJ k.coV σ2 σ3 g2' h3 S2';simp only[] at h;split at h
   ·rename_i hcl;simp only[bJ] at h;subst h;simp only[fE,List.all_eq_true] at hcl;obtain⟨hc1,hc2⟩:=hcl;have hin:∀ {gK l:List Nat},SK gK l=true->∀ L∈l,L∈gK:=by
     intro gK l h L hL;have:=List.all_eq_true.1 h L hL;simpa using this
    refine⟨g2,S2.dfr,S2.size,?_,?_,?_,?_,S2.hw,S2.le0,S2.hn,S2.below,S2.bs,?_,?_⟩
    ·intro t d ht;obtain⟨y,h1,rfl,_⟩:=jk ht;exact zcl (S2.env t y h1)
    ·intro L o ho;obtain⟨y,h1,rfl,_⟩:=jk ho;exact YD (S2.obj L y h1)
    ·intro L o b ho hb;obtain⟨y,h1,rfl,_⟩:=jk ho;rw[BL] at hb;exact S2.own L y b h1 hb
    ·intro L o b L' o' ho ho' hb hb';obtain⟨y,h1,rfl,_⟩:=jk ho;obtain⟨y',h1',rfl,_⟩:=jk ho';rw[BL] at hb hb';exact S2.sep L y b L' y' h1 h1' hb hb'
    ·intro t d ht L hL;have hm:=hin (hc1 (t,d) (dY ht)) L hL;obtain⟨y,h1,rfl,_⟩:=jk ht;obtain⟨o,ho⟩:=S2.clE t y h1 L (TD L hL);exact⟨_,mJ ho hm⟩
    ·intro L o ho M hM;have hm:=hin (hc2 (L,o) (dY ho)) M hM;obtain⟨y,h1,rfl,_⟩:=jk ho;obtain⟨o',ho'⟩:=S2.clO L y h1 M (PH M hM);exact⟨_,mJ ho' hm⟩
   ·cases h
theorem TE {n:Nat}(S:bU P nt B w0 h0 g σ a w):∃ g',bU P nt B w0 h0 g' (Yf σ n) a w:=by
  unfold Yf;generalize (n - 1000000) / 64=bx;generalize (n - 1000000) % 64=kx;split
  · exact⟨g,S⟩
  · split
    · rename_i ty cs hbx;split
      · rename_i L hk;split
        · rename_i e s b len get hL;obtain⟨h',S1,F⟩:=S.freeze (u:=[(L,.fvec s len get)]) (λ x hx=>by
            simp only[jM] at hx;subst hx;exact .inl ⟨_,_,_,_,_,hL,rfl⟩)
          have hne:L ≠ bx:=λ e=>by subst e;rw[hL] at hbx;cases hbx
          have Fe:lk ([(L,AO.fvec s len get)] ++ σ.aB) (bx)=some (.box ty cs):=by
            show lk ((L,AO.fvec s len get) :: σ.aB) _=_;rw[aV,if_neg hne];exact hbx
          obtain⟨C,hC,hr⟩:=S1.obj _ _ Fe;obtain⟨v,hv,hkv⟩:=hr.get _ _ hk;have hrep:Rep h' (.sl len s get) v:=by
            have hkv:v=g.sv L/\_:=hkv;rw[hkv.1];exact F.vec L e s b len get hL (by simp)
          have PI:C.toList.set kx v=C.toList:=by
            apply List.ext_getElem?;intro j;by_cases hj:j=kx
            · subst hj;have hlt:=(wW.1 hv).1;rw[List.getElem?_set_self hlt,hv]
            · rw[List.getElem?_set_ne (λ e=>hj e.symm)]
          have S2 := S1.write (o' := .box ty (cs.set kx (.p (.sl len s get)))) (w' := w) Fe (fun b hb => hb) (.refl B w) (fun _ _ => rfl)
            ⟨C,hC,by rw[<- PI];exact hr.set _ hrep⟩
            (λ M hM=>by
              simp only[dJ,jE] at hM;obtain⟨c,hc,hM⟩:=hM;rcases List.mem_or_eq_of_mem_set hc with h | h
              · exact S1.clO _ _ Fe M (jE.2 ⟨c,h,hM⟩)
              · subst h;simp[bi] at hM)
          exact⟨_,S2⟩
        · exact⟨g,S⟩
      · exact⟨g,S⟩
    · exact⟨g,S⟩
theorem J5 : ∀ (l : List Nat) (σ : St) (g : Gh), bU P nt B w0 h0 g σ a w → ∃ g', bU P nt B w0 h0 g' (coP l σ) a w
  | [],σ,g,S=>⟨g,S⟩
  | n :: r,σ,g,S=>by
    obtain⟨g1,S1⟩:=TE (n:=n) S;exact J5 r _ g1 S1
theorem dP {k:Keep}{s:St}(h:canon P k σ=some s) (S:bU P nt B w0 h0 g σ a w):∃ g',bU P nt B w0 h0 g' s a w:=by
 obtain⟨h',S1,_⟩:=S.freeze ((PK (ob:=lk σ.aB) (ks:=k.coF)).append (Ff (ob:=lk σ.aB) (ks:=k.coF)));unfold canon at h;split at h
 ·rename_i s1 h1;obtain⟨g0,S0⟩:=J5 k.coF (Ye k.coF σ) _ S1;obtain⟨g1,S2⟩:=pK k.coZ (coP k.coF (Ye k.coF σ)) s1 _ h1 S0;split at h
  ·rename_i s2 h2;obtain⟨g2,S3⟩:=Lt h2 S2;cases h;exact⟨g2,wK S3⟩
  ·cases h
 ·cases h
end
end Go.Pm
namespace Go.Pm
variable [aJ]
open Go.RowKit (Below)

section
variable {P:Program}{Γ:aX}{nt B:Nat}{w0:World}{h0:Fz}{g:Gh}{σ:St}{a:Act}{w:World}{r:Option Nat}{n i:Nat}{Q:Exit->Act->World->Prop}

theorem Lu {o:Oper}{R R':Act->World->Prop}(h:o.wpIn (FR r) n P a w R Q) (hR:∀ a w,R a w->R' a w):o.wpIn (FR r) n P a w R' Q:=by
 refine⟨h.1,?_⟩;have h2:=h.2;generalize (o.semAt (FR r).round a.eval).run P w=res at h2 ⊢
 match res,h2 with
 | .ok (.value v) w',h2=>exact hR _ _ h2
 | .ok .skip w',h2=>exact hR _ _ h2
 | .ok (.defer d) w',h2=>exact hR _ _ h2
 | .ok (.enter f args) w',h2 =>
  refine⟨h2.1,h2.2.mono ?_⟩;intro e w'' he;cases e with
  | returned v=>exact hR _ _ he
  | panicked ch=>exact he
  | outgrown=>exact he
 | .ok (.row row args) w',h2=>exact⟨h2.1,h2.2.mono λ v w'' hv=>hR _ _ hv⟩
 | .ok (.round l f tmps x y) w',h2 =>
  refine⟨h2.1,h2.2.mono ?_⟩;intro e w'' he;cases e with
  | returned v=>exact hR _ _ he
  | panicked ch=>exact he
  | outgrown=>exact he
 | .halt (.panic v) w',h2=>exact h2

theorem TF {o:Oper}{R:Act->World->Prop}(h:o.wpIn (FR r) n P a w R Q):o.wpIn (FR r) n P a w (λ a' w'=>R a' w'/\∃ v ds,a'=({ a with defers:=ds } : Act).put o.dst v) Q:=by
 refine⟨h.1,?_⟩;have h2:=h.2;generalize (o.semAt (FR r).round a.eval).run P w=res at h2 ⊢
 match res,h2 with
 | .ok (.value v) w',h2=>exact⟨h2,v,a.defers,rfl⟩
 | .ok .skip w',h2=>exact⟨h2,undef,a.defers,rfl⟩
 | .ok (.defer d) w',h2=>exact⟨h2,undef,d :: a.defers,rfl⟩
 | .ok (.enter f args) w',h2 =>
  refine⟨h2.1,h2.2.mono ?_⟩;intro e w'' he;cases e with
  | returned v=>exact⟨he,v,a.defers,rfl⟩
  | panicked ch=>exact he
  | outgrown=>exact he
 | .ok (.row row args) w',h2=>exact⟨h2.1,h2.2.mono λ v w'' hv=>⟨hv,v,a.defers,rfl⟩⟩
 | .ok (.round l f tmps x y) w',h2 =>
  refine⟨h2.1,h2.2.mono ?_⟩;intro e w'' he;cases e with
  | returned v=>exact⟨he,v,a.defers,rfl⟩
  | panicked ch=>exact he
  | outgrown=>exact he
 | .halt (.panic v) w',h2=>exact h2

def Kp (D:List Nat) (a a':Act):Prop:=(∀ t,t ∉ D->a'.tmps.getD t undef=a.tmps.getD t undef)/\a'.tmps.size=a.tmps.size/\(rfS ∉ D->a'.defers=a.defers)
theorem Kp.refl (D:List Nat) (a:Act):Kp D a a:=⟨λ _ _=>rfl,rfl,λ _=>rfl⟩
theorem Kp.put {D:List Nat}{a0 a:Act}(h:Kp D a0 a){dst:Option Nat}(hd:∀ t,dst=some t->t∈D) (v:Value) (ds:List Deferred) (hds:ds=a.defers):Kp D a0 (({ a with defers:=ds } : Act).put dst v):=by
 subst hds;cases dst with
 | none=>exact h
 | some t =>
  refine⟨λ u hu=>?_,by simp[Act.put,h.2.1],λ hr=>h.2.2 hr⟩;have hne:t ≠ u:=λ e=>hu (e ▸ hd t rfl);rw[<- h.1 u hu];simp[Act.put,rE,Array.getElem?_setIfInBounds_ne hne]

theorem rU {ops:Array Oper}{tmps:Array Value}{j g:Nat}{b:Bool}(hg:(ops[j]?).bind (·.dst)=some g) (hv:tmps.getD g undef=.bool b):yielded ops tmps j=some b:=by
 unfold yielded;rw[hg];simp only[Option.bind_some];rw[rE] at hv;cases h:tmps[g]? with
 | none=>rw[h] at hv;simp[undef] at hv
 | some v=>rw[h] at hv;simp only[Option.getD_some] at hv;subst hv;rfl
theorem pM {ops:Array Oper}{tmps:Array Value}{j g:Nat}(hg:(ops[j]?).bind (·.dst)=some g) (hv:tmps.getD g undef=undef):yielded ops tmps j=none:=by
 unfold yielded;rw[hg];simp only[Option.bind_some];rw[rE] at hv;cases h:tmps[g]? with
 | none=>rfl
 | some v=>rw[h] at hv;simp only[Option.getD_some] at hv;subst hv;rfl

theorem bU.skip (S:bU P nt B w0 h0 g σ a w){dst:Option Nat}(hd:dE nt dst=true):bU P nt B w0 h0 g (σ.skip dst) (a.put dst undef) w:=by
 have:=S.put (d:=.cl .undef) (v:=undef) hd rfl (λ L hL=>by simp[bY,cZ,bi] at hL) σ.log;cases dst <;> exact this

theorem PO (hok : iE P Γ) {ops : Array Oper} {K : St → Prop} {D : List Nat} {a0 : Act} {ad : List Deferred} (hD : ∀ (j : Nat) (o : Oper), ops[j]? = some o → ∀ t, o.dst = some t → t ∈ D)
    (hQ:∀ σ',K σ'->∀ g' a' w',bU P nt B w0 h0 g' σ' a' w'->Kp D a0 a'->a'.defers=ad->Q .normal a' w') :
    ∀ (l:List Oper) (i:Nat) (σ:St) (g:Gh) (a:Act) (w:World),(∀ j,l[j]? = ops[i+j]?)->iJ P Γ nt ops i l K σ->bU P nt B w0 h0 g σ a w->Kp D a0 a->a.defers=ad ->
      wpOpsIn (FR r) n P ops Q (List.range' i l.length) a w:=by
  intro l
  induction l with
  | nil=>intro i σ g a w _ h S hk had;exact hQ σ h g a w S hk had
  | cons o l ih =>
    intro i σ g a w hl h S hkp had;have ho:ops[i]? = some o:=by have:=hl 0;simpa using this.symm
    have hl':∀ j,l[j]? = ops[i+1+j]?:=λ j=>by have:=hl (j+1);rw[SC] at this;rw[this];congr 1;omega
    simp only[Oi,List.range'_succ,wpOpsIn,ho];simp only[iJ] at h;split at h
    · exact h.elim
    · rename_i hd;have run:∀ (σ:St),bU P nt B w0 h0 g σ a w->kH (act P Γ o (eH σ.env) (lk σ.aB)) (lL σ i o) i o.dst (iJ P Γ nt ops (i+1) l K) σ->o.wpIn (FR r) n P a w (wpOpsIn (FR r) n P ops Q (List.range' (i+1) l.length)) Q:=by
        intro σ S h;obtain⟨hs,hk⟩:=Aa.1 h;refine Lu (TF (Ai (i:=i) (Q:=Q) (r:=r) (n:=n) hok S hd rfl hs)) ?_;rintro a' w' ⟨⟨hdf,g',σ',hst,S'⟩,v,ds,rfl⟩;exact ih (i+1) _ g' _ w' hl' (hk σ' hst) (S'.log _) (hkp.put (hD i o ho) v ds ((put_defers _ _ _).symm.trans hdf)) (hdf.trans had)
      have skp:∀ (σ:St),bU P nt B w0 h0 g σ a w->iJ P Γ nt ops (i+1) l K (σ.skip o.dst)->wpOpsIn (FR r) n P ops Q (List.range' (i+1) l.length) (a.put o.dst undef) w:=by
        intro σ S h;exact ih (i+1) _ g _ w hl' h (S.skip hd) (hkp.put (hD i o ho) undef a.defers rfl) ((put_defers _ _ _).trans had)
      split at h
      · rename_i hg;rw[if_pos (by simp[Region.wanted,hg])];exact run σ S h
      · rename_i j want hg;split at h
        · exact h.elim
        · rename_i gt hgt;split at h
          · rename_i b hb;have hv:a.tmps.getD gt undef=.bool b:=by
              have:=S.env gt _ hb;generalize a.tmps.getD gt undef=v at this;cases this;rfl
            have hy:=rU hgt hv;have S1:∀ c,b=c->bU P nt B w0 h0 g (σ.setT gt (.bool c)) a w:=by
              intro c hc;refine S.env' (t:=gt) (d:=.bool c) ?_ (iV _);rw[hv,hc];exact .bool c
            have h2:=mX.1 h;cases b with
            | true =>
              have h3:=h2.1 rfl;cases want with
              | true=>rw[if_pos (by simp[Region.wanted,hg,hy])];exact run _ (S1 true rfl) h3
              | false=>rw[if_neg (by simp[Region.wanted,hg,hy])];exact⟨λ _ _=>trivial,skp _ (S1 true rfl) h3⟩
            | false =>
              have h3:=h2.2 rfl;cases want with
              | true=>rw[if_neg (by simp[Region.wanted,hg,hy])];exact⟨λ _ _=>trivial,skp _ (S1 false rfl) h3⟩
              | false=>rw[if_pos (by simp[Region.wanted,hg,hy])];exact run _ (S1 false rfl) h3
          · rename_i hb;have hv:a.tmps.getD gt undef=undef:=S.env gt _ hb;have hy:=pM hgt hv;rw[if_neg (by simp[Region.wanted,hg,hy])];exact⟨λ _ _=>trivial,skp _ S h⟩
          · exact h.elim

theorem BM (hok : iE P Γ) {ops : Array Oper} {K : St → Prop} {D : List Nat} {a0 : Act} (hD : ∀ (j : Nat) (o : Oper), ops[j]? = some o → ∀ t, o.dst = some t → t ∈ D)
    (h:iJ P Γ nt ops 0 ops.toList K σ) (S:bU P nt B w0 h0 g σ a w) (hkp:Kp D a0 a)
    (hQ:∀ σ',K σ'->∀ g' a' w',bU P nt B w0 h0 g' σ' a' w'->Kp D a0 a'->a'.defers=a.defers->Q .normal a' w'):wpOpsIn (FR r) n P ops Q (List.range ops.size) a w:=by
  have:=PO (r:=r) (n:=n) hok hD hQ ops.toList 0 σ g a w (λ j=>by simp) h S hkp rfl;rw[List.range_eq_range'];simpa using this

end
end Go.Pm
namespace Go.Pm
variable [aJ]

def aH.fp : aH → List (Nat × Bool)
  | .no=>[]
  | .val fp _ _ _=>fp
  | .chk fp _ _ _ _=>fp
def aH.u : aH → List (Nat × AO)
  | .no=>[]
  | .val _ _ u _=>u
  | .chk _ _ _ u _=>u
def aH.kl : aH → List Nat
  | .no=>[]
  | .val _ _ _ k=>k
  | .chk _ _ _ _ k=>k
def aH.gives : aH → DV → Prop
  | .no,_=>False
  | .val _ d _ _,d'=>d'=d
  | .chk _ _ d _ _,d'=>d'=d

def Men (o:Oper) (ev:Operand->DV) (ob:Nat->Option AO) (fp:List (Nat×Bool)) (L:Nat):Prop :=
 (∃ x∈o.op.operands.toList,L∈jF (ev x))\/∃ y∈fp,∃ o',ob y.1=some o'/\L∈lU o'

structure bV (P : Program) (Γ : aX) (o : Oper) (ev : Operand → DV) (ob : Nat → Option AO) (A : aH) : Prop where
  wr:∀ x∈A.u,(x.1,true)∈A.fp
  kl:A.kl=[]\/∃ L,A.kl=[L]/\(L,true)∈A.fp
  labu:∀ x∈A.u,∀ L∈lU x.2,Men o ev ob A.fp L
  labd:∀ d,A.gives d->∀ L∈jF d,Men o ev ob A.fp L\/(L,true)∈A.fp
  congr:∀ ev' ob',(∀ x∈o.op.operands.toList,ev' x=ev x)->(∀ y∈A.fp,ob' y.1=ob y.1)->act P Γ o ev' ob'=A

section
variable {P:Program}{Γ:aX}{o:Oper}{ev:Operand->DV}{ob:Nat->Option AO}{A:aH}

theorem bV.pure {fp : List (Nat × Bool)} {d : DV} (hd : ∀ L ∈ jF d, Men o ev ob fp L ∨ (L, true) ∈ fp)
    (hc:∀ ev' ob',(∀ x∈o.op.operands.toList,ev' x=ev x)->(∀ y∈fp,ob' y.1=ob y.1)->act P Γ o ev' ob'=.val fp d [] []):bV P Γ o ev ob (.val fp d [] []) :=
  ⟨λ x hx=>by simp[aH.u] at hx,.inl rfl,λ x hx=>by simp[aH.u] at hx,λ d' h=>by simp only[aH.gives] at h;subst h;exact hd,hc⟩
theorem bV.pchk {fp : List (Nat × Bool)} {s : CP} {d : DV} (hd : ∀ L ∈ jF d, Men o ev ob fp L ∨ (L, true) ∈ fp)
    (hc:∀ ev' ob',(∀ x∈o.op.operands.toList,ev' x=ev x)->(∀ y∈fp,ob' y.1=ob y.1)->act P Γ o ev' ob'=.chk fp s d [] []):bV P Γ o ev ob (.chk fp s d [] []) :=
  ⟨λ x hx=>by simp[aH.u] at hx,.inl rfl,λ x hx=>by simp[aH.u] at hx,λ d' h=>by simp only[aH.gives] at h;subst h;exact hd,hc⟩
theorem gz {fp:List (Nat×Bool)}(v:PV):∀ L∈jF (.p v),Men o ev ob fp L\/(L,true)∈fp:=λ L hL=>by simp[jF,o8,kC] at hL
theorem nN {fp:List (Nat×Bool)}{x:Operand}{d:DV}(hx:x∈o.op.operands.toList) (h:∀ L∈jF d,L∈jF (ev x)):∀ L∈jF d,Men o ev ob fp L\/(L,true)∈fp :=
 λ L hL=>.inl (.inl ⟨x,hx,h L hL⟩)

theorem LC {c:Cl} : ∀ L∈kC c,L∈bi c:=by cases c <;> simp[kC,bi]

theorem LD {ag:Bool}{m off:Nat}{cells:List Cl}{d:D1}(hr:kS ag m cells off=some d):∀ L∈o8 d,L∈cells.flatMap kC:=by
 cases ag with
 | true =>
  simp only[kS] at hr;split at hr
  ·simp only [bJ] at hr; subst hr;intro L hL;simp only[o8,jE] at hL ⊢;obtain⟨c,hc,hL⟩:=hL;exact⟨c,List.mem_of_mem_drop (List.mem_of_mem_take hc),hL⟩
  ·cases hr
 | false =>
  simp only[kS] at hr;split at hr
  ·rename_i x hx;simp only[bJ] at hr;subst hr;intro L hL;simp only[o8] at hL;exact jE.2 ⟨x,DW hx,hL⟩
  ·cases hr
theorem PP (cells:List PV):(cells.map Cl.p).flatMap kC=[]:=by
 induction cells with
 | nil=>rfl
 | cons c r ih=>simp[kC,ih]
theorem Dw {ag:Bool}{m off:Nat}{cells:List PV}{d:D1}(hr:kS ag m (cells.map .p) off=some d):o8 d=[]:=by
 have:=LD hr;rw[PP] at this;cases hd:o8 d with
 | nil=>rfl
 | cons x l=>have:=this x (by rw[hd];exact kR);simp at this

theorem xn {ob':Nat->Option AO}{c:Cl}(h:∀ L∈bi c,ob' L=ob L):wo ob' c=wo ob c:=by
 cases c <;> first | rfl | (simp only[wo];rw[h _ (by simp[bi])])
theorem uI {ob' : Nat → Option AO} : ∀ {cs : List Cl}, (∀ L ∈ cs.flatMap bi, ob' L = ob L) → ik ob' cs = ik ob cs
  | [],_=>rfl
  | c :: cs,h=>by
    simp only[ik];rw[xn (λ L hL=>h L (by simp[hL])),uI (λ L hL=>h L (by simp only[lJ,dL];exact .inr hL))]
theorem TG {ob':Nat->Option AO}{c:Cl}(h:∀ L∈bi c,ob' L=ob L/\∀ o',ob L=some o'->∀ M∈dJ o',ob' M=ob M):I5 ob' c=I5 ob c:=by
 cases c with
 | ptr L off =>
  obtain⟨h1,h2⟩:=h L (by simp[bi]);simp only[I5];rw[h1];cases hL:ob L with
  | none=>rfl
  | some o' =>
   cases o' with
   | box ty cells=>simp only[];rw[uI (λ M hM=>h2 _ hL M hM)]
   | _=>rfl
 | _=>exact xn λ L hL=>(h L hL).1
theorem BN {ob' : Nat → Option AO} : ∀ {cs : List Cl}, (∀ L ∈ cs.flatMap bi, ob' L = ob L ∧ ∀ o', ob L = some o' → ∀ M ∈ dJ o', ob' M = ob M) → kG ob' cs = kG ob cs
  | [],_=>rfl
  | c :: cs,h=>by
    simp only[kG];rw[TG (λ L hL=>h L (by simp[hL])),BN (λ L hL=>h L (by simp only[lJ,dL];exact .inr hL))]
def DC (ob ob':Nat->Option AO) (L:Nat):Prop:=ob' L=ob L/\∀ o',ob L=some o'->∀ M∈dJ o',ob' M=ob M/\∀ o2,ob M=some o2->∀ N∈dJ o2,ob' N=ob N
theorem Fg {ob':Nat->Option AO}{c:Cl}(h:∀ L∈bi c,DC ob ob' L):DX ob' c=DX ob c:=by
 cases c with
 | ptr L off =>
  obtain⟨h1,h2⟩:=h L (by simp[bi]);simp only[DX];rw[h1];cases hL:ob L with
  | none=>rfl
  | some o' =>
   cases o' with
   | box ty cells=>simp only[];rw[BN (λ M hM=>h2 _ hL M hM)]
   | _=>rfl
 | _=>exact xn λ L hL=>(h L hL).1
theorem BO {ob' : Nat → Option AO} : ∀ {cs : List Cl}, (∀ L ∈ cs.flatMap bi, DC ob ob' L) → oK ob' cs = oK ob cs
  | [],_=>rfl
  | c :: cs,h=>by
    simp only[oK];rw[Fg (λ L hL=>h L (by simp[hL])),BO (λ L hL=>h L (by simp only[lJ,dL];exact .inr hL))]
theorem yE : ∀ caps : List o6, (caps.map Yc).flatMap bi = jr caps
  | []=>rfl
  | .v _ :: r=>by simp only[nG,lJ,Yc,bi,List.nil_append,jr];exact yE r
  | .b L :: r=>by simp only[nG,lJ,Yc,bi,jr,List.cons_append,List.nil_append];rw[yE r]
theorem J6 {ob':Nat->Option AO}{c:Cl}(h:∀ L∈bi c,DC ob ob' L):frz ob' c=frz ob c:=by
 cases c with
 | clo f caps =>
  simp only[frz];rw[BO (ob:=ob) (ob':=ob') (cs:=caps.map Yc) (λ L hL=>h L (by rw[yE] at hL;exact hL))]
 | _=>exact Fg h
theorem xq {ob' : Nat → Option AO} : ∀ {cs : List Cl}, (∀ L ∈ cs.flatMap bi, DC ob ob' L) → o7 ob' cs = o7 ob cs
  | [],_=>rfl
  | c :: cs,h=>by
    simp only[o7];rw[J6 (λ L hL=>h L (by simp[hL])),xq (λ L hL=>h L (by simp only[lJ,dL];exact .inr hL))]
theorem jV {ob:Nat->Option AO}{d:DV}{k:Nat} : k∈bF ob d↔∃ L∈bY d,k=L\/∃ o,ob L=some o/\∃ M∈dJ o,k=M\/∃ o2,ob M=some o2/\k∈dJ o2:=by
 unfold bF;rw[jE];refine exists_congr λ L=>and_congr_right λ _=>?_;rw[jf];refine or_congr_right ?_;cases ob L with
 | none=>simp
 | some o =>
  simp only[bJ,exists_eq_left',jE,jf];refine exists_congr λ M=>and_congr_right λ _=>or_congr_right ?_;cases ob M with
  | none=>simp
  | some o2=>simp
theorem Fh {ob':Nat->Option AO}{d:DV}(h:∀ L∈bF ob d,ob' L=ob L):wu ob' d=wu ob d:=by
 have key:∀ L∈bY d,DC ob ob' L:=λ L hL =>
  ⟨h L (jV.2 ⟨L,hL,.inl rfl⟩),λ o' ho' M hM=>⟨h M (jV.2 ⟨L,hL,.inr ⟨o',ho',M,hM,.inl rfl⟩⟩),λ o2 ho2 N hN=>h N (jV.2 ⟨L,hL,.inr ⟨o',ho',M,hM,.inr ⟨o2,ho2,hN⟩⟩⟩)⟩⟩
 cases d with
 | one d =>
  cases d with
  | c c=>simp only[wu];rw[J6 key]
  | agg cs=>simp only[wu];rw[xq key]
 | tup ds=>rfl
theorem jI {ob' : Nat → Option AO} : ∀ {ds : List DV}, (∀ L ∈ ds.flatMap (bF ob), ob' L = ob L) → fQ ob' ds = fQ ob ds
  | [],_=>rfl
  | d :: ds,h=>by
    simp only[fQ];rw[Fh (λ L hL=>h L (by simp[hL])),jI (λ L hL=>h L (by simp only[lJ,dL];exact .inr hL))]
theorem gW {ob':Nat->Option AO}{d:DV}(h:∀ L∈bF ob d,ob' L=ob L):bF ob' d=bF ob d:=by
 have fm:∀ (l:List Nat) (f f':Nat->List Nat),(∀ L∈l,f' L=f L)->l.flatMap f'=l.flatMap f:=by
  intro l f f'
  induction l with
  | nil=>intro _;rfl
  | cons L l ih =>
   intro h;simp only[lJ];rw[h L (by simp),ih (λ M hM=>h M (je _ hM))]
 unfold bF;refine fm _ _ _ λ L hL=>?_;rw[h L (jV.2 ⟨L,hL,.inl rfl⟩)];cases hL2:ob L with
 | none=>rfl
 | some o =>
  refine congrArg (L :: ·) (fm _ _ _ λ M hM=>?_);rw[h M (jV.2 ⟨L,hL,.inr ⟨o,hL2,M,hM,.inl rfl⟩⟩)]

theorem ng {c:Cl}{v:PV}{u:jT}(h:wo ob c=some (v,u)):∀ x∈u,x.1∈bi c/\lU x.2=[]:=by
 unfold wo at h;split at h
 ·simp only[bJ,eF] at h;rw[<- h.2];intro x hx;simp at hx
 ·split at h
  ·simp only[bJ,eF] at h;rw[<- h.2];intro x hx;simp at hx;subst hx;exact⟨by simp[bi],rfl⟩
  ·simp only[bJ,eF] at h;rw[<- h.2];intro x hx;simp at hx
  ·simp only[bJ,eF] at h;rw[<- h.2];intro x hx;simp only[jM] at hx;subst hx;exact⟨by simp[bi],rfl⟩
  ·cases h
 ·cases h
theorem nO : ∀ {cs : List Cl} {l : List PV} {u : jT}, ik ob cs = some (l, u) → ∀ x ∈ u, x.1 ∈ cs.flatMap bi ∧ lU x.2 = []
  | [],l,u,h=>by simp[ik] at h;rw[h.2];intro x hx;simp at hx
  | c :: cs,l,u,h=>by
    simp only[ik] at h;split at h
    · rename_i v u1 l2 u2 h1 h2;simp only[bJ,eF] at h;rw[<- h.2];intro x hx;simp only[lJ,dL];rcases dL.1 hx with hx | hx
      · exact⟨.inl (ng h1 x hx).1,(ng h1 x hx).2⟩
      · exact⟨.inr (nO h2 x hx).1,(nO h2 x hx).2⟩
    · cases h
theorem YF {c:Cl}{v:PV}{u:jT}(h:I5 ob c=some (v,u)):∀ x∈u,(x.1∈bi c\/∃ L∈bi c,∃ o',ob L=some o'/\x.1∈dJ o')/\lU x.2=[]:=by
 unfold I5 at h;split at h
 ·split at h
  ·rename_i L off _x ty cells hL;split at h
   ·rename_i l us hl;simp only[bJ,eF] at h;rw[<- h.2];intro x hx;rcases dL.1 hx with hx | hx
    ·exact⟨.inr ⟨L,by simp[bi],_,hL,(nO hl x hx).1⟩,(nO hl x hx).2⟩
    ·simp at hx;subst hx;exact⟨.inl (by simp[bi]),rfl⟩
   ·cases h
  ·simp only[bJ,eF] at h;rw[<- h.2];intro x hx;simp at hx
  ·cases h
 ·intro x hx;exact⟨.inl (ng h x hx).1,(ng h x hx).2⟩
theorem Fj : ∀ {cs : List Cl} {l : List PV} {u : jT}, kG ob cs = some (l, u) → ∀ x ∈ u, (x.1 ∈ cs.flatMap bi ∨ ∃ L ∈ cs.flatMap bi, ∃ o', ob L = some o' ∧ x.1 ∈ dJ o') ∧ lU x.2 = []
  | [],l,u,h=>by simp[kG] at h;rw[h.2];intro x hx;simp at hx
  | c :: cs,l,u,h=>by
    simp only[kG] at h;split at h
    · rename_i v u1 l2 u2 h1 h2;simp only[bJ,eF] at h;rw[<- h.2];intro x hx;simp only[lJ,dL];rcases dL.1 hx with hx | hx
      · obtain ⟨h3, h4⟩ := YF h1 x hx;refine⟨?_,h4⟩;rcases h3 with h3 | ⟨L,hL,o',h5,h6⟩
        · exact .inl (.inl h3)
        · exact .inr ⟨L,.inl hL,o',h5,h6⟩
      · obtain ⟨h3, h4⟩ := Fj h2 x hx;refine⟨?_,h4⟩;rcases h3 with h3 | ⟨L,hL,o',h5,h6⟩
        · exact .inl (.inr h3)
        · exact .inr ⟨L,.inr hL,o',h5,h6⟩
    · cases h
def RC (ob:Nat->Option AO) (k:Nat) (l:List Nat):Prop:=∃ L∈l,k=L\/∃ o,ob L=some o/\∃ M∈dJ o,k=M\/∃ o2,ob M=some o2/\k∈dJ o2
theorem RC.mono {ob:Nat->Option AO}{k:Nat}{l m:List Nat}(h:RC ob k l) (hl:∀ x∈l,x∈m):RC ob k m:=by
 obtain⟨L,h1,h2⟩:=h;exact⟨L,hl L h1,h2⟩
theorem Aj {c:Cl}{v:PV}{u:jT}(h:DX ob c=some (v,u)):∀ x∈u,RC ob x.1 (bi c)/\lU x.2=[]:=by
 unfold DX at h;split at h
 ·split at h
  ·rename_i L off _x ty cells hL;split at h
   ·rename_i l us hl;simp only[bJ,eF] at h;rw[<- h.2];intro x hx;rcases dL.1 hx with hx | hx
    ·obtain ⟨h3, h4⟩ := Fj hl x hx;refine⟨⟨L,by simp[bi],.inr ⟨_,hL,?_⟩⟩,h4⟩;rcases h3 with h3 | ⟨M,hM,o2,h5,h6⟩
     ·exact⟨x.1,h3,.inl rfl⟩
     ·exact⟨M,hM,.inr ⟨o2,h5,h6⟩⟩
    ·simp at hx;subst hx;exact⟨⟨L,by simp[bi],.inl rfl⟩,rfl⟩
   ·cases h
  ·simp only[bJ,eF] at h;rw[<- h.2];intro x hx;simp at hx
  ·cases h
 ·intro x hx;exact⟨⟨x.1,(ng h x hx).1,.inl rfl⟩,(ng h x hx).2⟩
theorem xu : ∀ {cs : List Cl} {l : List PV} {u : jT}, oK ob cs = some (l, u) → ∀ x ∈ u, RC ob x.1 (cs.flatMap bi) ∧ lU x.2 = []
  | [],l,u,h=>by simp[oK] at h;rw[h.2];intro x hx;simp at hx
  | c :: cs,l,u,h=>by
    simp only[oK] at h;split at h
    · rename_i v u1 l2 u2 h1 h2;simp only[bJ,eF] at h;rw[<- h.2];intro x hx;simp only[lJ];rcases dL.1 hx with hx | hx
      · exact⟨(Aj h1 x hx).1.mono λ y hy=>dL.2 (.inl hy),(Aj h1 x hx).2⟩
      · exact⟨(xu h2 x hx).1.mono λ y hy=>dL.2 (.inr hy),(xu h2 x hx).2⟩
    · cases h
theorem Fp {c:Cl}{v:PV}{u:jT}(h:frz ob c=some (v,u)):∀ x∈u,RC ob x.1 (bi c)/\lU x.2=[]:=by
 unfold frz at h;split at h
 ·rename_i f caps;split at h
  ·rename_i l us hl;simp only[bJ,eF] at h;obtain⟨rfl,rfl⟩:=h;have:=xu hl;rw[yE] at this;exact this
  ·cases h
 ·exact Aj h
theorem vI : ∀ {cs : List Cl} {l : List PV} {u : jT}, o7 ob cs = some (l, u) → ∀ x ∈ u, RC ob x.1 (cs.flatMap bi) ∧ lU x.2 = []
  | [],l,u,h=>by simp[o7] at h;rw[h.2];intro x hx;simp at hx
  | c :: cs,l,u,h=>by
    simp only[o7] at h;split at h
    · rename_i v u1 l2 u2 h1 h2;simp only[bJ,eF] at h;rw[<- h.2];intro x hx;simp only[lJ];rcases dL.1 hx with hx | hx
      · exact⟨(Fp h1 x hx).1.mono λ y hy=>dL.2 (.inl hy),(Fp h1 x hx).2⟩
      · exact⟨(vI h2 x hx).1.mono λ y hy=>dL.2 (.inr hy),(vI h2 x hx).2⟩
    · cases h
theorem J7 {d:DV}{v:PA}{u:jT}(h:wu ob d=some (v,u)):∀ x∈u,x.1∈bF ob d/\lU x.2=[]:=by
 have deep:∀ k,RC ob k (bY d)->k∈bF ob d:=λ k hk=>jV.2 hk;unfold wu at h;split at h
 ·split at h
  ·rename_i v' u' h1;simp only[bJ,eF] at h;rw[<- h.2];intro x hx;obtain⟨h3,h4⟩:=Fp h1 x hx;exact⟨deep _ h3,h4⟩
  ·cases h
 ·split at h
  ·rename_i v' u' h1;simp only[bJ,eF] at h;rw[<- h.2];intro x hx;obtain⟨h3,h4⟩:=vI h1 x hx;exact⟨deep _ h3,h4⟩
  ·cases h
 ·cases h
theorem xw : ∀ {ds : List DV} {l : List PA} {u : jT}, fQ ob ds = some (l, u) → ∀ x ∈ u, x.1 ∈ ds.flatMap (bF ob) ∧ lU x.2 = []
  | [],l,u,h=>by simp[fQ] at h;rw[h.2];intro x hx;simp at hx
  | d :: ds,l,u,h=>by
    simp only[fQ] at h;split at h
    · rename_i v u1 l2 u2 h1 h2;simp only[bJ,eF] at h;rw[<- h.2];intro x hx;simp only[lJ,dL];rcases dL.1 hx with hx | hx
      · exact⟨.inl (J7 h1 x hx).1,(J7 h1 x hx).2⟩
      · exact⟨.inr (xw h2 x hx).1,(xw h2 x hx).2⟩
    · cases h
end
end Go.Pm
namespace Go.Pm
variable [aJ]

section
variable {P:Program}{Γ:aX}{o:Oper}{ev:Operand->DV}{ob:Nat->Option AO}{A:aH}

theorem WA {α β : Type} {f h : α → List β} : ∀ {l : List α}, (∀ x ∈ l, f x = h x) → l.flatMap f = l.flatMap h
  | [],_=>rfl
  | x :: l,hf=>by simp only[lJ];rw[hf x kR,WA λ y hy=>hf y (je _ hy)]

theorem WB {x:Operand}(hop:o.op=.move x\/o.op=.assign x):bV P Γ o ev ob (.val [] (ev x) [] []):=by
 have hx:x∈o.op.operands.toList:=by rcases hop with h | h <;> simp[h,Op.operands]
 refine bV.pure (nN hx λ L hL=>hL) λ ev' ob' he _=>?_;rcases hop with h | h <;> simp only[act,h,he x hx]

theorem zhb {b:Bool}{x y:DV} : ∀ L∈jF (wH b x y),L∈jF x\/L∈jF y:=by
 unfold wH;split
 ·intro L hL;simp[jF,o8,kC] at hL
 ·cases b with
  | true=>exact λ L hL=>.inl hL
  | false=>exact λ L hL=>.inr hL

theorem zhc {c x y:Operand}{t:Bool}(hop:o.op=.pick c x y) (hc:ev c=.one (.c (.p (.bool t)))):bV P Γ o ev ob (.val [] (wH t (ev x) (ev y)) [] []):=by
 have hcm:c∈o.op.operands.toList:=by simp[hop,Op.operands]
 have hx:x∈o.op.operands.toList:=by simp[hop,Op.operands]
 have hy:y∈o.op.operands.toList:=by simp[hop,Op.operands]
 refine bV.pure (λ L hL=>?_) λ ev' ob' he _=>?_
 ·rcases zhb L hL with h | h
  ·exact .inl (.inl ⟨x,hx,h⟩)
  ·exact .inl (.inl ⟨y,hy,h⟩)
 ·simp only[act,aPk,hop,he c hcm,he x hx,he y hy,hc]

theorem LG {ao : AO} {d : Nat → DV} (hlo : ∀ L ∈ lU ao, Men o ev ob [] L) (hld : ∀ t, ∀ L ∈ jF (d t), L = t)
    (hc:∀ ev' ob',(∀ x∈o.op.operands.toList,ev' x=ev x)->act P Γ o ev' ob'=zU ob' o.dst ao d) (hA:zU ob o.dst ao d=A) (hs:A.safe):bV P Γ o ev ob A:=by
  have hA':=hA;unfold zU at hA;split at hA
  · rename_i t ht;split at hA
    · rename_i hn;subst hA;have men:∀ L,Men o ev ob [] L->Men o ev ob [(t,true)] L:=λ L h=>h.imp_right λ ⟨y,hy,_⟩=>by simp at hy
      refine⟨λ x hx=>?_,.inl rfl,λ x hx L hL=>?_,λ d' hd' L hL=>?_,λ ev' ob' he hob=>?_⟩
      · simp only[aH.u,jM] at hx;subst hx;simp[aH.fp]
      · simp only[aH.u,jM] at hx;subst hx;exact men L (hlo L hL)
      · simp only[aH.gives] at hd';subst hd';rw[hld t L hL];exact .inr (by simp[aH.fp])
      · rw [hc ev' ob' he];have:=hob (t,true) (by simp[aH.fp]);simp only at this;simp only[zU,ht,this,hn]
    · subst hA;exact hs.elim
  · subst hA;exact hs.elim

theorem WC {t:TypeId}{z:List Cl}(h:fA P t=some z):z.flatMap kC=[]:=by
 have h1:=JG h;cases hz:z.flatMap kC with
 | nil=>rfl
 | cons L l =>
  have:L∈z.flatMap kC:=by rw[hz];exact kR
  obtain⟨c,hc,hL⟩:=jE.1 this;have:L∈z.flatMap bi:=jE.2 ⟨c,hc,LC L hL⟩;rw[h1] at this;simp at this

theorem LH (d:D1):d.cells.flatMap kC=o8 d:=by cases d <;> simp[D1.cells,o8]

theorem PQ {t : TypeId} : ∀ (parts : List (Nat × Operand)) (z l : List Cl), fZ P t ev z parts = some l → ∀ L ∈ l.flatMap kC, L ∈ z.flatMap kC ∨ ∃ x ∈ parts, L ∈ jF (ev x.2)
  | [],z,l,h=>by simp[fZ] at h;subst h;exact λ L hL=>.inl hL
  | (i,x) :: r,z,l,h=>by
    simp only[fZ] at h;split at h
    · rename_i d hd;have zDH:∀ (l' l:List Cl) (off:Nat),∀ L∈(spl l off l').flatMap kC,L∈l.flatMap kC\/L∈l'.flatMap kC:=by
        intro l'
        induction l' with
        | nil=>intro l off L hL;exact .inl hL
        | cons c l' ih =>
          intro l off L hL;simp only[spl] at hL;rcases ih _ _ L hL with h | h
          · obtain ⟨c', hc', hL'⟩ := jE.1 h;rcases List.mem_or_eq_of_mem_set hc' with h2 | h2
            · exact .inl (jE.2 ⟨c',h2,hL'⟩)
            · subst h2;exact .inr (jE.2 ⟨c',kR,hL'⟩)
          · exact .inr (by simp only[lJ,dL];exact .inr h)
      have step:∀ off,fZ P t ev (spl z off d.cells) r=some l->∀ L∈l.flatMap kC,L∈z.flatMap kC\/∃ y∈(i,x) :: r,L∈jF (ev y.2):=by
        intro off hb L hL;rcases PQ r _ l hb L hL with h | ⟨y,hy,hL⟩
        · rcases zDH _ _ _ L h with h | h
          · exact .inl h
          · refine .inr ⟨(i, x), kR, ?_⟩;simp only[hd,jF];rw[<- LH];exact h
        · exact .inr ⟨y,je _ hy,hL⟩
      split at h
      · split at h
        · split at h
          · split at h
            · exact step _ h
            · cases h
          · cases h
        · cases h
      · split at h
        · split at h
          · exact step _ h
          · cases h
        · cases h
      · cases h
    · cases h

theorem yF {ev' : Operand → DV} {t : TypeId} : ∀ (parts : List (Nat × Operand)) (z : List Cl), (∀ x ∈ parts, ev' x.2 = ev x.2) → fZ P t ev' z parts = fZ P t ev z parts
  | [],z,_=>rfl
  | (i,x) :: r,z,h=>by
    have hx:ev' x=ev x:=h (i,x) kR;have ih:∀ z,fZ P t ev' z r=fZ P t ev z r:=λ z=>yF r z λ y hy=>h y (je _ hy);simp only[fZ,hx,ih]

theorem wL {ev':Operand->DV}{ob':Nat->Option AO}{s:Nat} : ∀ (parts:List (Nat×Operand)) (i:Nat) (ls:List (List PV)) (u:jT) (gK:List Nat),gY ob ev s i parts=some (ls,u,gK) ->
  (∀ x∈parts,ev' x.2=ev x.2)->(∀ L∈gK,ob' L=ob L)->gY ob' ev' s i parts=some (ls,u,gK)
 | [],i,ls,u,gK,h,_,_=>by simpa [gY] using h
 | (j,x) :: r,i,ls,u,gK,h,he,hob=>by
  have hx:ev' x=ev x:=he (j,x) kR;simp only[gY] at h ⊢;rw[hx];split at h
  ·rename_i hij;split at h
   ·rename_i d hd;split at h
    ·rename_i l u1 ls' us zlF h1 h2;split at h
     ·rename_i hlen;simp only[bJ,eF] at h;obtain⟨rfl,rfl,rfl⟩:=h;have e1:ik ob' d.cells=some (l,u1):=by
       rw[<- h1];refine uI λ L hL=>hob L (dL.2 (.inl ?_));cases d <;> simpa [D1.cells,cZ] using hL
      have e2:=wL r (i+1) ls' us zlF h2 (λ y hy=>he y (je _ hy)) (λ L hL=>hob L (dL.2 (.inr hL)));simp only[e1,e2,hlen]
     ·cases h
    ·cases h
   ·cases h
  ·cases h
theorem rV {s : Nat} : ∀ (parts : List (Nat × Operand)) (i : Nat) (ls : List (List PV)) (u : jT) (gK : List Nat), gY ob ev s i parts = some (ls, u, gK) → ∀ x ∈ u, x.1 ∈ gK ∧ lU x.2 = []
  | [],i,ls,u,gK,h=>by simp[gY] at h;rw[h.2.1];intro x hx;simp at hx
  | (j,x) :: r,i,ls,u,gK,h=>by
    simp only[gY] at h;split at h
    · split at h
      · rename_i d hd;split at h
        · rename_i l u1 ls' us zlF h1 h2;split at h
          · simp only [bJ, eF] at h;obtain⟨rfl,rfl,rfl⟩:=h;intro y hy;rcases dL.1 hy with hy | hy
            · obtain ⟨h3, h4⟩ := nO h1 y hy;refine⟨dL.2 (.inl ?_),h4⟩;cases d <;> simpa [D1.cells,cZ] using h3
            · obtain ⟨h3, h4⟩ := rV r _ _ _ _ h2 y hy;exact⟨dL.2 (.inr h3),h4⟩
          · cases h
        · cases h
      · cases h
    · cases h

theorem zcn {t : TypeId} {parts : Array (Nat × Operand)} {z l : List Cl} (hop : o.op = .build t parts) (hf : ul P t = true) (hz : fA P t = some z) (hl : fZ P t ev z parts.toList = some l) :
  bV P Γ o ev ob (.val [] (.one (.agg l)) [] []):=by
 have hm:∀ x∈parts.toList,x.2∈o.op.operands.toList:=λ x hx=>by
  simp only[hop,Op.operands];exact vC.2 ⟨x,hx,rfl⟩
 refine bV.pure (λ L hL=>?_) λ ev' ob' he _=>?_
 ·rcases PQ _ _ _ hl L hL with h | ⟨x, hx, h⟩
  ·rw[WC hz] at h;simp at h
  ·exact .inl (.inl ⟨x.2,hm x hx,h⟩)
 ·simp only[act,aBd,hop,hf,hz,yF parts.toList z (λ x hx=>he x.2 (hm x hx)),hl]

theorem Fq {l:List Nat}{L:Nat}(h:L∈l):(L,true)∈wr l:=vC.2 ⟨L,h,rfl⟩

theorem Jc {t:TypeId}{n:Nat}{parts:Array (Nat×Operand)}(hop:o.op=.buildSlice t n parts) (hA:act P Γ o ev ob=A) (hs:A.safe):bV P Γ o ev ob A:=by
 have hm:∀ x∈parts.toList,x.2∈o.op.operands.toList:=λ x hx=>by
  simp only[hop,Op.operands];exact vC.2 ⟨x,hx,rfl⟩
 simp only[act,aBs,hop] at hA;split at hA
 ·rename_i e hu;split at hA
  ·rename_i ie hie;split at hA
   ·rename_i ls u gK hp;split at hA
    ·rename_i z dst hb hz hd;split at hA
     ·rename_i hn;subst hA;refine⟨λ x hx=>?_,.inl rfl,λ x hx L hL=>?_,λ d' hd' L hL=>?_,λ ev' ob' he hob=>?_⟩
      ·simp only [aH.u, jf] at hx;simp only[aH.fp,dL];rcases hx with rfl | hx
       ·exact .inr (by simp)
       ·exact .inl (Fq (rV _ _ _ _ _ hp x hx).1)
      ·simp only [aH.u, jf] at hx;rcases hx with rfl | hx
       ·simp[lU] at hL
       ·rw[(rV _ _ _ _ _ hp x hx).2] at hL;simp at hL
      ·simp only [aH.gives] at hd'; subst hd';simp only[jF,o8,kC,jM] at hL;subst hL;exact .inr (by simp[aH.fp])
      ·have e1 := wL (ev' := ev') (ob' := ob') _ _ _ _ _ hp (fun x hx => he x.2 (hm x hx)) (fun L hL => hob (L, true) (dL.2 (.inl (Fq hL))));have e2:=hob (dst,true) (dL.2 (.inr (by simp)));simp only at e2;simp only[act,aBs,hop,hu,hie,e1,hb,hz,hd,e2,hn]
     ·subst hA;exact hs.elim
    ·subst hA;exact hs.elim
   ·subst hA;exact hs.elim
  ·subst hA;exact hs.elim
 ·subst hA;exact hs.elim

theorem znV {L:Nat}{ao:AO}{w:Bool}{d:D1}(hL:ob L=some ao) (h:∀ M∈o8 d,M∈lU ao):∀ M∈jF (.one d),Men o ev ob [(L,w)] M\/(M,true)∈[(L,w)] :=
 λ M hM=>.inl (.inr ⟨(L,w),by simp,ao,hL,h M hM⟩)

theorem zhd {t:TypeId}{x:Operand}(hop:o.op=.load t x) (hA:act P Γ o ev ob=A) (hs:A.safe):bV P Γ o ev ob A:=by
 have hm:x∈o.op.operands.toList:=by simp[hop,Op.operands]
 simp only[act,aLd,hop] at hA;split at hA
 ·rename_i ag n hag hn;split at hA
  ·rename_i L off hx;split at hA
   ·rename_i ty cells hL;split at hA
    ·rename_i d hr;subst hA;refine bV.pure (znV hL (LD hr)) λ ev' ob' he hob=>?_;have e:=hob (L,false) (by simp);simp only at e;simp only[act,aLd,hop,hag,hn,he x hm,hx,e,hL,hr]
    ·subst hA;exact hs.elim
   ·rename_i cells hL;split at hA
    ·rename_i d hr;subst hA;refine bV.pure (λ M hM=>?_) λ ev' ob' he hob=>?_
     ·simp only[jF] at hM;rw[Dw hr] at hM;simp at hM
     have e:=hob (L,false) (by simp);simp only at e;simp only[act,aLd,hop,hag,hn,he x hm,hx,e,hL,hr]
    ·subst hA;exact hs.elim
   ·subst hA;exact hs.elim
  ·rename_i cells off hx;split at hA
   ·rename_i d hr;subst hA;refine bV.pure (λ M hM=>?_) λ ev' ob' he hob=>?_
    ·simp only[jF] at hM;rw[Dw hr] at hM;simp at hM
    simp only[act,aLd,hop,hag,hn,he x hm,hx,hr]
   ·subst hA;exact hs.elim
  ·rename_i L s i k hx;split at hA
   ·rename_i e s' b len get hL;split at hA
    ·rename_i d hss hr;subst hA;refine bV.pchk (λ M hM=>?_) λ ev' ob' he hob=>?_
     ·simp only[jF] at hM;rw[Dw hr] at hM;simp at hM
     have e:=hob (L,false) (by simp);simp only at e;simp only[act,aLd,hop,hag,hn,he x hm,hx,e,hL,hss,hr]
    ·subst hA;exact hs.elim
   ·rename_i s' len get hL;split at hA
    ·rename_i d hss hr;subst hA;refine bV.pchk (λ M hM=>?_) λ ev' ob' he hob=>?_
     ·simp only[jF] at hM;rw[Dw hr] at hM;simp at hM
     have e:=hob (L,false) (by simp);simp only at e;simp only[act,aLd,hop,hag,hn,he x hm,hx,e,hL,hss,hr]
    ·subst hA;exact hs.elim
   ·rename_i hL0;split at hA
    ·rename_i hss;split at hA
     ·rename_i dst hdst;split at hA
      ·rename_i hfresh hL;subst hA;refine⟨λ x hx=>?_,.inl rfl,λ x hx L hL=>?_,λ d' hd' L hL=>?_,λ ev' ob' he hob=>?_⟩
       ·simp only [aH.u, jf, List.not_mem_nil, or_false] at hx;rcases hx with rfl | rfl <;> simp[aH.fp]
       ·simp only [aH.u, jf, List.not_mem_nil, or_false] at hx;rcases hx with rfl | rfl <;> simp[lU] at hL
       ·simp only [aH.gives] at hd'; subst hd';simp only[jF,o8,kC,jM] at hL;subst hL;exact .inr (by simp[aH.fp])
       ·have e1 := hob (L, true) (by simp [aH.fp]);have e2:=hob (dst,true) (by simp[aH.fp]);simp only at e1 e2;simp only[act,aLd,hop,hag,hn,he x hm,hx,e1,e2,hL,hss,hdst,hfresh]
      ·subst hA;exact hs.elim
     ·subst hA;exact hs.elim
    ·subst hA;exact hs.elim
   ·subst hA;exact hs.elim
  ·subst hA;exact hs.elim
 ·subst hA;exact hs.elim

theorem zwq:∀ (l' l:List Cl) (off:Nat),∀ L∈(spl l off l').flatMap kC,L∈l.flatMap kC\/L∈l'.flatMap kC:=by
 intro l'
 induction l' with
 | nil=>intro l off L hL;exact .inl hL
 | cons c l' ih =>
  intro l off L hL;simp only[spl] at hL;rcases ih _ _ L hL with h | h
  ·obtain ⟨c', hc', hL'⟩ := jE.1 h;rcases List.mem_or_eq_of_mem_set hc' with h2 | h2
   ·exact .inl (jE.2 ⟨c',h2,hL'⟩)
   ·subst h2;exact .inr (jE.2 ⟨c',kR,hL'⟩)
  ·exact .inr (by simp only[lJ,dL];exact .inr h)

theorem zco {t:TypeId}{x y:Operand}(hop:o.op=.store t x y) (hA:act P Γ o ev ob=A) (hs:A.safe):bV P Γ o ev ob A:=by
 have hx:x∈o.op.operands.toList:=by simp[hop,Op.operands]
 have hy:y∈o.op.operands.toList:=by simp[hop,Op.operands]
 simp only[act,aSt,hop] at hA;split at hA
 ·rename_i n L off d hn hex Sj;split at hA
  ·rename_i ty cells hL;split at hA
   ·rename_i hb;subst hA;refine⟨λ z hz=>?_,.inl rfl,λ z hz M hM=>?_,λ d' hd' M hM=>?_,λ ev' ob' he hob=>?_⟩
    ·simp only[aH.u,jM] at hz;subst hz;simp[aH.fp]
    ·simp only [aH.u, jM] at hz; subst hz;simp only[lU] at hM;rcases zwq _ _ _ M hM with h | h
     ·exact .inr ⟨(L,true),by simp[aH.fp],_,hL,h⟩
     ·refine .inl ⟨y, hy, ?_⟩;rw[Sj];simp only[jF];rw[<- LH];exact h
    ·simp only[aH.gives] at hd';subst hd';simp[jF,o8,kC] at hM
    ·have e := hob (L, true) (by simp [aH.fp]); simp only at e;simp only[act,aSt,hop,hn,he x hx,he y hy,hex,Sj,e,hL,hb]
   ·subst hA;exact hs.elim
  ·subst hA;exact hs.elim
 ·rename_i n L s i k d hn hex Sj;split at hA
  ·rename_i e s' b len get hL;split at hA
   ·rename_i l hl;split at hA
    ·rename_i hb;subst hA;refine⟨λ z hz=>?_,.inl rfl,λ z hz M hM=>?_,λ d' hd' M hM=>?_,λ ev' ob' he hob=>?_⟩
     ·simp only[aH.u,jM] at hz;subst hz;simp[aH.fp]
     ·simp only[aH.u,jM] at hz;subst hz;simp[lU] at hM
     ·simp only[aH.gives] at hd';subst hd';simp[jF,o8,kC] at hM
     ·have e := hob (L, true) (by simp [aH.fp]); simp only at e;simp only[act,aSt,hop,hn,he x hx,he y hy,hex,Sj,e,hL,hl,hb]
    ·subst hA;exact hs.elim
   ·subst hA;exact hs.elim
  ·rename_i te bb e s' by' len ln get hL;split at hA
   ·rename_i M';split at hA
    ·rename_i e2 s2 b2 mm jw hM';split at hA
     ·rename_i hb;split at hA
      ·rename_i hq;subst hA;refine⟨λ z hz=>?_,.inl rfl,λ z hz M hM=>?_,λ d' hd' M hM=>?_,λ ev' ob' he hob=>?_⟩
       ·simp only [aH.u, jf, List.not_mem_nil, or_false] at hz;rcases hz with rfl | rfl <;> simp[aH.fp]
       ·simp only [aH.u, jf, List.not_mem_nil, or_false] at hz;rcases hz with rfl | rfl <;> simp[lU] at hM
       ·simp only[aH.gives] at hd';subst hd';simp[jF,o8,kC] at hM
       ·have e := hob (L, true) (by simp [aH.fp]); simp only at e;have e2:=hob (M',true) (by simp[aH.fp]);simp only at e2;simp only[act,aSt,hop,hn,he x hx,he y hy,hex,Sj,e,hL,e2,hM',hb];rw[if_pos hq]
      ·subst hA;exact hs.elim
     ·subst hA;exact hs.elim
    ·subst hA;exact hs.elim
   ·subst hA;exact hs.elim
  ·subst hA;exact hs.elim
 ·subst hA;exact hs.elim

theorem PR {x:Operand}(hop:o.op=.nilCheck x) (hA:act P Γ o ev ob=A) (hs:A.safe):bV P Γ o ev ob A:=by
 have hx:x∈o.op.operands.toList:=by simp[hop,Op.operands]
 simp only[act,aNc,hop] at hA;split at hA
 ·rename_i L off h; subst hA;exact bV.pure (nN hx λ L hL=>by rw[h];exact hL) λ ev' ob' he _=>by simp only[act,aNc,hop,he x hx,h]
 ·rename_i L off h; subst hA;exact bV.pure (nN hx λ L hL=>by rw[h];exact hL) λ ev' ob' he _=>by simp only[act,aNc,hop,he x hx,h]
 ·rename_i L s i k h; subst hA;exact bV.pure (nN hx λ L hL=>by rw[h];exact hL) λ ev' ob' he _=>by simp only[act,aNc,hop,he x hx,h]
 ·subst hA;exact hs.elim

theorem zcp {op : BinOp} {k : IntKind} {p q : Int} (hs : (Oy op k p q).safe)
    (hc:∀ ev' ob',(∀ x∈o.op.operands.toList,ev' x=ev x)->act P Γ o ev' ob'=Oy op k p q):bV P Γ o ev ob (Oy op k p q):=by
  cases op <;> first
    | exact hs.elim
    | exact bV.pure (gz _) λ ev' ob' he _=>hc ev' ob' he
    | exact bV.pchk (gz _) λ ev' ob' he _=>hc ev' ob' he

theorem zcq {op:BinOp}{t t':TypeId}{x y:Operand}(hop:o.op=.binOp op t x y t') (hA:act P Γ o ev ob=A) (hs:A.safe):bV P Γ o ev ob A:=by
 have hx:x∈o.op.operands.toList:=by simp[hop,Op.operands]
 have hy:y∈o.op.operands.toList:=by simp[hop,Op.operands]
 simp only[act,aBn,hop] at hA;split at hA
 ·rename_i k p k' q hex Sj;split at hA
  ·rename_i hk;subst hA;exact zcp hs λ ev' ob' he=>by simp only[act,aBn,hop,he x hx,he y hy,hex,Sj,hk,if_true]
  ·rename_i hk;subst hA;have hc:∀ ev' ob',(∀ x∈o.op.operands.toList,ev' x=ev x)->act P Γ o ev' ob'=zbB op k p q:=λ ev' ob' he=>by simp only[act,aBn,hop,he x hx,he y hy,hex,Sj,hk,if_false]
   cases op <;> first
    | exact hs.elim
    | exact bV.pchk (gz _) λ ev' ob' he _=>hc ev' ob' he
 ·rename_i p q hex Sj;split at hA
  ·rename_i hu; subst hA;exact bV.pure (gz _) λ ev' ob' he _=>by simp only[act,aBn,hop,he x hx,he y hy,hex,Sj,hu]
  ·rename_i hu; subst hA;exact bV.pure (gz _) λ ev' ob' he _=>by simp only[act,aBn,hop,he x hx,he y hy,hex,Sj,hu]
  ·subst hA;exact hs.elim
 ·rename_i cs ds hex Sj;have hc:∀ ev' ob',(∀ x∈o.op.operands.toList,ev' x=ev x)->act P Γ o ev' ob'=A:=λ ev' ob' he=>by
   simp only[act,aBn,hop,he x hx,he y hy,hex,Sj];exact hA
  unfold VM at hA;split at hA
  ·split at hA
   ·subst hA;exact bV.pure (gz _) λ ev' ob' he _=>hc ev' ob' he
   ·subst hA;exact bV.pure (gz _) λ ev' ob' he _=>hc ev' ob' he
   ·subst hA;exact hs.elim
  ·subst hA;exact hs.elim
 ·subst hA;exact hs.elim

theorem zcr {t:TypeId}{x y:Operand}(hop:o.op=.index t x y) (hA:act P Γ o ev ob=A) (hs:A.safe):bV P Γ o ev ob A:=by
 have hx:x∈o.op.operands.toList:=by simp[hop,Op.operands]
 have hy:y∈o.op.operands.toList:=by simp[hop,Op.operands]
 have hc:∀ ev' ob',(∀ x∈o.op.operands.toList,ev' x=ev x)->act P Γ o ev' ob'=A:=λ ev' ob' he=>by
  rw[<- hA];simp only[act,hop,he x hx,he y hy]
 simp only[act,hop,DZ] at hA;split at hA
 ·split at hA
  ·rename_i cs k j _ _ hex Sj;split at hA
   ·rename_i d _ hr;subst hA;refine bV.pure (nN hx λ L hL=>?_) λ ev' ob' he _=>hc ev' ob' he;rw[hex];exact LD hr L hL
   ·subst hA;exact hs.elim
  ·subst hA;exact hs.elim
 ·subst hA;exact hs.elim

theorem zcs {t:TypeId}{x:Operand}{f:Nat}(hop:o.op=.field t x f) (hA:act P Γ o ev ob=A) (hs:A.safe):bV P Γ o ev ob A:=by
 have hx:x∈o.op.operands.toList:=by simp[hop,Op.operands]
 have hc:∀ ev' ob',(∀ x∈o.op.operands.toList,ev' x=ev x)->act P Γ o ev' ob'=A:=λ ev' ob' he=>by
  rw[<- hA];simp only[act,hop,he x hx]
 simp only[act,hop,D5] at hA;split at hA
 ·split at hA
  ·split at hA
   ·rename_i hex;split at hA
    ·rename_i d hr;subst hA;refine bV.pure (nN hx λ L hL=>?_) λ ev' ob' he _=>hc ev' ob' he;rw[hex];exact LD hr L hL
    ·subst hA;exact hs.elim
   ·subst hA;exact hs.elim
  ·subst hA;exact hs.elim
 ·subst hA;exact hs.elim

theorem ok_slice {t:TypeId}{x:Operand}{lo hi:Option Operand}(hop:o.op=.slice t x lo hi none) (hA:act P Γ o ev ob=A) (hs:A.safe):bV P Γ o ev ob A:=by
 have hx:x∈o.op.operands.toList:=by simp[hop,Op.operands]
 have hlo:∀ y,lo=some y->y∈o.op.operands.toList:=λ y e=>by subst e;simp[hop,Op.operands]
 have hhi:∀ y,hi=some y->y∈o.op.operands.toList:=λ y e=>by subst e;simp[hop,Op.operands]
 have hc:∀ ev' ob',(∀ x∈o.op.operands.toList,ev' x=ev x)->act P Γ o ev' ob'=A:=λ ev' ob' he=>by
  have e1:zT ev' lo=zT ev lo:=by
   cases lo with
   | none=>rfl
   | some y=>simp only[zT,he y (hlo y rfl)]
  have e2:zT ev' hi=zT ev hi:=by
   cases hi with
   | none=>rfl
   | some y=>simp only[zT,he y (hhi y rfl)]
  rw[<- hA];simp only[act,hop,he x hx,e1,e2]
 simp only[act,hop,xX] at hA;split at hA
 ·split at hA
  ·split at hA
   ·subst hA;exact bV.pchk (λ L hL=>by simp[jF,o8,kC] at hL) λ ev' ob' he _=>hc ev' ob' he
   ·subst hA;exact hs.elim
  ·subst hA;exact hs.elim
 ·subst hA;exact hs.elim

theorem zhe {d:D1} : ∀ L,L∈o8 d->L∈cZ d:=by
 intro L hL;cases d with
 | c y=>exact LC L hL
 | agg cs =>
  obtain⟨c,hc,hL⟩:=jE.1 hL;exact jE.2 ⟨c,hc,LC L hL⟩

theorem YG {q:MQ}{kd:DV}{ok:Bool}{F:List Int->Option (List Int)}{fin:DV->aH}(hA:found q kd ok F fin=A) (hs:A.safe):∃ d,(∀ M∈jF d,False)/\fin d=A:=by
 unfold found at hA;split at hA
 ·split at hA
  ·rename_i d hdv;have hV:∀ M,M∈o8 d->False:=λ M hM=>by have:=zhe M hM;rw[O9 hdv] at this;simp at this
   cases ok with
   | true =>
    refine⟨_,λ M hM=>?_,hA⟩;simp only[jF,lJ,List.flatMap_nil,List.append_nil,dL] at hM;rcases hM with hM | hM
    ·exact hV M hM
    ·simp[o8,kC] at hM
   | false=>exact⟨.one d,λ M hM=>hV M hM,hA⟩
  ·subst hA;exact hs.elim
 ·subst hA;exact hs.elim

theorem YJ {t:TypeId}{x y:Operand}{k:Bool}(hop:o.op=.lookup t x y k) (hA:act P Γ o ev ob=A) (hs:A.safe):bV P Γ o ev ob A:=by
 have hx:x∈o.op.operands.toList:=by simp[hop,Op.operands]
 have hy:y∈o.op.operands.toList:=by simp[hop,Op.operands]
 have hc1:∀ ev' ob',(∀ x∈o.op.operands.toList,ev' x=ev x)->act P Γ o ev' ob'=D8 P t (ev x) (ev y) k ob':=λ ev' ob' he=>by simp only[act,hop,he x hx,he y hy]
 rw[hc1 ev ob (λ _ _=>rfl)] at hA;unfold D8 at hA hc1;split at hA
 ·rename_i kt vt L hu hex;split at hA
  ·rename_i q kt' vt' q' n F hE hL;split at hA
   ·rename_i hcond;obtain⟨d,hd,e⟩:=YG hA hs;subst e;refine bV.pure (λ M hM=>(hd M hM).elim) λ ev' ob' he hob=>?_;rw[hc1 ev' ob' he];have:=hob (L,false) (by simp);simp only at this;simp only[hu,hex,this,hL,hE,if_pos hcond];exact hA
   ·subst hA;exact hs.elim
  ·subst hA;exact hs.elim
 ·subst hA;exact hs.elim

theorem LJ {t:TypeId}{x y z:Operand}(hop:o.op=.mapUpdate t x y z) (hA:act P Γ o ev ob=A) (hs:A.safe):bV P Γ o ev ob A:=by
 have hx:x∈o.op.operands.toList:=by simp[hop,Op.operands]
 have hy:y∈o.op.operands.toList:=by simp[hop,Op.operands]
 have hz:z∈o.op.operands.toList:=by simp[hop,Op.operands]
 have hc1:∀ ev' ob',(∀ x∈o.op.operands.toList,ev' x=ev x)->act P Γ o ev' ob'=Oz P t (ev x) (ev y) (ev z) ob':=λ ev' ob' he=>by simp only[act,hop,he x hx,he y hy,he z hz]
 rw[hc1 ev ob (λ _ _=>rfl)] at hA;unfold Oz at hA hc1;split at hA
 ·rename_i kt vt L hu hex;split at hA
  ·rename_i q kt' vt' q' n F hE hL;split at hA
   ·rename_i c dv hck hez;split at hA
    ·rename_i l hl;split at hA
     ·rename_i hcond;have hcc:∀ ev' ob',(∀ x∈o.op.operands.toList,ev' x=ev x)->(∀ y∈[(L,true)],ob' y.1=ob y.1)->act P Γ o ev' ob'=A:=λ ev' ob' he hob=>by
       rw[hc1 ev' ob' he];have:=hob (L,true) (by simp);simp only at this;simp only[hu,hex,this,hL,hE,hck,hez,hl,if_pos hcond];exact hA
      subst hA;refine⟨λ x hx=>?_,.inl rfl,λ x hx M hM=>?_,λ d' hd' M hM=>?_,λ ev' ob' he hob=>hcc ev' ob' he hob⟩
      ·simp only[aH.u,jM] at hx;subst hx;simp[aH.fp]
      ·simp only[aH.u,jM] at hx;subst hx;simp[lU] at hM
      ·simp only[aH.gives] at hd';subst hd';simp[jF,o8,kC] at hM
     ·subst hA;exact hs.elim
    ·subst hA;exact hs.elim
   ·subst hA;exact hs.elim
  ·subst hA;exact hs.elim
 ·subst hA;exact hs.elim

theorem TI {t:TypeId}(hop:o.op=.makeMap t none) (hA:act P Γ o ev ob=A) (hs:A.safe):bV P Γ o ev ob A:=by
 cases hv:znr Γ o.dst with
 | true =>
  simp only[act,aMm,hop,hv] at hA;split at hA
  ·rename_i kt vt hu;split at hA
   ·rename_i q hE;exact LG (ao:=.mo kt vt q 0 (λ _=>none)) (d:=λ t=>.cl (.mo t)) (λ L hL=>by simp[lU] at hL) (λ t L hL=>by simpa [jF,o8,kC] using hL) (λ ev' ob' _=>by simp only[act,aMm,hop,hv,hu,hE]) hA hs
   ·subst hA;exact hs.elim
  ·subst hA;exact hs.elim
 | false =>
  simp only[act,aMm,hop,hv] at hA;subst hA;exact hs.elim

theorem zhf {op:UnOp}{t:TypeId}{x:Operand}(hop:o.op=.unOp op t x) (hA:act P Γ o ev ob=A) (hs:A.safe):bV P Γ o ev ob A:=by
 have hx:x∈o.op.operands.toList:=by simp[hop,Op.operands]
 simp only[act,aUn,hop] at hA;split at hA
 ·rename_i h; subst hA;exact bV.pure (gz _) λ ev' ob' he _=>by simp only[act,aUn,hop,he x hx,h]
 ·rename_i h; subst hA;exact bV.pure (gz _) λ ev' ob' he _=>by simp only[act,aUn,hop,he x hx,h]
 ·subst hA;exact hs.elim

theorem TJ {t1 t2:TypeId}{x:Operand}(hop:o.op=.convert t1 t2 x) (hA:act P Γ o ev ob=A) (hs:A.safe):bV P Γ o ev ob A:=by
 have hx:x∈o.op.operands.toList:=by simp[hop,Op.operands]
 simp only[act,aCv,hop] at hA;split at hA
 ·rename_i h1 h2 h; subst hA;exact bV.pure (gz _) λ ev' ob' he _=>by simp only[act,aCv,hop,he x hx,h,h1,h2]
 ·subst hA;exact hs.elim

theorem LK {t:TypeId}{x:Operand}{f:Nat}(hop:o.op=.fieldAddr t x f) (hA:act P Γ o ev ob=A) (hs:A.safe):bV P Γ o ev ob A:=by
 have hx:x∈o.op.operands.toList:=by simp[hop,Op.operands]
 simp only[act,aFa,hop] at hA;split at hA
 ·rename_i off hf;split at hA
  ·rename_i h; subst hA;exact bV.pure (nN hx λ L hL=>by rw[h];exact hL) λ ev' ob' he _=>by simp only[act,aFa,hop,he x hx,h,hf]
  ·rename_i h; subst hA;exact bV.pure (nN hx λ L hL=>by rw[h];exact hL) λ ev' ob' he _=>by simp only[act,aFa,hop,he x hx,h,hf]
  ·rename_i h; subst hA;exact bV.pure (nN hx λ L hL=>by rw[h];exact hL) λ ev' ob' he _=>by simp only[act,aFa,hop,he x hx,h,hf]
  ·subst hA;exact hs.elim
 ·subst hA;exact hs.elim

theorem LM {t:TypeId}{x y:Operand}(hop:o.op=.indexAddr t x y) (hA:act P Γ o ev ob=A) (hs:A.safe):bV P Γ o ev ob A:=by
 have hx:x∈o.op.operands.toList:=by simp[hop,Op.operands]
 have hy:y∈o.op.operands.toList:=by simp[hop,Op.operands]
 simp only[act,aIa,hop] at hA;split at hA
 ·rename_i e hu;split at hA
  ·rename_i n k j hn hj;split at hA
   ·rename_i len s get hex;split at hA
    ·rename_i hs'; subst hA;exact bV.pchk (gz _) λ ev' ob' he _=>by simp only[act,aIa,hop,he x hx,he y hy,hex,hu,hn,hj,hs',if_true]
    ·subst hA;exact hs.elim
   ·rename_i L hex;split at hA
    ·rename_i e' s b len get hL;split at hA
     ·rename_i hs'; subst hA;refine bV.pchk (λ M hM=>.inl (.inl ⟨x,hx,?_⟩)) λ ev' ob' he hob=>?_
      ·rw[hex];exact hM
      have e:=hob (L,false) (by simp);simp only at e;simp only[act,aIa,hop,he x hx,he y hy,hex,hu,hn,hj,e,hL,hs',if_true]
     ·subst hA;exact hs.elim
    ·rename_i s len get hL;split at hA
     ·rename_i hs'; subst hA;refine bV.pchk (gz _) λ ev' ob' he hob=>?_;have e:=hob (L,false) (by simp);simp only at e;simp only[act,aIa,hop,he x hx,he y hy,hex,hu,hn,hj,e,hL,hs',if_true]
     ·subst hA;exact hs.elim
    ·rename_i hL;split at hA
     ·rename_i hs'; subst hA;refine bV.pchk (λ M hM=>.inl (.inl ⟨x,hx,?_⟩)) λ ev' ob' he hob=>?_
      ·rw[hex];exact hM
      have e:=hob (L,false) (by simp);simp only at e;simp only[act,aIa,hop,he x hx,he y hy,hex,hu,hn,hj,e,hL,hs',if_true]
     ·subst hA;exact hs.elim
    ·rename_i hL;split at hA
     ·rename_i hs'; subst hA;refine bV.pchk (λ M hM=>.inl (.inl ⟨x,hx,?_⟩)) λ ev' ob' he hob=>?_
      ·rw[hex];exact hM
      have e:=hob (L,false) (by simp);simp only at e;simp only[act,aIa,hop,he x hx,he y hy,hex,hu,hn,hj,e,hL,hs',if_true]
     ·subst hA;exact hs.elim
    ·subst hA;exact hs.elim
   ·subst hA;exact hs.elim
  ·subst hA;exact hs.elim
 ·rename_i m e hu;have hc:∀ ev' ob',(∀ x∈o.op.operands.toList,ev' x=ev x)->act P Γ o ev' ob'=A:=λ ev' ob' he=>by
   simp only[act,aIa,hop,hu,he x hx,he y hy];exact hA
  unfold xU at hA;split at hA
  ·split at hA
   ·split at hA
    ·rename_i h;subst hA;exact bV.pure (nN hx λ L hL=>by simp[jF,o8,kC] at hL) λ ev' ob' he _=>hc ev' ob' he
    ·rename_i h;subst hA;exact bV.pure (gz _) λ ev' ob' he _=>hc ev' ob' he
    ·subst hA;exact hs.elim
   ·subst hA;exact hs.elim
  ·subst hA;exact hs.elim
 ·subst hA;exact hs.elim

theorem TK {x:Operand}{k:Nat}(hop:o.op=.extract x k) (hA:act P Γ o ev ob=A) (hs:A.safe):bV P Γ o ev ob A:=by
 have hx:x∈o.op.operands.toList:=by simp[hop,Op.operands]
 simp only[act,aEx,hop] at hA;split at hA
 ·rename_i ds h;split at hA
  ·rename_i d hd; subst hA;refine bV.pure (nN hx λ L hL=>?_) λ ev' ob' he _=>by simp only[act,aEx,hop,he x hx,h,hd]
   rw[h];exact jE.2 ⟨d,DW hd,hL⟩
  ·subst hA;exact hs.elim
 ·subst hA;exact hs.elim

theorem uJ {c:Callee}{args:Array Operand}{ts:Array TypeId}(hop:o.op=.call { callee:=c,args,argTypes:=ts }):∀ x∈args.toList,x∈o.op.operands.toList:=by
 intro x hx;simp only[hop,Op.operands];cases c <;> simp[Call.operands] <;> simp at hx <;> first | exact hx | exact .inr hx

theorem zlG {b:Builtin}{args:Array Operand}{ts:Array TypeId}(hb:b=.max\/b=.min) (hop:o.op=.call { callee:=.builtin b,args,argTypes:=ts }) (hA:act P Γ o ev ob=A) (hs:A.safe):bV P Γ o ev ob A:=by
 have hm:=uJ hop;have hmap:∀ ev':Operand->DV,(∀ x∈o.op.operands.toList,ev' x=ev x)->args.toList.map ev'=args.toList.map ev:=λ ev' he=>List.map_congr_left λ x hx=>he x (hm x hx);rcases hb with rfl | rfl <;> simp only[act,aMx,aMi,hop] at hA <;> split at hA
 ·rename_i h;subst hA;exact bV.pure (gz _) λ ev' ob' he _=>by simp only[act,aMx,aMi,hop,hmap ev' he,h]
 ·subst hA;exact hs.elim
 ·rename_i h;subst hA;exact bV.pure (gz _) λ ev' ob' he _=>by simp only[act,aMx,aMi,hop,hmap ev' he,h]
 ·subst hA;exact hs.elim

theorem znW {args:Array Operand}{ts:Array TypeId}(hop:o.op=.call { callee:=.builtin .len,args,argTypes:=ts }) (hA:act P Γ o ev ob=A) (hs:A.safe):bV P Γ o ev ob A:=by
 have hm:=uJ hop;simp only[act,aLn,hop] at hA;split at hA
 ·rename_i x t hargs ht;have hx:x∈o.op.operands.toList:=hm x (by rw[hargs];simp);split at hA
  ·rename_i e hu;split at hA
   ·rename_i h;subst hA;exact bV.pure (gz _) λ ev' ob' he _=>by simp only[act,aLn,hop,hargs,ht,hu,he x hx,h]
   ·rename_i h;subst hA;exact bV.pure (gz _) λ ev' ob' he _=>by simp only[act,aLn,hop,hargs,ht,hu,he x hx,h]
   ·rename_i L h;split at hA
    ·rename_i hL; subst hA;refine bV.pure (gz _) λ ev' ob' he hob=>?_;have e:=hob (L,false) (by simp);simp only at e;simp only[act,aLn,hop,hargs,ht,hu,he x hx,h,e,hL]
    ·rename_i hL; subst hA;refine bV.pure (gz _) λ ev' ob' he hob=>?_;have e:=hob (L,false) (by simp);simp only at e;simp only[act,aLn,hop,hargs,ht,hu,he x hx,h,e,hL]
    ·rename_i hL; subst hA;refine bV.pure (gz _) λ ev' ob' he hob=>?_;have e:=hob (L,false) (by simp);simp only at e;simp only[act,aLn,hop,hargs,ht,hu,he x hx,h,e,hL]
    ·subst hA;exact hs.elim
   ·subst hA;exact hs.elim
  ·rename_i kt vt hu;split at hA
   ·rename_i L h;split at hA
    ·rename_i hL; subst hA;refine bV.pure (gz _) λ ev' ob' he hob=>?_;have e:=hob (L,false) (by simp);simp only at e;simp only[act,aLn,hop,hargs,ht,hu,he x hx,h,e,hL]
    ·subst hA;exact hs.elim
   ·subst hA;exact hs.elim
  ·subst hA;exact hs.elim
 ·subst hA;exact hs.elim

theorem LP {d : DV} {ob' : Nat → Option AO} {m sz : Nat} {new : Nat → List PV} {Yd : List (Nat × Bool)} (h : zV d ob = some (m, sz, new, Yd)) (hob : ∀ y ∈ Yd, ob' y.1 = ob y.1) :
  zV d ob'=some (m,sz,new,Yd):=by
 unfold zV at h ⊢;split at h
 ·exact h
 ·rename_i M;split at h
  ·rename_i hM;have h':=h;simp only[bJ,eF] at h;have e:=hob (M,false) (by rw[<- h.2.2.2];simp);simp only at e;rw[e,hM];exact h'
  ·rename_i hM;have h':=h;simp only[bJ,eF] at h;have e:=hob (M,false) (by rw[<- h.2.2.2];simp);simp only at e;rw[e,hM];exact h'
  ·cases h
 ·cases h

theorem YL {args:Array Operand}{ts:Array TypeId}(hop:o.op=.call { callee:=.builtin .append,args,argTypes:=ts }) (hA:act P Γ o ev ob=A) (hs:A.safe):bV P Γ o ev ob A:=by
 have hm:=uJ hop;have hA0:=hA;simp only[act,aAp,hop] at hA;split at hA
 ·rename_i s x t t' hargs ht;have hsm:s∈o.op.operands.toList:=hm s (by rw[hargs];simp);have hx:x∈o.op.operands.toList:=hm x (by rw[hargs];simp);split at hA
  ·rename_i e dst hu htt hd;split at hA
   ·rename_i ie z hie hz;have hcut:∀ (ev':Operand->DV) (ob':Nat->Option AO),act P Γ o ev' ob'=KT e ie dst (ev' x) (ev' s) ob':=λ ev' ob'=>by
     simp only[act,aAp,hop,hargs,ht,hu,htt,hd,hie,hz]
    unfold KT at hA hcut;split at hA
    ·rename_i m sz new Yd hsrc
     -- the source looks only at what Yd names
     have src':∀ (ev':Operand->DV) (ob':Nat->Option AO),(∀ x∈o.op.operands.toList,ev' x=ev x)->(∀ y∈Yd,ob' y.1=ob y.1) ->
       zV (ev' x) ob'=some (m,sz,new,Yd):=by
      intro ev' ob' he hob;rw[he x hx];exact LP hsrc hob
     split at hA
     ·rename_i L hes;split at hA
      ·rename_i e' s' b' n' get' hL;split at hA
       ·rename_i hif;subst hA;refine⟨λ z hz=>?_,.inr ⟨L,rfl,by simp[aH.fp]⟩,λ z hz M hM=>?_,λ d' hd' M hM=>?_,λ ev' ob' he hob=>?_⟩
        ·simp only[aH.u,jM] at hz;subst hz;simp[aH.fp]
        ·simp only[aH.u,jM] at hz;subst hz;simp[lU] at hM
        ·simp only [aH.gives] at hd'; subst hd';simp only[jF,o8,kC,jM] at hM;subst hM;exact .inr (by simp[aH.fp])
        ·have e1 := src' ev' ob' he (fun y hy => hob y (je _ hy));have e2:=hob (L,true) (by simp[aH.fp]);simp only at e2;rw[hcut,e1];simp only[he s hsm,he x hx,hes,e2,hL];rw[if_pos hif]
       ·subst hA;exact hs.elim
      ·subst hA;exact hs.elim
     ·rename_i hes;split at hA
      ·rename_i hn;split at hA
       ·rename_i hif;subst hA;refine⟨λ z hz=>?_,.inl rfl,λ z hz M hM=>?_,λ d' hd' M hM=>?_,λ ev' ob' he hob=>?_⟩
        ·simp only[aH.u,jM] at hz;subst hz;simp[aH.fp]
        ·simp only[aH.u,jM] at hz;subst hz;simp[lU] at hM
        ·simp only [aH.gives] at hd'; subst hd';simp only[jF,o8,kC,jM] at hM;subst hM;exact .inr (by simp[aH.fp])
        ·have e1 := src' ev' ob' he (fun y hy => hob y (je _ hy));have e2:=hob (dst,true) (by simp[aH.fp]);simp only at e2;rw[hcut,e1];simp only[he s hsm,hes,e2,hn];rw[if_pos hif]
       ·subst hA;exact hs.elim
      ·subst hA;exact hs.elim
     ·subst hA;exact hs.elim
    ·subst hA;exact hs.elim
   ·subst hA;exact hs.elim
  ·subst hA;exact hs.elim
 ·subst hA;exact hs.elim

theorem zlH (x:PA):o8 (Dc x)=[]:=by
 cases x with
 | one p=>rfl
 | agg cs=>exact PP cs
theorem TL (rs:List PA):jF (resD rs)=[]:=by
 have tup:∀ l:List PA,jF (.tup (l.map Dc))=[]:=by
  intro l
  induction l with
  | nil=>rfl
  | cons x l ih=>simp only[nG,jF,lJ,zlH,List.nil_append] at ih ⊢;exact ih
 match rs with
 | []=>exact tup _
 | [x]=>exact zlH x
 | x :: y :: l=>exact tup _

theorem znX {k : zS} {args : Array Operand} {c : Callee} {ts : Array TypeId} (hop : o.op = .call { callee := c, args, argTypes := ts })
    (hc:∀ ev' ob',(∀ x∈o.op.operands.toList,ev' x=ev x)->act P Γ o ev' ob'=iU P Γ o k (args.toList.map ev') ob') (hA:iU P Γ o k (args.toList.map ev) ob=A) (hs:A.safe):bV P Γ o ev ob A:=by
  have hm:=uJ hop;have hmap:∀ ev':Operand->DV,(∀ x∈o.op.operands.toList,ev' x=ev x)->args.toList.map ev'=args.toList.map ev:=λ ev' he=>List.map_congr_left λ x hx=>he x (hm x hx);unfold iU at hA;split at hA
  · subst hA;exact hs.elim
  · split at hA
    · rename_i L hf caps hargs;split at hA
      · rename_i hL hag;split at hA
        · rename_i hif;subst hA;refine⟨λ z hz=>?_,.inl rfl,λ z hz M hM=>?_,λ d' hd' M hM=>?_,λ ev' ob' he hob=>?_⟩
          · simp only[aH.u,jM] at hz;subst hz;simp[aH.fp]
          · simp only[aH.u,jM] at hz;subst hz;simp[lU] at hM
          · simp only[aH.gives] at hd';subst hd';simp[jF] at hM
          · have e2 := hob (L, true) (by simp [aH.fp]); simp only at e2;rw[hc ev' ob' he,hmap ev' he];simp only[iU,hargs,e2,hL,hag];rw[if_pos hif]
        · subst hA;exact hs.elim
      · subst hA;exact hs.elim
    · subst hA;exact hs.elim
  · split at hA
    · rename_i dst hargs hd;split at hA
      · rename_i hn hi hz;split at hA
        · rename_i hif;subst hA;refine⟨λ z hz=>?_,.inl rfl,λ z hz M hM=>?_,λ d' hd' M hM=>?_,λ ev' ob' he hob=>?_⟩
          · simp only[aH.u,jM] at hz;subst hz;simp[aH.fp]
          · simp only[aH.u,jM] at hz;subst hz;simp[lU] at hM
          · simp only [aH.gives] at hd'; subst hd';simp only[jF,o8,kC,jM] at hM;subst hM;exact .inr (by simp[aH.fp])
          · have e2 := hob (dst, true) (by simp [aH.fp]); simp only at e2;rw[hc ev' ob' he,hmap ev' he];simp only[iU,hargs,hd,e2,hn,hi,hz];rw[if_pos hif]
        · subst hA;exact hs.elim
      · subst hA;exact hs.elim
    · subst hA;exact hs.elim
  · split at hA
    · rename_i az u dst has hd;split at hA
      · rename_i n get rs ie z hF hfresh hi hz;split at hA
        · rename_i hif;subst hA;refine⟨λ z hz=>?_,.inl rfl,λ z hz M hM=>?_,λ d' hd' M hM=>?_,λ ev' ob' he hob=>?_⟩
          · simp only[aH.u,jM] at hz;subst hz;simp[aH.fp]
          · simp only[aH.u,jM] at hz;subst hz;simp[lU] at hM
          · simp only [aH.gives] at hd'; subst hd';cases rs with
            | nil =>
              simp only[jF,o8,kC,jM] at hM;subst hM;exact .inr (by simp[aH.fp])
            | cons x l =>
              have hM2:M=dst:=by
                simp only[jF,lJ,dL,o8,kC,jM,jE,vC] at hM;rcases hM with hM | ⟨d1,⟨v,_,rfl⟩,hM⟩
                · exact hM
                · simp[o8,kC] at hM
              subst hM2;exact .inr (by simp[aH.fp])
          · have hl : ∀ L ∈ (args.toList.map ev).flatMap (bF ob), ob' L = ob L := fun L hL => hob (L, false) (je _ (vC.2 ⟨L, hL, rfl⟩));have e2:=hob (dst,true) (by simp[aH.fp]);simp only at e2;have e3:fQ ob' (args.toList.map ev)=some (az,u):=(jI hl).trans has;have e4:(args.toList.map ev).flatMap (bF ob')=(args.toList.map ev).flatMap (bF ob):=WA λ d hd=>gW λ L hL=>hl L (jE.2 ⟨d,hd,hL⟩);rw[hc ev' ob' he,hmap ev' he];simp only[iU,hd,e2,hF,hfresh,hi,hz,e3,e4];rw[if_pos hif]
        · subst hA;exact hs.elim
      · subst hA;exact hs.elim
    · subst hA;exact hs.elim
  · split at hA
    · rename_i ds L hlast;split at hA
      · rename_i az e' s' b' n get has hL;split at hA
        · rename_i m get' hF;split at hA
          · rename_i hif;subst hA;refine⟨λ z hz=>?_,.inr ⟨L,rfl,by simp[aH.fp]⟩,λ z hz M hM=>?_,λ d' hd' M hM=>?_,λ ev' ob' he hob=>?_⟩
            · simp only[aH.u,jM] at hz;subst hz;simp[aH.fp]
            · simp only[aH.u,jM] at hz;subst hz;simp[lU] at hM
            · simp only [aH.gives] at hd'; subst hd';simp only[jF,o8,kC,jM] at hM;subst hM;exact .inr (by simp[aH.fp])
            · have hl : ∀ M ∈ ds.flatMap (bF ob), ob' M = ob M := fun M hM => hob (M, false) (je _ (vC.2 ⟨M, hM, rfl⟩));have e2:=hob (L,true) (by simp[aH.fp]);simp only at e2;have e3:fQ ob' ds=some (az,[]):=(jI hl).trans has;have e4:ds.flatMap (bF ob')=ds.flatMap (bF ob):=WA λ d hd=>gW λ L hL=>hl L (jE.2 ⟨d,hd,hL⟩);rw[hc ev' ob' he,hmap ev' he];simp only[iU,hlast,e3,e2,hL,hF,e4];rw[if_pos hif]
          · subst hA;exact hs.elim
        · subst hA;exact hs.elim
      · subst hA;exact hs.elim
    · rename_i ds hlast;split at hA
      · rename_i az dst has hd;split at hA
        · rename_i ie z hfresh hi hz;split at hA
          · rename_i l hzl;split at hA
            · rename_i m get' hF;split at hA
              · rename_i hif;subst hA;refine⟨λ z hz=>?_,.inl rfl,λ z hz M hM=>?_,λ d' hd' M hM=>?_,λ ev' ob' he hob=>?_⟩
                · simp only[aH.u,jM] at hz;subst hz;simp[aH.fp]
                · simp only[aH.u,jM] at hz;subst hz;simp[lU] at hM
                · simp only [aH.gives] at hd'; subst hd';simp only[jF,o8,kC,jM] at hM;subst hM;exact .inr (by simp[aH.fp])
                · have hl : ∀ M ∈ ds.flatMap (bF ob), ob' M = ob M := fun M hM => hob (M, false) (je _ (vC.2 ⟨M, hM, rfl⟩));have e2:=hob (dst,true) (by simp[aH.fp]);simp only at e2;have e3:fQ ob' ds=some (az,[]):=(jI hl).trans has;have e4:ds.flatMap (bF ob')=ds.flatMap (bF ob):=WA λ d hd=>gW λ L hL=>hl L (jE.2 ⟨d,hd,hL⟩);rw[hc ev' ob' he,hmap ev' he];simp only[iU,hlast,e3,hd,e2,hfresh,hi,hz,hzl,hF,e4];rw[if_pos hif]
              · subst hA;exact hs.elim
            · subst hA;exact hs.elim
          · subst hA;exact hs.elim
        · subst hA;exact hs.elim
      · subst hA;exact hs.elim
    · subst hA;exact hs.elim

theorem yG {sf:jv}{ob:Nat->Option AO} : ∀ {cells l:List Cl}{ys cs:List XC}{u:List (Nat×AO)}{ms:List Nat},fH cells ys=some (l,u)->gp sf ob cells=some (cs,ms) ->
  u.map (·.1)=ms/\(∀ x∈u,lU x.2=[])/\∀ L∈l.flatMap kC,L∈cells.flatMap kC
 | [],l,[],cs,u,ms,h,h2=>by
  simp only[fH,bJ,eF] at h;obtain⟨rfl,rfl⟩:=h;simp only[gp,bJ,eF] at h2;rw[<- h2.2];exact⟨rfl,λ x hx=>by simp at hx,λ L hL=>hL⟩
 | [],l,_ :: _,cs,u,ms,h,h2=>by simp[fH] at h
 | c :: cells,l,[],cs,u,ms,h,h2=>by simp[fH] at h
 | c :: cells,l,y :: ys,cs,u,ms,h,h2=>by
  unfold fH at h;split at h
  ·rename_i e;simp at e
  ·rename_i e1 e2;simp only[Bq] at e1 e2;obtain⟨rfl,rfl⟩:=e1;obtain⟨rfl,rfl⟩:=e2;split at h
   ·rename_i hp;simp only[bJ,eF] at h;obtain⟨rfl,rfl⟩:=h;simp only[gp] at h2;split at h2
    ·rename_i hc;simp only[bJ,eF] at h2;rw[<- h2.2];obtain⟨i1,i2,i3⟩:=yG hp hc;exact⟨i1,i2,λ L hL=>by simp only[lJ,kC,List.nil_append] at hL ⊢;exact i3 L hL⟩
    ·cases h2
   ·cases h
  ·rename_i e1 e2;simp only[Bq] at e1 e2;obtain⟨rfl,rfl⟩:=e1;obtain⟨rfl,rfl⟩:=e2;split at h
   ·rename_i hp;simp only[bJ,eF] at h;obtain⟨rfl,rfl⟩:=h;simp only[gp] at h2;split at h2
    ·rename_i hc;split at h2
     ·simp only [bJ, eF] at h2; rw [← h2.2];obtain⟨i1,i2,i3⟩:=yG hp hc;refine⟨by simp[i1],λ x hx=>?_,λ L hL=>?_⟩
      ·rcases jf.1 hx with e | hx
       ·subst e;rfl
       ·exact i2 x hx
      ·simp only [lJ, dL] at hL ⊢;exact hL.imp_right (i3 L)
     ·cases h2
    ·cases h2
   ·cases h
  ·rename_i e1 e2;simp only[Bq] at e1 e2;obtain⟨rfl,rfl⟩:=e1;obtain⟨rfl,rfl⟩:=e2;split at h
   ·rename_i hp;simp only[bJ,eF] at h;obtain⟨rfl,rfl⟩:=h;simp only[gp] at h2;split at h2
    ·rename_i hc;split at h2
     ·simp only [bJ, eF] at h2; rw [← h2.2];obtain⟨i1,i2,i3⟩:=yG hp hc;refine⟨by simp[i1],λ x hx=>?_,λ L hL=>?_⟩
      ·rcases jf.1 hx with e | hx
       ·subst e;rfl
       ·exact i2 x hx
      ·simp only [lJ, dL] at hL ⊢;exact hL.imp_right (i3 L)
     ·cases h2
    ·cases h2
   ·cases h
  ·rename_i e1 e2;simp only[Bq] at e1 e2;obtain⟨rfl,rfl⟩:=e1;obtain⟨rfl,rfl⟩:=e2;split at h
   ·rename_i hp;simp only[bJ,eF] at h;obtain⟨rfl,rfl⟩:=h;simp only[gp] at h2;split at h2
    ·rename_i hc;split at h2
     ·simp only [bJ, eF] at h2; rw [← h2.2];obtain⟨i1,i2,i3⟩:=yG hp hc;exact⟨i1,i2,λ L hL=>by simp only[lJ,dL] at hL ⊢;exact hL.imp_right (i3 L)⟩
     ·cases h2
    ·cases h2
   ·cases h
  ·cases h
theorem znY {sf : jv} {ob : Nat → Option AO} {d : DV} {x y : XA} {u : List (Nat × AO)} {ls ms : List Nat} (h : CO ob d y = some u) (h2 : wz sf ob d = some (x, ls, ms)) :
  u.map (·.1)=ls/\∀ x∈u,∀ L∈lU x.2,∃ o',ob x.1=some o'/\L∈lU o':=by
 have data:oI ob d=some (x,ls,ms)->ls=[]:=by
  intro h;unfold oI at h;split at h
  ·simp only[bJ,eF] at h;exact h.2.1.symm
  ·cases h
 unfold CO at h;split at h
 ·rename_i L;split at h
  ·rename_i ty' cells hL;rw[lQ,hL] at h2;dsimp only at h2;split at h2
   ·rename_i cs ms' hc;simp only[bJ,eF] at h2;obtain⟨rfl,rfl,rfl⟩:=h2;split at h
    ·split at h
     ·rename_i l u' hty hp;simp only[bJ] at h;subst h;obtain⟨i1,i2,i3⟩:=yG hp hc;refine⟨by simp[i1],λ x hx K hK=>?_⟩;rcases jf.1 hx with e | hx
      ·subst e;exact⟨_,hL,i3 K hK⟩
      ·rw[i2 x hx] at hK;simp at hK
     ·cases h
    ·cases h
   ·cases h2
  ·rename_i hno;have hx:oI ob (.one (.c (.ptr L 0)))=some (x,ls,ms):=by
    rw[lQ] at h2;cases hL:ob L with
    | none=>rw[hL] at h2;exact h2
    | some o =>
     rw[hL] at h2;cases o with
     | box ty cells=>exact absurd hL (hno _ _)
     | _=>exact h2
   rw[data hx];split at h
   ·simp only[bJ] at h;subst h;exact⟨rfl,λ x hx=>by simp at hx⟩
   ·cases h
 ·rename_i hno;have hx:oI ob d=some (x,ls,ms):=by
   unfold wz at h2;split at h2
   ·exact (hno _ rfl).elim
   ·exact h2
  rw[data hx];split at h
  ·simp only[bJ] at h;subst h;exact⟨rfl,λ x hx=>by simp at hx⟩
  ·cases h
theorem WE {sf:jv}{ob:Nat->Option AO} : ∀ {ds:List DV}{xs ys:List XA}{u:List (Nat×AO)}{ls ms:List Nat},iI ob ds ys=some u->jg sf ob ds=some (xs,ls,ms) ->
  u.map (·.1)=ls/\∀ x∈u,∀ L∈lU x.2,∃ o',ob x.1=some o'/\L∈lU o'
 | [],xs,[],u,ls,ms,h,h2=>by
  simp only[iI,bJ] at h;subst h;simp only[jg,bJ,eF] at h2;rw[<- h2.2.1];exact⟨rfl,λ x hx=>by simp at hx⟩
 | [],_,_ :: _,_,_,_,h,_=>by simp[iI] at h
 | _ :: _,_,[],_,_,_,h,_=>by simp[iI] at h
 | d :: ds,xs,y :: ys,u,ls,ms,h,h2=>by
  simp only[iI] at h;split at h
  ·rename_i u1 u2 e1 e2;simp only[bJ] at h;subst h;simp only[jg] at h2;split at h2
   ·rename_i x bl m1 xs' bls m2 h3 h4;simp only[bJ,eF] at h2;rw[<- h2.2.1];obtain⟨i1,i2⟩:=WE e2 h4;obtain⟨j1,j2⟩:=znY e1 h3;exact⟨by simp[i1,j1],λ x hx=>(dL.1 hx).elim (j2 x) (i2 x)⟩
   ·cases h2
  ·cases h
theorem BP {sf : jv} {ob ob' : Nat → Option AO} : ∀ {cells : List Cl}, (∀ L ∈ cells.flatMap bi, ob' L = ob L) → gp sf ob' cells = gp sf ob cells
  | [],_=>rfl
  | c :: cells,h=>by
    have ih:gp sf ob' cells=gp sf ob cells:=BP λ L hL=>h L (by simp only[lJ,dL];exact .inr hL);cases c with
    | vec M=>simp only[gp,ih,h M (by simp[bi])]
    | mo M=>simp only[gp,ih,h M (by simp[bi])]
    | _=>simp only[gp,ih]
theorem YM {sf:jv}{ob ob':Nat->Option AO}{d:DV}(h:∀ L∈bF ob d,ob' L=ob L):wz sf ob' d=wz sf ob d/\∀ y,CO ob' d y=CO ob d y:=by
 have hx:oI ob' d=oI ob d:=by simp only[oI,Fh h]
 by_cases hd:∃ L,d=.one (.c (.ptr L 0))
 ·obtain ⟨L, rfl⟩ := hd;have hL:ob' L=ob L:=h L (jV.2 ⟨L,by simp[bY,cZ,bi],.inl rfl⟩);refine⟨?_,λ y=>by simp only[CO,hL]⟩;rw[lQ,lQ,hL,hx];cases ho:ob L with
  | none=>rfl
  | some o =>
   cases o with
   | box ty cells =>
    have:gp sf ob' cells=gp sf ob cells:=BP λ M hM=>h M (jV.2 ⟨L,by simp[bY,cZ,bi],.inr ⟨_,ho,M,hM,.inl rfl⟩⟩);simp only[this]
   | _=>rfl
 ·refine ⟨?_, fun y => ?_⟩
  ·unfold wz;split
   ·exact (hd ⟨_,rfl⟩).elim
   ·exact hx
  ·unfold CO;split
   ·exact (hd ⟨_,rfl⟩).elim
   ·rfl
theorem Fv {sf : jv} {ob ob' : Nat → Option AO} : ∀ {ds : List DV}, (∀ L ∈ ds.flatMap (bF ob), ob' L = ob L) → jg sf ob' ds = jg sf ob ds ∧ ∀ ys, iI ob' ds ys = iI ob ds ys
  | [],_=>⟨rfl,λ ys=>by cases ys <;> rfl⟩
  | d :: ds,h=>by
    obtain⟨i1,i2⟩:=Fv (sf:=sf) (ds:=ds) (ob':=ob') λ L hL=>h L (by simp only[lJ,dL];exact .inr hL);obtain⟨j1,j2⟩:=YM (sf:=sf) (ob':=ob') (d:=d) λ L hL=>h L (by simp only[lJ,dL];exact .inl hL);refine⟨by simp only[jg,i1,j1],λ ys=>?_⟩;cases ys with
    | nil=>rfl
    | cons y ys=>simp only[iI,i2,j2]
theorem zct {sf:jv}{C:MK}{ds:List DV}(hk:∀ ev' ob',(∀ x∈o.op.operands.toList,ev' x=ev x)->act P Γ o ev' ob'=pg C sf ds ob') (hA:pg C sf ds ob=A) (hs:A.safe):bV P Γ o ev ob A:=by
 unfold pg at hA;split at hA
 ·rename_i xs ls ms has;split at hA
  ·rename_i s rs ys hCx;split at hA
   ·rename_i u hput;split at hA
    ·rename_i hcond;subst hA;have znZ:=hcond;simp only[fE,Nat.ble_eq] at hcond;obtain⟨h1,h2⟩:=WE hput has;have hw:∀ L∈(u.filter λ x=>!jG x.2).map (·.1),(L,true)∈wr ((u.filter λ x=>!jG x.2).map (·.1)) ++ rd (ds.flatMap (bF ob)):=λ L hL=>dL.2 (.inl (Fq hL));have hul:∀ x∈u.filter λ x=>!jG x.2,x.1∈(u.filter λ x=>!jG x.2).map (·.1):=λ x hx=>vC.2 ⟨x,hx,rfl⟩;refine⟨λ x hx=>hw _ (hul x hx),?_,λ x hx L hL=>?_,λ d hd L hL=>(by simp only[aH.gives] at hd;subst hd;rw[TL] at hL;simp at hL),λ ev' ob' he hob=>?_⟩
     ·match ms,hcond.1.2,hcond.2 with
      | [],_,_=>exact .inl rfl
      | [x],_,hc=>exact .inr ⟨x,rfl,hw x (by simpa using hc)⟩
      | _ :: _ :: _,h,_=>simp at h
     ·obtain ⟨o', ho, hL⟩ := h2 x (List.mem_filter.1 hx).1 L hL;exact .inr ⟨(x.1,true),hw _ (hul x hx),o',ho,hL⟩
     ·have hl : ∀ L ∈ ds.flatMap (bF ob), ob' L = ob L := fun L hL => hob (L, false) (dL.2 (.inr (vC.2 ⟨L, hL, rfl⟩)));have e1:=Fv (sf:=sf) hl;have e2:ds.flatMap (bF ob')=ds.flatMap (bF ob):=WA λ d hd=>gW λ L hL=>hl L (jE.2 ⟨d,hd,hL⟩);rw[hk ev' ob' he];simp only[pg,e1.1,has,hCx,e1.2,hput,znZ,e2]
    ·subst hA;exact hs.elim
   ·subst hA;exact hs.elim
  ·subst hA;exact hs.elim
 ·subst hA;exact hs.elim
theorem BQ {ev' : Operand → DV} : ∀ {l : List Operand}, (∀ x ∈ l, ev' x = ev x) → xY ev' l = xY ev l
  | [],_=>rfl
  | x :: l,h=>by simp only[xY,h x kR,BQ λ y hy=>h y (je _ hy)]

theorem WF {rs : List PA} {args : Array Operand} {c : Callee} {ts : Array TypeId} {az : List PA} {u : jT} (hop : o.op = .call { callee := c, args, argTypes := ts })
    (has:fQ ob (args.toList.map ev)=some (az,u))
    (key:∀ (ev':Operand->DV) (ob':Nat->Option AO),(∀ x∈o.op.operands.toList,ev' x=ev x)->(∀ L∈args.toList.flatMap λ x=>bF ob (ev x),ob' L=ob L) ->
      act P Γ o ev' ob'=jm (args.toList.flatMap λ x=>bF ob (ev x)) u rs) (hA:jm (args.toList.flatMap λ x=>bF ob (ev x)) u rs=A):bV P Γ o ev ob A:=by
  have hwrT:∀ L,L∈(args.toList.flatMap λ x=>bF ob (ev x))->(L,true)∈wr (args.toList.flatMap λ x=>bF ob (ev x)):=λ L hL=>vC.2 ⟨L,hL,rfl⟩;have zwr:∀ L,L∈(args.toList.flatMap λ x=>bF ob (ev x))->(L,false)∈rd (args.toList.flatMap λ x=>bF ob (ev x)):=λ L hL=>vC.2 ⟨L,hL,rfl⟩;have hk:∀ x∈u,(x.1,true)∈wr (args.toList.flatMap λ x=>bF ob (ev x))/\lU x.2=[]:=λ x hx=>by
    obtain⟨h1,h2⟩:=xw has x hx;refine⟨hwrT _ ?_,h2⟩;rw[List.flatMap_map] at h1;exact h1
  generalize (args.toList.flatMap λ x=>bF ob (ev x))=gK at hA key hk hwrT zwr;cases hl:Ov rs || Ox u rs with
  | true =>
    simp only[jm,hl] at hA key;subst hA;exact⟨λ x hx=>by simp[aH.u] at hx,.inl rfl,λ x hx=>by simp[aH.u] at hx,λ d hd L hL=>(by cases hd;rw[TL] at hL;simp at hL),λ ev' ob' he hob=>key ev' ob' he λ L hL=>hob _ (zwr L hL)⟩
  | false =>
    simp only[jm,hl] at hA key;subst hA;exact⟨λ x hx=>(hk x hx).1,.inl rfl,λ x hx L hL=>(by rw[(hk x hx).2] at hL;simp at hL),λ d hd L hL=>(by cases hd;rw[TL] at hL;simp at hL),λ ev' ob' he hob=>key ev' ob' he λ L hL=>hob _ (hwrT L hL)⟩
theorem zhg {f:Operand}{args:Array Operand}{ts:Array TypeId}(hop:o.op=.call { callee:=.value f,args,argTypes:=ts }) (hA:act P Γ o ev ob=A) (hs:A.safe):bV P Γ o ev ob A:=by
 have hm:=uJ hop;have hf:f∈o.op.operands.toList:=by simp[hop,Op.operands,Call.operands]
 simp only[act,aCl,hop] at hA;have e0:∀ ev':Operand->DV,(∀ x∈o.op.operands.toList,ev' x=ev x)->args.toList.map ev'=args.toList.map ev:=λ ev' he=>List.map_congr_left λ x hx=>he x (hm x hx);split at hA
 ·rename_i gf caps hef;split at hA
  ·rename_i C hC;exact zct (λ ev' ob' he=>by simp only[act,aCl,hop,he f hf,hef,hC,e0 ev' he]) hA hs
  ·subst hA;exact hs.elim
 ·rename_i gf first caps hef
  split at hA
  ·rename_i C hC;exact zct (λ ev' ob' he=>by simp only[act,aCl,hop,he f hf,hef,hC,e0 ev' he]) hA hs
  rename_i hC;split at hA
  ·rename_i hk;split at hA
   ·exact znX (k:=Γ.own gf) hop (λ ev' ob' he=>by simp only[act,aCl,hop,he f hf,hef,hC,hk]) hA hs
   ·subst hA;exact hs.elim
  rename_i hko;split at hA
  ·rename_i az u has;split at hA
   case h_2=>subst hA;exact hs.elim
   rename_i rs hrs
   have key:∀ (ev':Operand->DV) (ob':Nat->Option AO),(∀ x∈o.op.operands.toList,ev' x=ev x)->(∀ L∈args.toList.flatMap λ x=>bF ob (ev x),ob' L=ob L) ->
     act P Γ o ev' ob'=jm (args.toList.flatMap λ x=>bF ob (ev x)) u rs:=by
    intro ev' ob' he hl;have e0:args.toList.map ev'=args.toList.map ev:=List.map_congr_left λ x hx=>he x (hm x hx);have e1:fQ ob' (args.toList.map ev)=fQ ob (args.toList.map ev):=jI λ L hL=>hl L (by rw[List.flatMap_map] at hL;exact hL);have e2:(args.toList.flatMap λ x=>bF ob' (ev' x))=args.toList.flatMap λ x=>bF ob (ev x):=by
     refine WA λ x hx=>?_;rw[he x (hm x hx)];exact gW λ L hL=>hl L (jE.2 ⟨x,hx,hL⟩)
    simp only[act,aCl,hop,he f hf,hef,hC,hko,e0,e1,has,e2,hrs]
   exact WF hop has key hA
  ·subst hA;exact hs.elim
 ·rename_i gf cells hef;split at hA
  ·rename_i az u has;split at hA
   case h_2=>subst hA;exact hs.elim
   rename_i rs hrs
   have key:∀ (ev':Operand->DV) (ob':Nat->Option AO),(∀ x∈o.op.operands.toList,ev' x=ev x)->(∀ L∈args.toList.flatMap λ x=>bF ob (ev x),ob' L=ob L) ->
     act P Γ o ev' ob'=jm (args.toList.flatMap λ x=>bF ob (ev x)) u rs:=by
    intro ev' ob' he hl;have e0:args.toList.map ev'=args.toList.map ev:=List.map_congr_left λ x hx=>he x (hm x hx);have e1:fQ ob' (args.toList.map ev)=fQ ob (args.toList.map ev):=jI λ L hL=>hl L (by rw[List.flatMap_map] at hL;exact hL);have e2:(args.toList.flatMap λ x=>bF ob' (ev' x))=args.toList.flatMap λ x=>bF ob (ev x):=by
     refine WA λ x hx=>?_;rw[he x (hm x hx)];exact gW λ L hL=>hl L (jE.2 ⟨x,hx,hL⟩)
    simp only[act,aCl,hop,he f hf,hef,e0,e1,has,e2,hrs]
   exact WF hop has key hA
  ·subst hA;exact hs.elim
 ·subst hA;exact hs.elim

theorem PS {f:FuncId}{first caps:Array Operand}(hop:o.op=.makeFunc (.func f) first caps) (hA:act P Γ o ev ob=A) (hs:A.safe):bV P Γ o ev ob A:=by
 have hm:∀ x∈first.toList ++ caps.toList,x∈o.op.operands.toList:=λ x hx=>by simp only[hop,Op.operands];simpa using hx
 simp only[act,aMf,hop] at hA;split at hA
 ·rename_i hmt;split at hA
  ·rename_i cs hf hc;subst hA;refine bV.pure (λ L hL=>by simp[jF,o8,kC] at hL) λ ev' ob' he _=>?_;have e1:xY ev' caps.toList=some cs:=(BQ λ x hx=>he x (hm x (dL.2 (.inr hx)))).trans hc;simp only[act,aMf,hop,hmt,hf,e1]
  ·subst hA;exact hs.elim
 rename_i hmt;have hbc:∀ ev':Operand->DV,(∀ x∈o.op.operands.toList,ev' x=ev x)->Js ev' first.toList caps.toList=Js ev first.toList caps.toList:=λ ev' he=>by
  unfold Js;cases hf:first.toList with
  | nil=>rfl
  | cons x r =>
   cases r with
   | cons y r=>rfl
   | nil =>
    cases hc:caps.toList with
    | cons y r=>rfl
    | nil=>simp only[];rw[he x (hm x (by rw[hf];simp))]
 split at hA
 ·rename_i l hb;subst hA;exact bV.pure (gz _) λ ev' ob' he _=>by simp only[act,aMf,hop,hmt,hbc ev' he,hb]
 rename_i hbn;split at hA
 ·rename_i l u l' u' h1 h2;subst hA;have zwt:∀ (x:Operand) (c:Cl),ev x=.one (.c c)->∀ k,RC ob k (bi c)->k∈bF ob (ev x):=λ x c h k hk=>by
   rw[h];exact jV.2 hk
  have clm:∀ (xs:List Operand),∀ L∈(xs.flatMap λ x=>match ev x with | .one (.c c)=>[c] | _=>[.junk]).flatMap bi,∃ x∈xs,∃ c,ev x=.one (.c c)/\L∈bi c:=by
   intro xs L hL;obtain⟨c,hc,hL⟩:=jE.1 hL;obtain⟨x,hx,hc⟩:=jE.1 hc;refine⟨x,hx,?_⟩;split at hc
   ·rename_i c' h;simp at hc;subst hc;exact⟨_,h,hL⟩
   ·simp at hc;subst hc;simp[bi] at hL
  have keys:∀ (xs:List Operand) (l:List PV) (u:jT),o7 ob (xs.flatMap λ x=>match ev x with | .one (.c c)=>[c] | _=>[.junk])=some (l,u) ->
    ∀ x∈u,x.1∈xs.flatMap (λ x=>bF ob (ev x))/\lU x.2=[]:=by
   intro xs l u h y hy;obtain⟨h3,h4⟩:=vI h y hy;refine⟨?_,h4⟩;obtain⟨L,hL,h3⟩:=h3;obtain⟨x,hx,c,hc,hL⟩:=clm xs _ hL;exact jE.2 ⟨x,hx,zwt x c hc _ ⟨L,hL,h3⟩⟩
  have zwu:∀ (xs:List Operand) (ev':Operand->DV) (ob':Nat->Option AO),(∀ x∈xs,ev' x=ev x)->(∀ L∈xs.flatMap (λ x=>bF ob (ev x)),ob' L=ob L) ->
    o7 ob' (xs.flatMap λ x=>match ev' x with | .one (.c c)=>[c] | _=>[.junk])=o7 ob (xs.flatMap λ x=>match ev x with | .one (.c c)=>[c] | _=>[.junk]):=by
   intro xs ev' ob' he hob;have e0:(xs.flatMap λ x=>match ev' x with | .one (.c c)=>[c] | _=>[.junk])=xs.flatMap λ x=>match ev x with | .one (.c c)=>[c] | _=>[.junk] :=
    WA λ x hx=>by rw[he x hx]
   rw[e0];refine xq λ L hL=>?_;obtain⟨x,hx,c,hc,hL⟩:=clm xs _ hL;have hd:∀ k,RC ob k (bi c)->ob' k=ob k:=λ k hk=>hob k (jE.2 ⟨x,hx,zwt x c hc _ hk⟩);exact⟨hd L ⟨L,hL,.inl rfl⟩,λ o' ho' M hM=>⟨hd M ⟨L,hL,.inr ⟨o',ho',M,hM,.inl rfl⟩⟩,λ o2 ho2 N hN=>hd N ⟨L,hL,.inr ⟨o',ho',M,hM,.inr ⟨o2,ho2,hN⟩⟩⟩⟩⟩
  refine⟨λ x hx=>?_,.inl rfl,λ x hx L hL=>?_,λ d' hd' L hL=>?_,λ ev' ob' he hob=>?_⟩
  ·simp only [aH.u] at hx;refine Fq ?_;rw[List.flatMap_append];rcases dL.1 hx with hx | hx
   ·exact dL.2 (.inl (keys _ _ _ h1 x hx).1)
   ·exact dL.2 (.inr (keys _ _ _ h2 x hx).1)
  ·simp only [aH.u] at hx;rcases dL.1 hx with hx | hx
   ·rw[(keys _ _ _ h1 x hx).2] at hL;simp at hL
   ·rw[(keys _ _ _ h2 x hx).2] at hL;simp at hL
  ·simp only[aH.gives] at hd';subst hd';simp[jF,o8,kC] at hL
  ·have hl : ∀ L ∈ (first.toList ++ caps.toList).flatMap fun x => bF ob (ev x), ob' L = ob L := fun L hL => hob (L, true) (Fq hL);have e1:=zwu first.toList ev' ob' (λ x hx=>he x (hm x (dL.2 (.inl hx)))) (λ L hL=>hl L (by rw[List.flatMap_append];exact dL.2 (.inl hL)));have e2:=zwu caps.toList ev' ob' (λ x hx=>he x (hm x (dL.2 (.inr hx)))) (λ L hL=>hl L (by rw[List.flatMap_append];exact dL.2 (.inr hL)));have e3:((first.toList ++ caps.toList).flatMap λ x=>bF ob' (ev' x))=(first.toList ++ caps.toList).flatMap λ x=>bF ob (ev x):=by
    refine WA λ x hx=>?_;rw[he x (hm x hx)];exact gW λ L hL=>hl L (jE.2 ⟨x,hx,hL⟩)
   simp only[act,aMf,hop,hmt,e3,hbc ev' he,hbn];split
   ·rename_i l2 u2 l3 u3 h3 h4;have a1:some (l2,u2)=some (l,u):=h3.symm.trans (e1.trans h1);have a2:some (l3,u3)=some (l',u'):=h4.symm.trans (e2.trans h2);simp only[bJ,eF] at a1 a2;obtain⟨rfl,rfl⟩:=a1;obtain⟨rfl,rfl⟩:=a2;rfl
   ·rename_i hno;exact (hno l u l' u' (e1.trans h1) (e2.trans h2)).elim
 ·subst hA;exact hs.elim

theorem LQ {t:TypeId}{x y:Operand}(hop:o.op=.makeSlice t x y) (hA:act P Γ o ev ob=A) (hs:A.safe):bV P Γ o ev ob A:=by
 have hx:x∈o.op.operands.toList:=by simp[hop,Op.operands]
 have hy:y∈o.op.operands.toList:=by simp[hop,Op.operands]
 have hc0:∀ ev' ob',(∀ x∈o.op.operands.toList,ev' x=ev x)->act P Γ o ev' ob'=oM P Γ t (ev x) (ev y) o.dst ob':=λ ev' ob' he=>by simp only[act,hop,he x hx,he y hy]
 have hA0:=hA;rw[hc0 ev ob (λ _ _=>rfl)] at hA;unfold oM at hA;split at hA
 ·rename_i e k1 j k2 j2 dst hu hex Sj hdst;split at hA
  ·rename_i ie z hi hz hfresh;have fin:∀ (s:CP) (ao:AO),lU ao=[]->aH.chk [(dst,true)] s (.cl (.vec dst)) [(dst,ao)] []=A->(∀ ob':Nat->Option AO,ob' dst=none->oM P Γ t (ev x) (ev y) o.dst ob'=A)->bV P Γ o ev ob A:=by
    intro s ao hao e hcc;subst e;refine⟨λ z hz=>?_,.inl rfl,λ z hz M hM=>?_,λ d' hd' M hM=>?_,λ ev' ob' he hob=>?_⟩
    ·simp only[aH.u,jM] at hz;subst hz;simp[aH.fp]
    ·simp only[aH.u,jM] at hz;subst hz;rw[hao] at hM;simp at hM
    ·simp only [aH.gives] at hd'; subst hd';simp only[jF,o8,kC,jM] at hM;subst hM;exact .inr (by simp[aH.fp])
    ·have e2 := hob (dst, true) (by simp [aH.fp]); simp only at e2;rw[hc0 ev' ob' he];exact hcc ob' (e2.trans hfresh)
   have hcc:∀ ob':Nat->Option AO,ob' dst=none->oM P Γ t (ev x) (ev y) o.dst ob'=A:=λ ob' h=>by
    have:act P Γ o ev ob=A:=hA0;rw[hc0 ev ob (λ _ _=>rfl)] at this;rw[<- this];unfold oM;simp only[hu,hex,Sj,hdst,hi,hz,hfresh,h]
   split at hA
   ·split at hA
    ·split at hA
     ·split at hA
      ·exact fin _ _ rfl hA hcc
      ·subst hA;exact hs.elim
     ·subst hA;exact hs.elim
    ·subst hA;exact hs.elim
   ·split at hA
    ·split at hA
     ·exact fin _ _ rfl hA hcc
     ·subst hA;exact hs.elim
    ·subst hA;exact hs.elim
  ·subst hA;exact hs.elim
 ·subst hA;exact hs.elim

theorem zwv (hA:act P Γ o ev ob=A) (hs:A.safe):bV P Γ o ev ob A:=by
 have hA':=hA;cases hop:o.op with
 | move x=>simp only[act,hop] at hA;subst hA;exact WB (.inl hop)
 | assign x=>simp only[act,hop] at hA;subst hA;exact WB (.inr hop)
 | pick c x y =>
  simp only[act,aPk,hop] at hA;split at hA
  ·rename_i t hc;subst hA;exact zhc hop hc
  ·subst hA;exact hs.elim
 | alloc e =>
  simp only[act,aAl,hop] at hA;split at hA
  ·rename_i z hz;refine LG (ao:=.box e z) (d:=λ t=>.cl (.ptr t 0)) (λ L hL=>?_) (λ t L hL=>by simp[jF,o8,kC] at hL) (λ ev' ob' _=>by simp only[act,aAl,hop,hz]) hA hs;simp only[lU] at hL;rw[WC hz] at hL;simp at hL
  ·subst hA;exact hs.elim
 | box e x =>
  have hx:x∈o.op.operands.toList:=by simp[hop,Op.operands]
  simp only[act,aBx,hop] at hA;split at hA
  ·rename_i d m hex hm;split at hA
   ·rename_i hcond;refine LG (ao:=.box e d.cells) (d:=λ t=>.cl (.ptr t 0)) (λ L hL=>?_) (λ t L hL=>by simp[jF,o8,kC] at hL) (λ ev' ob' he=>by simp only[act,aBx,hop,he x hx,hex,hm,hcond]) hA hs;simp only[lU] at hL;rw[LH] at hL;exact .inl ⟨x,hx,by rw[hex];exact hL⟩
   ·subst hA;exact hs.elim
  ·subst hA;exact hs.elim
 | build t parts =>
  simp only[act,aBd,hop] at hA;split at hA
  ·rename_i z hf hz;split at hA
   ·rename_i l hl;subst hA;exact zcn hop hf hz hl
   ·subst hA;exact hs.elim
  ·subst hA;exact hs.elim
 | buildSlice t m parts=>exact Jc hop hA' hs
 | load t x=>exact zhd hop hA' hs
 | store t x y=>exact zco hop hA' hs
 | nilCheck x=>exact PR hop hA' hs
 | binOp op t x y t'=>exact zcq hop hA' hs
 | unOp op t x=>exact zhf hop hA' hs
 | convert t1 t2 x=>exact TJ hop hA' hs
 | fieldAddr t x f=>exact LK hop hA' hs
 | indexAddr t x y=>exact LM hop hA' hs
 | extract x k=>exact TK hop hA' hs
 | index t x y=>exact zcr hop hA' hs
 | field t x f=>exact zcs hop hA' hs
 | slice t x lo hi mx =>
  cases mx with
  | none=>exact ok_slice hop hA' hs
  | some m=>simp only[act,hop] at hA;subst hA;exact hs.elim
 | lookup t x y k=>exact YJ hop hA' hs
 | mapUpdate t x y z=>exact LJ hop hA' hs
 | makeMap t x =>
  cases x with
  | none=>exact TI hop hA' hs
  | some x=>simp only[act,hop] at hA;subst hA;exact hs.elim
 | makeSlice t x y=>exact LQ hop hA' hs
 | makeFunc fn first caps =>
  cases fn with
  | func f=>exact PS hop hA' hs
  | _=>simp only[act,hop] at hA;subst hA;exact hs.elim
 | call c =>
  obtain⟨callee,args,ts⟩:=c;cases callee with
  | value f=>exact zhg hop hA' hs
  | invoke x m=>simp only[act,hop] at hA;subst hA;exact hs.elim
  | builtin b =>
   cases b with
   | len=>exact znW hop hA' hs
   | max=>exact zlG (.inl rfl) hop hA' hs
   | min=>exact zlG (.inr rfl) hop hA' hs
   | append=>exact YL hop hA' hs
   | _=>simp only[act,hop] at hA;subst hA;exact hs.elim
 | _=>simp only[act,hop] at hA;subst hA;exact hs.elim
end
end Go.Pm
namespace Go.Pm
variable [aJ]

structure xx (σ τ : St) : Prop where
  env:∀ t,lk σ.env t=lk τ.env t
  aB:∀ L,lk σ.aB L=lk τ.aB L
  log:∀ x,x∈σ.log↔x∈τ.log

theorem xx.refl (σ:St):xx σ σ:=⟨λ _=>rfl,λ _=>rfl,λ _=>Iff.rfl⟩
theorem xx.symm {σ τ:St}(h:xx σ τ):xx τ σ:=⟨λ t=>(h.env t).symm,λ t=>(h.aB t).symm,λ x=>(h.log x).symm⟩

theorem Ak {e e':List (Nat×DV)}{x:Operand}(h:∀ t∈SH x,lk e t=lk e' t):eH e x=eH e' x:=by
 cases x with
 | tmp t=>simp only[eH];rw[h t (by simp[SH])]
 | _=>rfl

theorem Am (x:Cl):eG [] x=x:=by cases x <;> rfl
theorem FB (x:D1):dZ [] x=x:=by
 cases x with
 | c x=>simp[dZ,Am]
 | agg cs=>simp only[dZ];rw[show eG []=id from funext Am,List.map_id]
theorem YN (x:DV):fJ [] x=x:=by
 cases x with
 | one x=>simp[fJ,FB]
 | tup cs=>simp only[fJ];rw[show dZ []=id from funext FB,List.map_id]
theorem YP (x:AO):dV [] x=x:=by
 cases x with
 | box ty cs=>simp only[dV];rw[show eG []=id from funext Am,List.map_id]
 | _=>rfl

theorem FC {l:List Nat}{x:Cl}(h:∀ L∈kC x,L ∉ l):eG l x=x:=by
 cases x with
 | vec L =>
  have h1:l.contains L=false:=by simpa using h L (by simp[kC])
  simp only[eG,h1]
 | vptr L s i k =>
  have h1:l.contains L=false:=by simpa using h L (by simp[kC])
  simp only[eG,h1]
 | mo L =>
  have h1:l.contains L=false:=by simpa using h L (by simp[kC])
  simp only[eG,h1]
 | _=>rfl
theorem vJ {α : Type} {f : α → α} : ∀ {l : List α}, (∀ x ∈ l, f x = x) → l.map f = l
  | [],_=>rfl
  | x :: l,h=>by rw[nG,h x kR,vJ λ y hy=>h y (je _ hy)]
theorem J8 {l:List Nat}{x:D1}(h:∀ L∈o8 x,L ∉ l):dZ l x=x:=by
 cases x with
 | c x=>simp only[dZ];rw[FC h]
 | agg cs=>simp only[dZ];rw[vJ λ x hx=>FC λ L hL=>h L (jE.2 ⟨x,hx,hL⟩)]
theorem FD {l:List Nat}{x:DV}(h:∀ L∈jF x,L ∉ l):fJ l x=x:=by
 cases x with
 | one x=>simp only[fJ];rw[J8 h]
 | tup cs=>simp only[fJ];rw[vJ λ x hx=>J8 λ L hL=>h L (jE.2 ⟨x,hx,hL⟩)]
theorem FH {l:List Nat}{x:AO}(h:∀ L∈lU x,L ∉ l):dV l x=x:=by
 cases x with
 | box ty cs=>simp only[dV];rw[vJ λ x hx=>FC λ L hL=>h L (jE.2 ⟨x,hx,hL⟩)]
 | _=>rfl

theorem LU {l:List Nat}{x:Cl} : kC (eG l x)=kC x:=by
 cases x with
 | vec L=>simp only[eG];split <;> rfl
 | vptr L s i k=>simp only[eG];split <;> rfl
 | mo L=>simp only[eG];split <;> rfl
 | _=>rfl
theorem PT {l:List Nat}{x:D1} : o8 (dZ l x)=o8 x:=by
 cases x with
 | c x=>exact LU
 | agg cs=>simp only[dZ,o8,List.flatMap_map];exact WA λ x _=>LU
theorem zhh {l:List Nat}{x:DV} : jF (fJ l x)=jF x:=by
 cases x with
 | one x=>exact PT
 | tup cs=>simp only[fJ,jF,List.flatMap_map];exact WA λ x _=>PT
theorem LV {l:List Nat}{x:AO} : lU (dV l x)=lU x:=by
 cases x with
 | box ty cs=>simp only[dV,lU,List.flatMap_map];exact WA λ x _=>LU
 | _=>rfl

theorem xy {l m:List Nat}(x:Cl):eG l (eG m x)=eG m (eG l x):=by
 cases x with
 | vec L=>simp only[eG];cases hl:l.contains L <;> cases hm:m.contains L <;> simp only[hl,hm]
 | vptr L s i k=>simp only[eG];cases hl:l.contains L <;> cases hm:m.contains L <;> simp only[hl,hm]
 | mo L=>simp only[eG];cases hl:l.contains L <;> cases hm:m.contains L <;> simp only[hl,hm]
 | _=>rfl
theorem BR {l m:List Nat}(x:D1):dZ l (dZ m x)=dZ m (dZ l x):=by
 cases x with
 | c x=>simp only[dZ];rw[xy]
 | agg cs=>simp only[dZ,List.map_map];rw[show eG l ∘ eG m=eG m ∘ eG l from funext xy]
theorem TM {l m:List Nat}(x:DV):fJ l (fJ m x)=fJ m (fJ l x):=by
 cases x with
 | one x=>simp only[fJ];rw[BR]
 | tup cs=>simp only[fJ,List.map_map];rw[show dZ l ∘ dZ m=dZ m ∘ dZ l from funext BR]
theorem TN {l m:List Nat}(x:AO):dV l (dV m x)=dV m (dV l x):=by
 cases x with
 | box ty cs=>simp only[dV,List.map_map];rw[show eG l ∘ eG m=eG m ∘ eG l from funext xy]
 | _=>rfl

theorem WG {α : Type} {f : α → α} : ∀ {l : List (Nat × α)} {t : Nat}, lk (kills f l) t = (lk l t).map f
  | [],_=>rfl
  | (k,a) :: r,t=>by
    simp only[kills];rw[aV,aV];split
    · rfl
    · exact WG

theorem zhi {σ : St} {i : Nat} {dst : Option Nat} {fp : List (Nat × Bool)} {d : DV} {u : List (Nat × AO)} {kl : List Nat} (t : Nat) :
  lk (σ.upd i dst fp d u kl).env t=if dst=some t then some d else (lk σ.env t).map (fJ kl):=by
 cases kl with
 | nil =>
  have e:(lk σ.env t).map (fJ [])=lk σ.env t:=by cases lk σ.env t <;> simp[YN]
  rw[e];cases dst with
  | none=>rfl
  | some s=>simp only[St.upd,aV,bJ]
 | cons K r =>
  cases dst with
  | none=>simp only[St.upd,WG];rw[if_neg (by simp)]
  | some s=>simp only[St.upd,aV,WG,bJ]
theorem zcu {σ : St} {i : Nat} {dst : Option Nat} {fp : List (Nat × Bool)} {d : DV} {u : List (Nat × AO)} {kl : List Nat} (L : Nat) :
  lk (σ.upd i dst fp d u kl).aB L=match lk u L with | some o=>some o | none=>(lk σ.aB L).map (dV kl):=by
 cases kl with
 | nil =>
  have e:(lk σ.aB L).map (dV [])=lk σ.aB L:=by cases lk σ.aB L <;> simp[YP]
  rw[e];change lk (u ++ σ.aB) L=_;rw[fC];cases lk u L <;> rfl
 | cons K r =>
  simp only[St.upd,fC,WG];cases lk u L <;> rfl
theorem zhj {σ:St}{i:Nat}{dst:Option Nat}{fp:List (Nat×Bool)}{d:DV}{u:List (Nat×AO)}{kl:List Nat} : (σ.upd i dst fp d u kl).log=σ.log:=by
 cases kl <;> rfl

abbrev aH.may:aH->DV->Prop:=aH.gives
theorem aH.may_gives {A:aH}{d:DV}(h:A.may d):A.gives d:=h
theorem aH.may_of_safe {A:aH}(h:A.safe):∃ d,A.may d:=by
 cases A with
 | no=>exact h.elim
 | val fp d u kl=>exact⟨d,rfl⟩
 | chk fp s d u kl=>exact⟨d,rfl⟩

def nx (A:aH) (lg:List (Nat×Bool)->List Nat->List (Nat×Nat×Nat)) (i:Nat) (dst:Option Nat) (σ:St) (d:DV):St :=
 (σ.upd i dst A.fp d A.u A.kl).relog (lg A.fp A.kl)

theorem jJ {A : aH} {lg : List (Nat × Bool) → List Nat → List (Nat × Nat × Nat)} {i : Nat} {dst : Option Nat} {K : St → Prop} {σ : St} :
  kH A lg i dst K σ↔A.safe/\∀ d,A.may d->K (nx A lg i dst σ d):=by
 cases A with
 | no=>simp[kH,aH.safe]
 | val fp d u kl=>simp[kH,aH.safe,aH.may,aH.gives,nx,aH.fp,aH.u,aH.kl]
 | chk fp s d u kl=>simp[kH,aH.safe,aH.may,aH.gives,nx,aH.fp,aH.u,aH.kl]
section
variable (P:Program) (Γ:aX) (nt:Nat) (ops:Array Oper)

def kN (env:List (Nat×DV)) (o:Oper):Option Bool :=
 match o.guard with
 | none=>some true
 | some (j,want) =>
  match (ops[j]?).bind (·.dst) with
  | none=>none
  | some g =>
   match lk env g with
   | some (.one (.c (.p (.bool b))))=>some (b == want)
   | some (.one (.c .undef))=>some false
   | _=>none

def qK (σ:St) (o:Oper):aH :=
 match dE nt o.dst,kN ops σ.env o with
 | true,some true=>act P Γ o (eH σ.env) (lk σ.aB)
 | true,some false=>.val [] (.cl .undef) [] []
 | _,_=>.no

def ni (σ:St) (i:Nat) (o:Oper) (fp:List (Nat×Bool)) (kl:List Nat):List (Nat×Nat×Nat) :=
 match kN ops σ.env o with
 | some true=>lL σ i o fp kl
 | _=>[]

def ug : List Nat → (St → Prop) → St → Prop
  | [],K,σ=>K σ
  | i :: r,K,σ=>match ops[i]? with
    | none=>ug r K σ
    | some o=>kH (qK P Γ nt ops σ o) (ni ops σ i o) i o.dst (ug r K) σ

def looks (σ:St) (o:Oper):List Nat :=
 match kN ops σ.env o with
 | some true=>pF ops o
 | _=>gdT ops o

end

section
variable {P:Program}{Γ:aX}{nt:Nat}{ops:Array Oper}{σ τ:St}{o:Oper}{i:Nat}{A:aH}

theorem uK {L k:Nat}{r:List Nat} : k∈I7 σ (L :: r)↔∃ o,lk σ.aB k=some o/\L∈lU o:=by
 simp only[I7,List.mem_filter,vC];constructor
 ·rintro ⟨_, h⟩;split at h
  ·rename_i o ho;exact⟨o,ho,by simpa using h⟩
  ·cases h
 ·rintro ⟨o, ho, hL⟩;refine⟨⟨(k,o),dY ho,rfl⟩,?_⟩;rw[ho];simpa using hL

theorem J9:∀ t∈looks ops σ o,t∈pF ops o:=by
 unfold looks;split
 ·exact λ _ h=>h
 ·exact λ t h=>dL.2 (.inr h)
theorem Ko:∀ t∈gdT ops o,t∈looks ops σ o:=by
 unfold looks;split
 ·exact λ t h=>dL.2 (.inr h)
 ·exact λ t h=>h

theorem oQ {env env':List (Nat×DV)}(h:∀ t∈gdT ops o,lk env' t=lk env t):kN ops env' o=kN ops env o:=by
 unfold kN;split
 ·rfl
 ·rename_i j want hg;split
  ·rfl
  ·rename_i g hgt;rw[h g (by simp[gdT,hg,hgt])]

theorem WH {b:Bool}(h:kN ops σ.env o=some b):∀ t∈gdT ops o,∀ v,lk σ.env t=some v->jF v=[]:=by
 intro t ht v hv;unfold gdT at ht;split at ht
 ·rename_i j want hg;split at ht
  ·rename_i g hgt;simp only[jM] at ht;subst ht;unfold kN at h;rw[hg] at h;simp only[hgt] at h;rw[hv] at h;split at h
   ·rename_i e;simp only[bJ] at e;subst e;rfl
   ·rename_i e;simp only[bJ] at e;subst e;rfl
   ·cases h
  ·simp at ht
 ·simp at ht

structure Loc (P : Program) (Γ : aX) (nt : Nat) (ops : Array Oper) (σ : St) (i : Nat) (o : Oper) (A : aH) (lg : List (Nat × Nat × Nat)) : Prop where
  fst:∀ x∈lg,x.1=i
  wr:∀ x∈A.u,(i,x.1,1)∈lg
  kl:A.kl=[]\/∃ L,A.kl=[L]
  kl3:∀ L∈A.kl,(i,L,3)∈lg
  kl1:∀ L∈A.kl,(i,L,1)∈lg
  kb:∀ L∈A.kl,∀ k o',lk σ.aB k=some o'->L∈lU o'->(i,k,1)∈lg
  labu:∀ x∈A.u,∀ L∈lU x.2,(i,L,2)∈lg
  labd:∀ d,A.may d->∀ L∈jF d,(i,L,2)∈lg\/(i,L,1)∈lg
  see:∀ t∈looks ops σ o,∀ v,lk σ.env t=some v->∀ L∈jF v,(i,L,2)∈lg
  fpm:∀ y∈A.fp,∀ o',lk σ.aB y.1=some o'->∀ L∈lU o',(i,L,2)∈lg
  fpt:∀ y∈A.fp,(i,y.1,0)∈lg\/(i,y.1,1)∈lg
  wfp:∀ x∈A.u,(x.1,true)∈A.fp
  congr:∀ τ,(∀ t∈looks ops σ o,lk τ.env t=lk σ.env t)->(∀ y∈A.fp,lk τ.aB y.1=lk σ.aB y.1)->qK P Γ nt ops τ o=A
  logc:∀ τ,(∀ t∈looks ops σ o,lk τ.env t=lk σ.env t)->(∀ y∈A.fp,lk τ.aB y.1=lk σ.aB y.1) ->
    (∀ L∈A.kl,∀ k,(∃ o',lk τ.aB k=some o'/\L∈lU o')↔∃ o',lk σ.aB k=some o'/\L∈lU o')->∀ x,x∈ni ops τ i o A.fp A.kl↔x∈lg

theorem iw {fp : List (Nat × Bool)} {kl : List Nat} {x : Nat × Nat × Nat} : x ∈ lL σ i o fp kl ↔
    (∃ y∈fp,x=(i,y.1,match y.2 with | true=>1 | false=>0))\/(∃ L∈Eh σ o fp,x=(i,L,2))\/(∃ L∈kl,x=(i,L,3))\/∃ k∈I7 σ kl,x=(i,k,1):=by
  simp only[lL,dL,vC,or_assoc];constructor
  · rintro (⟨y, h1, h2⟩ | ⟨y, h1, h2⟩ | ⟨y, h1, h2⟩ | ⟨y, h1, h2⟩)
    · exact .inl ⟨y,h1,h2.symm⟩
    · exact .inr (.inl ⟨y,h1,h2.symm⟩)
    · exact .inr (.inr (.inl ⟨y,h1,h2.symm⟩))
    · exact .inr (.inr (.inr ⟨y,h1,h2.symm⟩))
  · rintro (⟨y, h1, h2⟩ | ⟨y, h1, h2⟩ | ⟨y, h1, h2⟩ | ⟨y, h1, h2⟩)
    · exact .inl ⟨y,h1,h2.symm⟩
    · exact .inr (.inl ⟨y,h1,h2.symm⟩)
    · exact .inr (.inr (.inl ⟨y,h1,h2.symm⟩))
    · exact .inr (.inr (.inr ⟨y,h1,h2.symm⟩))

theorem YQ {fp:List (Nat×Bool)}{L:Nat}(h:Men o (eH σ.env) (lk σ.aB) fp L):L∈Eh σ o fp:=by
 unfold Eh;rcases h with ⟨x,hx,hL⟩ | ⟨y,hy,o',ho,hL⟩
 ·exact dL.2 (.inl (jE.2 ⟨x,hx,hL⟩))
 ·refine dL.2 (.inr (jE.2 ⟨y,hy,?_⟩));rw[ho];exact hL

theorem BU {fp:List (Nat×Bool)}(he:∀ x∈o.op.operands.toList,eH τ.env x=eH σ.env x) (hob:∀ y∈fp,lk τ.aB y.1=lk σ.aB y.1):Eh τ o fp=Eh σ o fp:=by
 unfold Eh;rw[WA (f:=λ x=>jF (eH τ.env x)) (h:=λ x=>jF (eH σ.env x)) λ x hx=>by rw[he x hx]];congr 1;exact WA λ y hy=>by rw[hob y hy]

theorem PU (hA:qK P Γ nt ops σ o=A) (hs:A.safe):Loc P Γ nt ops σ i o A (ni ops σ i o A.fp A.kl):=by
 have hA':=hA;unfold qK at hA;split at hA
 ·rename_i hd hw;have K:=zwv hA hs;have hlg:∀ fp kl,ni ops σ i o fp kl=lL σ i o fp kl:=λ fp kl=>by unfold ni;rw[hw]
  have hlooks:looks ops σ o=pF ops o:=by unfold looks;rw[hw]
  have zhk:∀ L,Men o (eH σ.env) (lk σ.aB) A.fp L->(i,L,2)∈ni ops σ i o A.fp A.kl:=λ L h=>by
   rw[hlg];exact iw.2 (.inr (.inl ⟨L,YQ h,rfl⟩))
  have hfw:∀ L,(L,true)∈A.fp->(i,L,1)∈ni ops σ i o A.fp A.kl:=λ L h=>by
   rw[hlg];exact iw.2 (.inl ⟨_,h,rfl⟩)
  have hop:∀ τ:St,(∀ t∈looks ops σ o,lk τ.env t=lk σ.env t)->∀ x∈o.op.operands.toList,eH τ.env x=eH σ.env x:=λ τ h x hx =>
   Ak λ t ht=>h t (by rw[hlooks];exact dL.2 (.inl (jE.2 ⟨x,hx,ht⟩)))
  have hwt:∀ τ:St,(∀ t∈looks ops σ o,lk τ.env t=lk σ.env t)->kN ops τ.env o=some true:=λ τ h=>by
   rw[oQ (env:=σ.env) λ t ht=>h t (Ko t ht),hw]
  refine⟨λ x hx=>?_,λ x hx=>hfw _ (K.wr x hx),?_,λ L hL=>?_,λ L hL=>?_,λ L hL k o' hk hL'=>?_,λ x hx L hL=>zhk L (K.labu x hx L hL),
   λ d hd' L hL=>(K.labd d (aH.may_gives hd') L hL).imp (zhk L) (hfw L),λ t ht v hv L hL=>?_,λ y hy o' ho L hL=>zhk L (.inr ⟨y,hy,o',ho,hL⟩),λ y hy=>?_,K.wr,λ τ he hob=>?_,λ τ he hob hkb x=>?_⟩
  ·rw [hlg] at hx;rcases iw.1 hx with ⟨_,_,h⟩ | ⟨_,_,h⟩ | ⟨_,_,h⟩ | ⟨_,_,h⟩ <;> rw[h]
  ·exact K.kl.imp_right λ ⟨L,h,_⟩=>⟨L,h⟩
  ·rw[hlg];exact iw.2 (.inr (.inr (.inl ⟨L,hL,rfl⟩)))
  ·rcases K.kl with h | ⟨M, h, h2⟩
   ·rw[h] at hL;simp at hL
   ·rw[h] at hL;simp at hL;subst hL;exact hfw _ h2
  ·rw [hlg];refine iw.2 (.inr (.inr (.inr ⟨k,?_,rfl⟩)));rcases K.kl with h | ⟨M,h,h2⟩
   ·rw[h] at hL;simp at hL
   ·rw[h] at hL ⊢;simp at hL;subst hL;exact uK.2 ⟨o',hk,hL'⟩
  ·rw [hlooks] at ht;rcases dL.1 ht with ht | ht
   ·obtain ⟨x, hx, ht⟩ := jE.1 ht;refine zhk L (.inl ⟨x,hx,?_⟩);cases x with
    | tmp s=>simp only[SH,jM] at ht;subst ht;simp only[eH,hv];exact hL
    | _=>simp[SH] at ht
   ·rw[WH hw t ht v hv] at hL;simp at hL
  ·rw [hlg];obtain⟨L,b⟩:=y;cases b with
   | true=>exact .inr (iw.2 (.inl ⟨_,hy,rfl⟩))
   | false=>exact .inl (iw.2 (.inl ⟨_,hy,rfl⟩))
  ·unfold qK;rw[hd,hwt τ he];exact K.congr _ _ (hop τ he) hob
  ·have e1 : ni ops τ i o A.fp A.kl = lL τ i o A.fp A.kl := by unfold ni; rw [hwt τ he]
   rw[e1,hlg,iw,iw,BU (hop τ he) hob];refine or_congr Iff.rfl (or_congr Iff.rfl (or_congr Iff.rfl ?_));rcases K.kl with h | ⟨M,h,h2⟩
   ·rw[h];simp[I7]
   ·rw [h];have:∀ k,k∈I7 τ [M]↔k∈I7 σ [M]:=λ k=>by rw[uK,uK];exact hkb M (by rw[h];simp) k
    constructor
    ·rintro⟨k,h1,h2⟩;exact⟨k,(this k).1 h1,h2⟩
    ·rintro⟨k,h1,h2⟩;exact⟨k,(this k).2 h1,h2⟩
 ·rename_i hd hw;subst hA;have hlg:∀ fp kl,ni ops σ i o fp kl=[]:=λ fp kl=>by unfold ni;rw[hw]
  have hlooks:looks ops σ o=gdT ops o:=by unfold looks;rw[hw]
  have hwt:∀ τ:St,(∀ t∈looks ops σ o,lk τ.env t=lk σ.env t)->kN ops τ.env o=some false:=λ τ h=>by
   rw[oQ (env:=σ.env) λ t ht=>h t (Ko t ht),hw]
  refine⟨λ x hx=>?_,λ x hx=>?_,.inl rfl,λ L hL=>?_,λ L hL=>?_,λ L hL=>?_,λ x hx=>?_,λ d hd' L hL=>?_,λ t ht v hv L hL=>?_,λ y hy=>?_,λ y hy=>?_,λ x hx=>?_,λ τ he hob=>?_,λ τ he hob hkb x=>?_⟩
  ·rw[hlg] at hx;simp at hx
  ·simp[aH.u] at hx
  ·simp[aH.kl] at hL
  ·simp[aH.kl] at hL
  ·simp[aH.kl] at hL
  ·simp[aH.u] at hx
  ·simp only[aH.gives] at hd';subst hd';simp[jF,o8,kC] at hL
  ·rw[hlooks] at ht;rw[WH hw t ht v hv] at hL;simp at hL
  ·simp[aH.fp] at hy
  ·simp[aH.fp] at hy
  ·simp[aH.u] at hx
  ·unfold qK;rw[hd,hwt τ he]
  ·rw [hlg];have:ni ops τ i o (aH.val [] (.cl .undef) [] []).fp (aH.val [] (.cl .undef) [] []).kl=[]:=by unfold ni;rw[hwt τ he]
   rw[this]
 ·subst hA;exact hs.elim

theorem Ap {lg:List (Nat×Bool)->List Nat->List (Nat×Nat×Nat)}{dst:Option Nat}{d:DV}(t:Nat):lk (nx A lg i dst σ d).env t=if dst=some t then some d else (lk σ.env t).map (fJ A.kl):=zhi t
theorem vK {lg:List (Nat×Bool)->List Nat->List (Nat×Nat×Nat)}{dst:Option Nat}{d:DV}(L:Nat):lk (nx A lg i dst σ d).aB L=match lk A.u L with | some o=>some o | none=>(lk σ.aB L).map (dV A.kl):=zcu L
theorem rW {lg:List (Nat×Bool)->List Nat->List (Nat×Nat×Nat)}{dst:Option Nat}{d:DV} : (nx A lg i dst σ d).log=lg A.fp A.kl ++ σ.log:=by simp only[nx,St.relog,zhj]

theorem zcv (h:xx σ τ) (o:Oper):qK P Γ nt ops τ o=qK P Γ nt ops σ o:=by
 unfold qK;rw[oQ (env:=σ.env) λ t _=>(h.env t).symm,show eH τ.env=eH σ.env from funext λ x=>Ak λ t _=>(h.env t).symm,show lk τ.aB=lk σ.aB from funext λ t=>(h.aB t).symm]
theorem zhl (h:xx σ τ){fp:List (Nat×Bool)}{kl:List Nat}(x:Nat×Nat×Nat):x∈ni ops σ i o fp kl↔x∈ni ops τ i o fp kl:=by
 unfold ni;rw[oQ (env:=σ.env) (env':=τ.env) λ t _=>(h.env t).symm];split
 ·rw [iw, iw, BU (σ := σ) (τ := τ) (fun x _ => Ak fun t _ => (h.env t).symm) (fun y _ => (h.aB y.1).symm)];refine or_congr Iff.rfl (or_congr Iff.rfl (or_congr Iff.rfl ?_));cases kl with
  | nil=>simp[I7]
  | cons L r =>
   have:∀ k,k∈I7 σ (L :: r)↔k∈I7 τ (L :: r):=λ k=>by rw[uK,uK,h.aB k]
   constructor
   ·rintro⟨k,h1,h2⟩;exact⟨k,(this k).1 h1,h2⟩
   ·rintro⟨k,h1,h2⟩;exact⟨k,(this k).2 h1,h2⟩
 ·exact Iff.rfl

theorem Dx {K : St → Prop} (hK : ∀ σ τ, xx σ τ → K σ → K τ) : ∀ (l : List Nat) (σ τ : St), xx σ τ → ug P Γ nt ops l K σ → ug P Γ nt ops l K τ
  | [],σ,τ,h,hv=>hK σ τ h hv
  | i :: r,σ,τ,h,hv=>by
    simp only[ug] at hv ⊢;split at hv
    · exact Dx hK r σ τ h hv
    · rename_i o ho;rw[jJ] at hv ⊢;rw[zcv h];refine⟨hv.1,λ d hd=>Dx hK r _ _ ⟨λ t=>?_,λ L=>?_,λ x=>?_⟩ (hv.2 d hd)⟩
      · rw[Ap,Ap,h.env]
      · rw[vK,vK,h.aB]
      · rw [rW, rW, dL, dL, h.log x];exact or_congr (zhl h x) Iff.rfl

theorem wM {K K':St->Prop}{l l':List Nat}{i:Nat}(hK:∀ σ,ug P Γ nt ops l K σ->ug P Γ nt ops l' K' σ) (hv:ug P Γ nt ops (i :: l) K σ):ug P Γ nt ops (i :: l') K' σ:=by
 simp only[ug] at hv ⊢;split at hv
 ·exact hK _ hv
 ·rw [jJ] at hv ⊢;exact⟨hv.1,λ d hd=>hK _ (hv.2 d hd)⟩

theorem LW {K : St → Prop} {R : List (Nat × Nat × Nat) → Prop} (hR : ∀ l m, (∀ x ∈ l, x ∈ m) → R m → R l) (hK : ∀ σ, K σ → R σ.log) : ∀ (l : List Nat) (σ : St), ug P Γ nt ops l K σ → R σ.log
  | [],σ,hv=>hK σ hv
  | i :: r,σ,hv=>by
    simp only[ug] at hv;split at hv
    · exact LW hR hK r σ hv
    · rw [jJ] at hv;obtain⟨d,hd⟩:=aH.may_of_safe hv.1;refine hR _ _ (λ x hx=>?_) (LW hR hK r _ (hv.2 d hd));rw[rW];exact dL.2 (.inr hx)

def yH (log:List (Nat×Nat×Nat)) (i j:Nat):Prop:=∀ L k m,(i,L,k)∈log->(j,L,m)∈log->SI k m=false

theorem FI {l:List Nat}{x:Option DV}(h:∀ v,x=some v->∀ L∈jF v,L ∉ l):x.map (fJ l)=x:=by
 cases x with
 | none=>rfl
 | some v=>simp only[Option.map_some];rw[FD (h v rfl)]
theorem FK {l:List Nat}{x:Option AO}(h:∀ v,x=some v->∀ L∈lU v,L ∉ l):x.map (dV l)=x:=by
 cases x with
 | none=>rfl
 | some v=>simp only[Option.map_some];rw[FH (h v rfl)]

theorem zcw {a b:Oper}(h:Ei ops a b=false):(∀ t∈pF ops b,a.dst ≠ some t)/\(∀ t∈pF ops a,b.dst ≠ some t)/\∀ t,a.dst=some t->b.dst ≠ some t:=by
 simp only[Ei,Bool.or_eq_false_iff] at h;obtain⟨⟨h1,h2⟩,h3⟩:=h;refine⟨λ t ht e=>?_,λ t ht e=>?_,λ t e e'=>?_⟩
 ·rw [e] at h1; simp only [meets] at h1;have:(pF ops b).contains t=true:=by simpa using ht
  rw[this] at h1;cases h1
 ·rw [e] at h2; simp only [meets] at h2;have:(pF ops a).contains t=true:=by simpa using ht
  rw[this] at h2;cases h2
 ·rw [e, e'] at h3; simp only [VP] at h3;rw[show Nat.beq t t=true from by simp] at h3;cases h3

theorem zcx {K : St → Prop} {i j : Nat} {oi oj : Oper} {r : List Nat} (hi : ops[i]? = some oi) (hj : ops[j]? = some oj) (hT : Ei ops oi oj = false)
    (hE:∀ τ τ',xx τ τ'->ug P Γ nt ops r K τ->ug P Γ nt ops r K τ') (hN:∀ τ,ug P Γ nt ops r K τ->yH τ.log i j)
    (h:ug P Γ nt ops (i :: j :: r) K σ):ug P Γ nt ops (j :: i :: r) K σ:=by
  obtain⟨cT1,cT2,cT3⟩:=zcw hT;simp only[ug,hi,hj] at h ⊢;rw[jJ] at h;obtain⟨hsA,hA⟩:=h;generalize hAe:qK P Γ nt ops σ oi=A at hsA hA;have LA:=PU (i:=i) hAe hsA
  -- the second operation behind the first: az before it
  have key:∀ d,A.may d->∃ B,qK P Γ nt ops (nx A (ni ops σ i oi) i oi.dst σ d) oj=B/\B.safe /\
      (∀ e,B.may e->ug P Γ nt ops r K (nx B (ni ops (nx A (ni ops σ i oi) i oi.dst σ d) j oj) j oj.dst (nx A (ni ops σ i oi) i oi.dst σ d) e)) /\
      yH (ni ops (nx A (ni ops σ i oi) i oi.dst σ d) j oj B.fp B.kl ++ (ni ops σ i oi A.fp A.kl)) i j:=by
    intro d hd;have h2:=hA d hd;rw[jJ] at h2;obtain⟨hsB,hB⟩:=h2;refine⟨_,rfl,hsB,hB,?_⟩;obtain⟨e,he⟩:=aH.may_of_safe hsB;have:=hN _ (hB e he);rw[rW,rW] at this;intro L k m hk hm;refine this L k m ?_ ?_
    · rcases dL.1 hk with h | h
      · exact dL.2 (.inl h)
      · exact dL.2 (.inr (dL.2 (.inl h)))
    · rcases dL.1 hm with h | h
      · exact dL.2 (.inl h)
      · exact dL.2 (.inr (dL.2 (.inl h)))
  have main:∀ d,A.may d->∀ B,qK P Γ nt ops (nx A (ni ops σ i oi) i oi.dst σ d) oj=B->B.safe ->
      (∀ e,B.may e->ug P Γ nt ops r K (nx B (ni ops (nx A (ni ops σ i oi) i oi.dst σ d) j oj) j oj.dst (nx A (ni ops σ i oi) i oi.dst σ d) e)) ->
      yH (ni ops (nx A (ni ops σ i oi) i oi.dst σ d) j oj B.fp B.kl ++ (ni ops σ i oi A.fp A.kl)) i j ->
      qK P Γ nt ops σ oj=B/\∀ e,B.may e->qK P Γ nt ops (nx B (ni ops σ j oj) j oj.dst σ e) oi=A /\
        ug P Γ nt ops r K (nx A (ni ops (nx B (ni ops σ j oj) j oj.dst σ e) i oi) i oi.dst (nx B (ni ops σ j oj) j oj.dst σ e) d):=by
    intro d hd B hBe hsB hB hno;generalize hσ1:nx A (ni ops σ i oi) i oi.dst σ d=σ1 at hBe hB hno;have LB:=PU (i:=j) hBe hsB;have no:∀ L k m,(i,L,k)∈ni ops σ i oi A.fp A.kl->(j,L,m)∈ni ops σ1 j oj B.fp B.kl->SI k m=true->False:=λ L k m h1 h2 hc=>by
      have:=hno L k m (dL.2 (.inr h1)) (dL.2 (.inl h2));rw[this] at hc;cases hc
    have zww:∀ t,lk σ1.env t=if oi.dst=some t then some d else (lk σ.env t).map (fJ A.kl):=λ t=>by rw[<- hσ1,Ap]
    have zcy:∀ L,lk σ1.aB L=match lk A.u L with | some o=>some o | none=>(lk σ.aB L).map (dV A.kl):=λ L=>by rw[<- hσ1,vK]
    -- what the second looks at, the first has not changed
    have zwx:∀ t∈looks ops σ1 oj,lk σ.env t=lk σ1.env t:=by
      intro t ht;have e:=zww t;rw[if_neg (cT1 t (J9 t ht))] at e;rw[e];refine (FI λ v hv L hL hk=>?_).symm;rw[hv,Option.map_some] at e;exact no L 3 2 (LA.kl3 L hk) (LB.see t ht _ e L (by rw[zhh];exact hL)) rfl
    have fpB:∀ y∈B.fp,lk σ.aB y.1=lk σ1.aB y.1:=by
      intro y hy;have e:=zcy y.1;have hn:lk A.u y.1=none:=by
        cases hu:lk A.u y.1 with
        | none=>rfl
        | some o' =>
          have h1:=LA.wr _ (dY hu);rcases LB.fpt y hy with h2 | h2
          · exact (no _ _ _ h1 h2 rfl).elim
          · exact (no _ _ _ h1 h2 rfl).elim
      rw[hn] at e;simp only at e;rw[e];refine (FK λ v hv L hL hk=>?_).symm;rw[hv,Option.map_some] at e;exact no L 3 2 (LA.kl3 L hk) (LB.fpm y hy _ e L (by rw[LV];exact hL)) rfl
    have hBσ:=LB.congr σ zwx fpB;refine⟨hBσ,λ e he=>?_⟩;generalize hσ1':nx B (ni ops σ j oj) j oj.dst σ e=σ1';have zlI:∀ t,lk σ1'.env t=if oj.dst=some t then some e else (lk σ.env t).map (fJ B.kl):=λ t=>by rw[<- hσ1',Ap]
    have TP:∀ L,lk σ1'.aB L=match lk B.u L with | some o=>some o | none=>(lk σ.aB L).map (dV B.kl):=λ L=>by rw[<- hσ1',vK]
    have zwy:∀ t∈looks ops σ oi,lk σ1'.env t=lk σ.env t:=by
      intro t ht;rw[zlI,if_neg (cT2 t (J9 t ht))];exact FI λ v hv L hL hk=>no L 2 3 (LA.see t ht v hv L hL) (LB.kl3 L hk) rfl
    have uB:∀ y∈A.fp,lk B.u y.1=none:=by
      intro y hy;cases hu:lk B.u y.1 with
      | none=>rfl
      | some o' =>
        have h1:=LB.wr _ (dY hu);rcases LA.fpt y hy with h2 | h2
        · exact (no _ _ _ h2 h1 rfl).elim
        · exact (no _ _ _ h2 h1 rfl).elim
    have fpA:∀ y∈A.fp,lk σ1'.aB y.1=lk σ.aB y.1:=by
      intro y hy;rw[TP,uB y hy];exact FK λ v hv L hL hk=>no L 2 3 (LA.fpm y hy v hv L hL) (LB.kl3 L hk) rfl
    have hAσ:=LA.congr σ1' zwy fpA;refine⟨hAσ,hE _ _ ⟨λ t=>?_,λ L=>?_,λ x=>?_⟩ (hB e he)⟩
    · -- the temporaries
      rw[Ap,Ap,zww,zlI];by_cases h1:oj.dst=some t
      · rw [if_pos h1, if_pos h1, if_neg fun h2 => cT3 t h2 h1, Option.map_some, FD fun L hL hk => ?_];rcases LB.labd e he L hL with h3 | h3
        · exact no L 3 2 (LA.kl3 L hk) h3 rfl
        · exact no L 1 1 (LA.kl1 L hk) h3 rfl
      · rw [if_neg h1, if_neg h1];by_cases h2:oi.dst=some t
        · rw [if_pos h2, if_pos h2, Option.map_some, FD fun L hL hk => ?_];rcases LA.labd d hd L hL with h3 | h3
          · exact no L 2 3 h3 (LB.kl3 L hk) rfl
          · exact no L 1 1 h3 (LB.kl1 L hk) rfl
        · rw [if_neg h2, if_neg h2];cases lk σ.env t with
          | none=>rfl
          | some v=>simp only[Option.map_some];rw[TM]
    · -- the objects
      rw[vK,vK,zcy,TP];cases hb:lk B.u L with
      | some ob =>
        cases ha:lk A.u L with
        | some oa=>exact (no L 1 1 (LA.wr _ (dY ha)) (LB.wr _ (dY hb)) rfl).elim
        | none =>
          simp only[Option.map_some];rw[FH λ M hM hk=>no M 3 2 (LA.kl3 M hk) (LB.labu _ (dY hb) M hM) rfl]
      | none =>
        cases ha:lk A.u L with
        | some oa =>
          simp only[Option.map_some];rw[FH λ M hM hk=>no M 2 3 (LA.labu _ (dY ha) M hM) (LB.kl3 M hk) rfl]
        | none =>
          simp only;cases lk σ.aB L with
          | none=>rfl
          | some v=>simp only[Option.map_some];rw[TN]
    · -- the log
      rw[rW,rW];have l1:σ1.log=ni ops σ i oi A.fp A.kl ++ σ.log:=by rw[<- hσ1,rW]
      have l2:σ1'.log=ni ops σ j oj B.fp B.kl ++ σ.log:=by rw[<- hσ1',rW]
      rw[l1,l2];have e1:x∈ni ops σ j oj B.fp B.kl↔x∈ni ops σ1 j oj B.fp B.kl:=by
        refine LB.logc σ zwx fpB (λ L hL k=>?_) x;rw[zcy];cases ha:lk A.u k with
        | some oa =>
          simp only[bJ];constructor
          · rintro ⟨o', ho, hL'⟩;exact (no L 2 3 (LA.fpm _ (LA.wfp _ (dY ha)) o' ho L hL') (LB.kl3 L hL) rfl).elim
          · rintro ⟨o', rfl, hL'⟩;exact (no L 2 3 (LA.labu _ (dY ha) L hL') (LB.kl3 L hL) rfl).elim
        | none =>
          simp only;cases lk σ.aB k with
          | none=>simp
          | some v=>simp[LV]
      have e2:x∈ni ops σ1' i oi A.fp A.kl↔x∈ni ops σ i oi A.fp A.kl:=by
        refine LA.logc σ1' zwy fpA (λ L hL k=>?_) x;rw[TP];cases hb:lk B.u k with
        | some ob =>
          simp only[bJ];constructor
          · rintro ⟨o', rfl, hL'⟩;exact (no L 3 2 (LA.kl3 L hL) (LB.labu _ (dY hb) L hL') rfl).elim
          · rintro ⟨o', ho, hL'⟩;exact (no k 1 1 (LA.kb L hL k o' ho hL') (LB.wr _ (dY hb)) rfl).elim
        | none =>
          simp only;cases lk σ.aB k with
          | none=>simp
          | some v=>simp[LV]
      simp only[dL];rw[e1,e2,<- or_assoc,<- or_assoc];exact or_congr (or_comm) Iff.rfl
  rw[jJ];obtain⟨d0,hd0⟩:=aH.may_of_safe hsA;obtain⟨B,hBe,hsB,hB,hno⟩:=key d0 hd0;obtain⟨hBσ,hrest⟩:=main d0 hd0 B hBe hsB hB hno;rw[hBσ];refine⟨hsB,λ e he=>?_⟩;rw[jJ];rw[(hrest e he).1];refine⟨hsA,λ d hd=>?_⟩;obtain⟨B',zDI,hsB',hB',hno'⟩:=key d hd;obtain⟨zDJ,hrest'⟩:=main d hd B' zDI hsB' hB' hno';have hBB:B'=B:=zDJ.symm.trans hBσ;subst hBB;exact (hrest' e he).2

end
end Go.Pm
