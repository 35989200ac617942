/- Part 2 of what the proof rests on: a machine that runs functions of the program on pure values, proved sound; the functions that the law reaches, what they compute, and plain laws of that. -/
import Derived.Test.YtjkijdhdbhooiaaGreatQ1
import Derived.ChangeKeysEq
import Derived.MapKept
import Derived.Laws.Slices
import Derived.Laws.OwnMore
import Derived.Scope
set_option linter.all false
noncomputable section
namespace Go.Pm
variable [aJ]
open Go.RowKit (Below)

section
variable {P:Program}{Γ:bf}{nt B:Nat}{w0:World}{h0:Fz}{g:Gh}{σ:St}{a:Act}{w:World}{r:Option Nat}{n i:Nat}{Q:Exit->Act->World->Prop}

theorem zcF (σ : St) (i : Nat) (dst : Option Nat) (fp : List (Nat × Bool)) (d : DV) (u : List (Nat × AO)) (L : Nat) :
  σ.upd i dst fp d u [L]=⟨Ub dst d (kills (fO [L]) σ.env),u ++ kills (dX [L]) σ.aC,σ.log⟩:=by
 cases dst <;> rfl

theorem CE {t e : TypeId} {ty : TypeId} {ie : TypeInfo} {base m m' s : Nat} {v x : Value} {xs news : List Value} (hu : P.underlying t = some (.slice e)) (hi : P.info? e = some ie)
    {z:Value} (hz:ie.zero=some z) (hzs:z.cells.size=ie.size) (hs:ie.size=s) (hpos:0 < s) (hbase:base<=w.heap.size) (hown:w.ownsRow base e s v m xs) (hsrc:zxs w x m' s news)
    (hlen:m+m'<=9223372036854775807) (hbytes:(m+m') * ie.bytes<=140737488355328) :
    ∃ v' w',(Builtin.append_ #[t,t] ty #[v,x]).run P w=.ok v' w'/\w'.ownsRow base e s v' (m+m') (xs ++ news)/\GrB w w' v.ownBlock/\(v'.ownBlock=v.ownBlock\/v'.ownBlock=some w.heap.size) /\
      v'.oneCell'=true:=by
  have hvs:∃ ad c,v=.slice ad m c:=by
    rcases hown.2 with ⟨h1,h2⟩ | ⟨k,cap,cur,h1,_⟩
    · subst h2;exact⟨_,_,h1⟩
    · exact⟨_,_,h1⟩
  obtain⟨ad,c,hvs⟩:=hvs;rcases hsrc with ⟨rfl,hx | ⟨a',c',hx⟩,rfl⟩ | ⟨b,o,cap,hx,hl,hmem,h1⟩
  · subst hx;have hrun:=run_append_owned_none (P:=P) (w:=w) base t ty e ie s hu hi v m xs hown;refine⟨v,w,hrun,by simpa using hown,⟨⟨rfl,rfl,rfl,iM _,λ _ _ _=>rfl⟩,iM _⟩,.inl rfl,by rw[hvs];rfl⟩
  · subst hx
    obtain ⟨v', w', hrun, hown', hg, _⟩ := run_append_own (P := P) w base t ty e ie z s ie.bytes hu hi hz hs rfl (by rw [hzs, hs]) hpos v m xs hown a' 0 c' [] (by simp)
      (λ j u hj=>by simp at hj) (λ u hu=>by simp at hu) (by simp only[maxLen];omega) hbytes hbase
    refine⟨v',w',hrun,hown',⟨hg,EY (fC _ _ _ _ hrun)⟩,?_,?_⟩
    · rw [hvs] at hrun;have:=yO (P:=P) (t:=t) (ty:=ty) w v' w' hrun;rw[hvs];cases ad <;> exact this
    · rcases hown'.2 with ⟨h1,_⟩ | ⟨k,cap,cur,h1,_⟩ <;> rw[h1] <;> rfl
  · subst hx
    obtain ⟨v', w', hrun, hown', hg, _⟩ := run_append_own (P := P) w base t ty e ie z s ie.bytes hu hi hz hs rfl (by rw [hzs, hs]) hpos v m xs hown ⟨b, o, none⟩ m' cap news hl
      (λ j u hj=>by rw[addr_add];exact hmem j u hj) h1 (by simp only[maxLen];omega) hbytes hbase
    refine⟨v',w',hrun,hown',⟨hg,EY (fC _ _ _ _ hrun)⟩,?_,?_⟩
    · rw [hvs] at hrun;have:=yO (P:=P) (t:=t) (ty:=ty) w v' w' hrun;rw[hvs];cases ad <;> exact this
    · rcases hown'.2 with ⟨h1,_⟩ | ⟨k,cap,cur,h1,_⟩ <;> rw[h1] <;> rfl

theorem FK {t e : TypeId} {ty : TypeId} {ie : TypeInfo} {base m m' s : Nat} {v x : Value} {xs : List Value} {new : Nat → List PV} (hu : P.underlying t = some (.slice e)) (hi : P.info? e = some ie)
    {z:Value} (hz:ie.zero=some z) (hzs:z.cells.size=ie.size) (hs:ie.size=s) (hpos:0 < s) (hbase:base<=w.heap.size) (hown:w.ownsRow base e s v m xs) (hsrc:PZ g w x m' s new)
    (hlen:m+m'<=9223372036854775807) (hbytes:(m+m') * ie.bytes<=140737488355328) :
    ∃ v' w' news,(Builtin.append_ #[t,t] ty #[v,x]).run P w=.ok v' w'/\w'.ownsRow base e s v' (m+m') (xs ++ news)/\GrB w w' v.ownBlock/\(v'.ownBlock=v.ownBlock\/v'.ownBlock=some w.heap.size) /\
      v'.oneCell'=true/\news.length=m' * s/\∀ k,k < m'->RL (Rep g.h) (new k) ((news.drop (k * s)).take s):=by
  rcases hsrc with ⟨rfl,hx⟩ | ⟨b,o,cap,news,hx,hl,hmem,h1,hr⟩
  · obtain ⟨v', w', h⟩ := CE (P := P) (ty := ty) (news := []) hu hi hz hzs hs hpos hbase hown (.inl ⟨rfl, hx, rfl⟩) hlen hbytes;exact⟨v',w',[],h.1,h.2.1,h.2.2.1,h.2.2.2.1,h.2.2.2.2,by simp,λ k hk=>absurd hk (by omega)⟩
  · obtain ⟨v', w', h⟩ := CE (P := P) (ty := ty) (news := news) hu hi hz hzs hs hpos hbase hown (.inr ⟨b, o, cap, hx, hl, hmem, h1⟩) hlen hbytes;exact⟨v',w',news,h.1,h.2.1,h.2.2.1,h.2.2.2.1,h.2.2.2.2,hl,hr⟩

theorem zcG {L e s b m m' : Nat} {get new : Nat → List PV} {v' : Value} {w' : World} {xs news : List Value} (hu : pW (appG m get new)) (hv0 : 0 < s ∧ ∃ i z, P.info? e = some i ∧ i.size = s ∧ i.bytes = b ∧ i.zero = some z ∧ z.cells.size = s)
    (hx:xs.length=m * s) (hr:∀ k,k < m->RL (Rep g.h) (get k) ((xs.drop (k * s)).take s)) (_hn:news.length=m' * s) (hrn:∀ k,k < m'->RL (Rep g.h) (new k) ((news.drop (k * s)).take s))
    (hown:w'.ownsRow B e s v' (m+m') (xs ++ news)):yK P (g.setSv L v') w' B L e s b (m+m') (appG m get new):=by
  refine⟨⟨hu,hv0.1⟩,hv0.2,xs ++ news,by rw[show (g.setSv L v').sv L=v' by simp[Gh.setSv]];exact hown,?_⟩;intro k hk;show RL (Rep g.h) (match Nat.ble m k with | true=>new (k - m) | false=>get k) _;cases hb:Nat.ble m k with
  | true =>
    have hmk:=Nat.le_of_ble_eq_true hb;have e:((xs ++ news).drop (k * s)).take s=(news.drop ((k - m) * s)).take s:=by
      rw[List.drop_append,show xs.drop (k * s)=[] from dqO (by rw[hx];exact LH s hmk),List.nil_append,hx,<- Nat.sub_mul]
    rw[e];exact hrn (k - m) (by omega)
  | false =>
    have hmk:k < m:=by
      have : ¬ m<=k:=λ h=>by rw[Nat.ble_eq_true_of_le h] at hb;cases hb
      omega
    have hle:k * s+s<=m * s:=by have:=LH s (Nat.succ_le_of_lt hmk);rw[OZ] at this;exact this
    have e:((xs ++ news).drop (k * s)).take s=(xs.drop (k * s)).take s:=by
      rw[List.drop_append_of_le_length (by omega),List.take_append_of_le_length (by simp;omega)]
    rw[e];exact hr k hmk

theorem Uf {o : Oper} {args : Array Operand} {ts : Array TypeId} {A : aH} (S : bY P nt B w0 h0 g σ a w) (hd : dG nt o.dst = true) (hop : o.op = .call { callee := .builtin .append, args, argTypes := ts })
    (hA:act P Γ o (eY σ.env) (lk σ.aC)=A) (hs:A.safe):iq P nt B w0 h0 r n i o A σ a w Q:=by
  simp only[act,aAp,hop] at hA;split at hA
  · rename_i s x t t' hargs hts;split at hA
    · rename_i e dst hu htt hdst;have htt:=jk htt;subst htt;have ha:args = #[s,x]:=by rw[<- Array.toArray_toList (xs:=args),hargs]
      have ht:ts = #[t,t]:=by rw[<- Array.toArray_toList (xs:=ts),hts]
      subst ha ht;split at hA
      · rename_i ie z hi hz;obtain⟨zv,hzv,hzs⟩:=gU hz hi;have zcH:∀ (v':Value) (w':World),(Builtin.append_ #[t,t] o.type #[a.eval s,a.eval x]).run P w=.ok v' w'->(execOp a.eval o).run P w=.ok (.value v') w':=by
          intro v' w' h;refine fb hop ?_;simp only[builtin,fJ,List.map_toArray,nR,List.map_nil,h,fQ,iZ]
        unfold LM at hA;split at hA
        · rename_i m sz new YW hsrc;unfold Az at hsrc;have zcI:sz ≠ 0->PZ g w (a.eval x) m sz new:=by
            intro hsz;have hsz:0 < sz:=by omega
            split at hsrc
            · rename_i hx;simp only[bP,eQ] at hsrc;obtain⟨rfl,rfl,rfl,_⟩:=hsrc;exact zcE S hsz (iH S hx)
            · rename_i M hx;obtain⟨h1,_⟩:=gG S hx;split at hsrc
              · rename_i hM;simp only[bP,eQ] at hsrc;obtain⟨rfl,rfl,rfl,_⟩:=hsrc;rw[h1.1];exact zhU (S.obj M _ hM)
              · rename_i hM;simp only[bP,eQ] at hsrc;obtain⟨rfl,rfl,rfl,_⟩:=hsrc;rw[h1.1];exact zcE S hsz (S.obj M _ hM).1
              · cases hsrc
            · cases hsrc
          have P6:pW new:=by
            split at hsrc
            · rename_i hx;simp only[bP,eQ] at hsrc;obtain⟨rfl,rfl,rfl,_⟩:=hsrc;exact (iH S hx).un.rows.2
            · split at hsrc
              · rename_i hM;simp only[bP,eQ] at hsrc;obtain⟨rfl,rfl,rfl,_⟩:=hsrc;exact (S.obj _ _ hM).1.1
              · rename_i hM;simp only[bP,eQ] at hsrc;obtain⟨rfl,rfl,rfl,_⟩:=hsrc;exact (S.obj _ _ hM).1.un.rows.2
              · cases hsrc
            · cases hsrc
          split at hA
          · rename_i L hsL;obtain⟨h1,_⟩:=gG S hsL;split at hA
            · rename_i e' s' b' m0 get hL;split at hA
              · rename_i hcond;obtain⟨rfl,rfl,rfl,zcJ,hpos,_,hshape⟩:=hcond;subst hA;have hs':(m0+m) * ie.bytes<=140737488355328/\m0+m<=9223372036854775807:=hs;have hsz0:sz ≠ 0:=by omega
                have hsrc':=zcI hsz0;rw[zcJ] at hsrc';obtain⟨⟨Ug,hp⟩,hinfo,xs,hx,hr⟩:=S.obj L _ hL;obtain⟨v',w',news,hrun,hown',hg,hpl,hone,hnl,hrn⟩:=FK (P:=P) (ty:=o.type) hu hi hzv hzs rfl hp S.bs hx hsrc' hs'.2 hs'.1;rw[<- h1.1] at hrun;have hnz:nzG (get 0) (appG m0 get new)=appG m0 get new:=TS λ i=>by
                  unfold appG;split
                  · exact (EP hshape (Ug 0 0) (P6 0 0)).trans (P6 0 _)
                  · exact Ug 0 _
                rw[hnz];have zcD:=zcG (P:=P) (L:=L) (zhE Ug P6 (EP hshape (Ug 0 0) (P6 0 0))) ⟨hp,hinfo⟩ hx.1 hr hnl hrn hown';have S':=S.grow (dst:=o.dst) hL hd hg (hpl.imp id .inl) zcD hone σ.log;refine mr (by simp[hop]) (zcH v' w' hrun) ⟨g.setSv L v',σ.upd i o.dst ((L,true) :: YW) (.cl (.vec L)) [(L,.vec e' ie.size ie.bytes (m0+m) (appG m0 get new))] [L],rfl,?_⟩;rw[zcF];exact S'
              · subst hA;exact hs.elim
            · subst hA;exact hs.elim
          · rename_i hsN;split at hA
            · rename_i hfresh;split at hA
              · rename_i hcond;obtain⟨zcJ,hpos⟩:=hcond;subst hA;have hs':m * ie.bytes<=140737488355328/\m<=9223372036854775807:=hs;have hsrc':=zcI (by omega);have hnil:a.eval s=.slice none 0 0:=by
                  have:=iH S hsN;generalize a.eval s=v at this;cases this;rfl
                obtain ⟨v', w', news, hrun, hown', hg, hpl, hone, hnl, hrn⟩ := FK (P := P) (ty := o.type) (base := w.heap.size) (m := 0) (v := .slice none 0 0) (xs := []) hu hi hzv hzs zcJ.symm hpos (iM _)
                  (World.ownsRow_nil w _ e sz) hsrc' (by omega) (by rw[Nat.zero_add];exact hs'.1)
                rw[<- hnil] at hrun;rw[Nat.zero_add,List.nil_append] at hown';have zxt:w'.ownsRow B e sz v' m news:=by
                  refine⟨hown'.1,?_⟩;rcases hown'.2 with h | ⟨k,cap,cur,h1,h2,h3⟩
                  · exact .inl h
                  · exact .inr ⟨k,cap,cur,h1,Ci S.bs h2,h3⟩
                have zcD:yK P (g.setSv dst v') w' B dst e sz ie.bytes m new:=by
                  refine⟨⟨P6,hpos⟩,⟨ie,zv,hi,zcJ.symm,rfl,hzv,by rw[hzs,zcJ]⟩,news,?_,hrn⟩;rw[show (g.setSv dst v').sv dst=v' by simp[Gh.setSv]];exact zxt
                have hold:∀ b,b < w.heap.size->w'.heap[b]? = w.heap[b]?:=λ b hb=>hg.block b hb (by simp[Value.ownBlock])
                have S' := S.newVec (t := dst) (w' := w') hfresh ⟨⟨hg.os, hg.tape, hg.output, hg.size, fun k hk => hold k (dqS hk S.bs)⟩, hg.drawn⟩ hold
                  (λ b hb=>(hown'.lt b hb).1) zcD
                refine mr (by simp[hop]) (zcH v' w' hrun) ⟨g.setSv dst v',σ.upd i o.dst ((dst,true) :: YW) (.cl (.vec dst)) [(dst,.vec e sz ie.bytes m new)] [],rfl,?_⟩;rw[eH];refine S'.put (v:=v') hd (d:=.cl (.vec dst)) ⟨by simp[Gh.setSv],hone⟩ ?_ _;intro L hL;simp[cu,cZ,bu] at hL;subst hL;exact⟨_,by rw[aW,if_pos rfl]⟩
              · subst hA;exact hs.elim
            · subst hA;exact hs.elim
          · subst hA;exact hs.elim
        · subst hA;exact hs.elim
      · subst hA;exact hs.elim
    · subst hA;exact hs.elim
  · subst hA;exact hs.elim
end
end Go.Pm
namespace Go.Pm
variable [aJ]
open Go.RowKit (Below)
open Go.MapKept (IsKey findNow_spec run_checkKey)

section
variable {P:Program}{w:World}

abbrev VI (xs:List Int):List Value:=xs.map (Value.int .i64)
def mkI (ag:Bool) (c:List Int):Value:=match ag with
 | true=>pg c
 | false=>.int .i64 (c.headD 0)

theorem nI {t : TypeId} {ag : Bool} {n off : Nat} {xs : List Int} (hg : iF P t = some ag) (hs : mP P t = some n) (h1 : ag = false → n = 1) (hl : off + n ≤ xs.length) :
  (part t (VI xs).toArray off).run P w=.ok (mkI ag ((xs.drop off).take n)) w:=by
 cases ag with
 | true =>
  simp only[part,fJ,kZ hg,fQ,if_true,run_sizeOf hs,iZ];simp[mkI,pg,List.extract_toArray,List.extract_eq_take_drop,List.map_take,List.map_drop]
 | false =>
  have:=h1 rfl;subst this;have hlt:off < xs.length:=by omega
  simp only[part,fJ,kZ hg,fQ,Bool.false_eq_true,if_false];rw[show (VI xs).toArray[off]? = some (.int .i64 xs[off]) by simp[hlt]];rw[dqR hlt];rfl

theorem take_split (xs:List Int) (m k r:Nat):(xs.drop m).take (k+r)=(xs.drop m).take k ++ (xs.drop (m+k)).take r:=by
 rw[List.take_add,List.drop_drop]
theorem WW {a b c d:List Int}(h:a.length=b.length):decide (a ++ c=b ++ d)=(decide (a=b) && decide (c=d)):=by
 by_cases h1:a=b
 ·subst h1;simp
 ·have : ¬ (a ++ c = b ++ d) := fun e => h1 (List.append_inj e h).1;simp[h1,this]
theorem take_len {xs:List Int}{m k:Nat}(h:m+k<=xs.length):((xs.drop m).take k).length=k:=by
 rw[List.length_take,List.length_drop];omega

theorem qU {d:Nat}{t:TypeId}{n:Nat}{ag:Bool}(h:jg P d t=some n) (hg:iF P t=some ag):ag=false->n=1:=by
 intro e;subst e;cases d with
 | zero=>simp[jg] at h
 | succ d =>
  simp only[jg] at h;split at h
  ·split at h
   ·split at h
    ·simp only[bP] at h;exact h.symm
    ·cases h
   ·cases h
  ·rename_i hu;simp[iF,hu] at hg
  ·rename_i hu;simp[iF,hu] at hg
  ·cases h

def CG (P : Program) (d : Nat) : Option Nat → Field → Option Nat := fun acc f => match acc, f.name != "_", jg P d f.type, mP P f.type with
 | some m,true,some n,some n'=>match Nat.beq f.offset m && Nat.beq n n' with
  | true=>some (m+n)
  | false=>none
 | _,_,_,_=>none
theorem FM {d : Nat} : ∀ l : List Field, l.foldl (CG P d) none = none
  | []=>rfl
  | f :: l=>by rw[List.foldl_cons,show CG P d none f=none from rfl];exact FM l
theorem FN {d : Nat} {f : Field} {l : List Field} {m n : Nat} (h : (f :: l).foldl (CG P d) (some m) = some n) :
  ∃ k, jg P d f.type = some k ∧ mP P f.type = some k ∧ f.name ≠ "_" ∧ f.offset = m ∧ l.foldl (CG P d) (some (m + k)) = some n := by
 rw[List.foldl_cons] at h;cases hs:CG P d (some m) f with
 | none=>rw[hs,FM] at h;cases h
 | some q =>
  rw[hs] at h;unfold CG at hs;split at hs
  ·rename_i m' k k' e1 e2 e3 e4;simp only[bP] at e1;subst e1;split at hs
   ·rename_i hb;simp only[fA] at hb;have h1:=jk hb.1;have h2:=jk hb.2;simp only[bP] at hs;subst hs;subst h2;exact⟨k,e3,e4,by simpa using e2,h1,h⟩
   ·cases hs
  ·cases hs

theorem Kw {d : Nat} : ∀ (l : List Field) (m q : Nat), l.foldl (CG P d) (some m) = some q → m ≤ q ∧ ∀ f ∈ l, f.name ≠ "_" ∧ ∃ k, jg P d f.type = some k ∧ mP P f.type = some k ∧ f.offset + k ≤ q
  | [],m,q,h=>by
    simp only[List.foldl_nil,bP] at h;subst h;exact⟨iM _,λ f hf=>by simp at hf⟩
  | f :: l,m,q,h=>by
    obtain⟨k,h1,h2,h3,h4,h5⟩:=FN h;obtain⟨h6,h7⟩:=Kw l (m+k) q h5;refine⟨by omega,λ g hg=>?_⟩;rcases jm.1 hg with rfl | hg
    · exact⟨h3,k,h1,h2,by omega⟩
    · exact h7 g hg
theorem mY {d:Nat}{t:TypeId}{n:Nat}(h:jg P d t=some n):∃ ag,iF P t=some ag:=by
 cases d with
 | zero=>simp[jg] at h
 | succ d =>
  simp only[jg] at h;cases hu:P.underlying t with
  | none=>rw[hu] at h;cases h
  | some x=>unfold iF;rw[hu];exact⟨_,rfl⟩

theorem D9:∀ (d:Nat) (t:TypeId) (n:Nat) (ag:Bool),jg P d t=some n->iF P t=some ag->∀ (e:Nat) (xs ys:List Int),xs.length=n->ys.length=n ->
  (Op.equalIn (d+e) t (mkI ag xs) (mkI ag ys)).run P w=.ok (decide (xs=ys)) w
 | 0,t,n,ag,h,_=>by simp[jg] at h
 | d+1,t,n,ag,h,hg=>by
  intro e xs ys hx hy;rw[show d+1+e=(d+e)+1 by omega];have h0:=h;simp only[jg] at h;split at h
  ·rename_i hu;have hag:ag=false:=by simp[iF,hu] at hg;exact hg
   subst hag;have hn:=qU h0 hg rfl;subst hn
   match xs,ys,hx,hy with
   | [x],[y],_,_ =>
    simp only[mkI,List.headD_cons];rw[run_equalIn_int w (d+e) t .i64 .i64 x y hu];by_cases hxy:x=y <;> simp[hxy]
  ·rename_i fs hu;split at h
   ·cases h
   ·rename_i hst;have hag:ag=true:=by simp[iF,hu] at hg;exact hg
    subst hag;have hf:P.fieldsOf t=fs:=by simp[Program.fieldsOf,hu]
    simp only[mkI,pg];rw[run_equalIn_struct w (d+e) t _ _ (by rw[hf];exact hu) hst,hf]
    have key:∀ (l:List Field) (m q:Nat),l.foldl (CG P d) (some m)=some q->q<=xs.length->q<=ys.length ->
      m<=q/\(Op.eqFields (d+e) (VI xs).toArray (VI ys).toArray l).run P w=.ok (decide ((xs.drop m).take (q - m)=(ys.drop m).take (q - m))) w:=by
     intro l
     induction l with
     | nil =>
      intro m q hq _ _;simp only[List.foldl_nil,bP] at hq;subst hq;exact⟨iM _,by simp[Op.eqFields]⟩
     | cons f l ih =>
      intro m q hq hxl hyl;obtain⟨k,h1,h2,h3,h4,h5⟩:=FN hq;obtain⟨hle,hr⟩:=ih (m+k) q h5 hxl hyl;obtain⟨ag',hag'⟩:=mY h1;have hk1:=qU h1 hag';refine⟨by omega,?_⟩;have p1:=nI (w:=w) (xs:=xs) (off:=m) hag' h2 hk1 (by omega);have p2:=nI (w:=w) (xs:=ys) (off:=m) hag' h2 hk1 (by omega);have p3:=D9 d f.type k ag' h1 hag' e ((xs.drop m).take k) ((ys.drop m).take k) (take_len (by omega)) (take_len (by omega));rw[show q - m=k+(q - (m+k)) by omega,take_split,take_split,WW (by rw[take_len (by omega),take_len (by omega)])];simp only[Op.eqFields,h3,ne_eq,not_false_eq_true,if_true,fJ,h4,p1,p2,p3,fQ];cases hd:decide (List.take k (List.drop m xs)=List.take k (List.drop m ys)) with
      | false=>simp
      | true=>simpa using hr
    have:=(key fs.toList 0 n h (by omega) (by omega)).2;rw[this];simp only[List.drop_zero,Nat.sub_zero];rw[List.take_of_length_le (by omega),List.take_of_length_le (by omega)]
  ·rename_i m0 e0 hu;split at h
   ·rename_i m m' hm hm';split at h
    ·rename_i hb;have hmm:=jk hb;subst hmm;simp only[bP] at h;have hag:ag=true:=by simp[iF,hu] at hg;exact hg
     subst hag;obtain⟨ag',hag'⟩:=mY hm;have hk1:=qU hm hag';obtain⟨i,hi,his⟩:∃ i,P.info? e0=some i/\i.size=m:=by
      unfold mP at hm';cases hi:P.info? e0 with
      | none=>rw[hi] at hm';cases hm'
      | some i=>rw[hi] at hm';simp only[Option.map_some,bP] at hm';exact⟨i,rfl,hm'⟩
     have hc:P.cellsOf e0=m:=by simp[Program.cellsOf,hi,his]
     simp only[mkI,pg];rw[run_equalIn_array w (d+e) _ _ hu hi,hc,List.range_eq_range'];have key:∀ (k s:Nat),(s+k) * m<=xs.length->(s+k) * m<=ys.length->(Op.eqItems (d+e) e0 m (VI xs).toArray (VI ys).toArray (List.range' s k)).run P w=.ok (decide ((xs.drop (s * m)).take (k * m)=(ys.drop (s * m)).take (k * m))) w:=by
      intro k
      induction k with
      | zero=>intro s _ _;simp[Op.eqItems]
      | succ k ih =>
       intro s hxl hyl;have e1:(s+(k+1)) * m=s * m+(k+1) * m:=Nat.add_mul _ _ _;have e2:(k+1) * m=m+k * m:=by rw[OZ,Nat.add_comm]
       have e3:(s+1) * m=s * m+m:=OZ _ _;have hr:=ih (s+1) (by rw[show s+1+k=s+(k+1) by omega];exact hxl) (by rw[show s+1+k=s+(k+1) by omega];exact hyl);have p1:=nI (w:=w) (xs:=xs) (off:=s * m) hag' hm' hk1 (by omega);have p2:=nI (w:=w) (xs:=ys) (off:=s * m) hag' hm' hk1 (by omega);have p3:=D9 d e0 m ag' hm hag' e ((xs.drop (s * m)).take m) ((ys.drop (s * m)).take m) (take_len (by omega)) (take_len (by omega));rw[e2,take_split,take_split,WW (by rw[take_len (by omega),take_len (by omega)])];rw[List.range'_succ];simp only[Op.eqItems,fJ,p1,p2,p3,fQ];rw[e3] at hr;cases hd:decide (List.take m (List.drop (s * m) xs)=List.take m (List.drop (s * m) ys)) with
       | false=>simp
       | true=>simpa using hr
     have:=key m0 0 (by rw[Nat.zero_add,h];omega) (by rw[Nat.zero_add,h];omega);rw[this];simp only[Nat.zero_mul,List.drop_zero,h];rw[List.take_of_length_le (by omega),List.take_of_length_le (by omega)]
    ·cases h
   ·cases h
  ·cases h

theorem sG:∀ (d:Nat) (t:TypeId) (n:Nat) (ag em:Bool),jg P d t=some n->iF P t=some ag->∀ (e:Nat) (xs:List Int),xs.length=n ->
  (Instr.checkKey em (d+e) t (mkI ag xs)).run P w=.ok () w
 | 0,t,n,ag,em,h,_=>by simp[jg] at h
 | d+1,t,n,ag,em,h,hg=>by
  intro e xs hx;rw[show d+1+e=(d+e)+1 by omega];have h0:=h;simp only[jg] at h;split at h
  ·rename_i hu;have hag:ag=false:=by simp[iF,hu] at hg;exact hg
   subst hag;simp only[mkI,Instr.checkKey,fJ,run_underlying hu,fQ,iZ]
  ·rename_i fs hu;split at h
   ·cases h
   ·rename_i hst;have hag:ag=true:=by simp[iF,hu] at hg;exact hg
    subst hag;simp only[mkI,pg,Instr.checkKey,fJ,run_underlying hu,fQ];rw[<- Array.forIn_toList];have deep:=(Kw fs.toList 0 n h).2;clear h h0;generalize fs.toList=L at deep
    induction L with
    | nil=>simp
    | cons f L ih =>
     obtain⟨hn,k,h1,h2,h3⟩:=deep f (by simp);obtain⟨ag',hag'⟩:=mY h1;have p1:=nI (w:=w) (xs:=xs) (off:=f.offset) hag' h2 (qU h1 hag') (by omega);have p3:=sG d f.type k ag' em h1 hag' e ((xs.drop f.offset).take k) (take_len (by omega));simp only[List.forIn_cons,fJ,hn,ne_eq,not_false_eq_true,if_true,fQ,p1,p3,iZ];exact ih λ y hy=>deep y (by simp[hy])
  ·rename_i m0 e0 hu;split at h
   ·rename_i m m' hm hm';split at h
    ·rename_i hb;have hmm:=jk hb;subst hmm;simp only[bP] at h;have hag:ag=true:=by simp[iF,hu] at hg;exact hg
     subst hag;obtain⟨ag',hag'⟩:=mY hm;have hk1:=qU hm hag';simp only[mkI,pg,Instr.checkKey,fJ,run_underlying hu,fQ];simp only[Std.Legacy.Range.forIn_eq_forIn_range',Std.Legacy.Range.size,Nat.sub_zero,Nat.add_one_sub_one,Nat.div_one];have deep:∀ i∈List.range' 0 m0,i * m+m<=xs.length:=λ i hi=>by
      have hlt:i < m0:=by simp at hi;exact hi
      have:(i+1) * m<=m0 * m:=LH _ hlt;rw[OZ] at this;omega
     generalize List.range' 0 m0=is at deep
     induction is with
     | nil=>simp
     | cons i is ih =>
      have h3:=deep i (by simp);have p1:=nI (w:=w) (xs:=xs) (off:=i * m) hag' hm' hk1 h3;have p3:=sG d e0 m ag' em hm hag' e ((xs.drop (i * m)).take m) (take_len h3);simp only[List.forIn_cons,fJ,run_sizeOf hm',fQ,p1,p3,iZ];exact ih λ y hy=>deep y (by simp[hy])
    ·cases h
   ·cases h
  ·cases h

theorem Uh (kf:KF) (c:List Int):Instr.sameBits 10000 (dV kf c) (dV kf c)=true:=by
 cases kf with
 | one=>simp[dV,Instr.sameBits]
 | ints =>
  have key:∀ (l:List Int) (m:Nat),((VI l).zip (VI l)).all (λ (x,y)=>Instr.sameBits (m+1) x y)=true:=by
   intro l m
   induction l with
   | nil=>rfl
   | cons a l ih =>
    simp only[VI,nR,List.zip_cons_cons,List.all_cons,fA];exact⟨by simp[Instr.sameBits],ih⟩
  simp only[dV,pg,Instr.sameBits];simp only[beq_self_eq_true,Bool.true_and];exact key c 9998

theorem uX {k : TypeId} {kf : KF} {n : Nat} (h : LJ P k = some (kf, n)) :
  (kf=.ints/\jg P 8 k=some n/\iF P k=some true)\/(kf=.one/\jg P 8 k=some n/\iF P k=some false/\n=1):=by
 unfold LJ at h;split at h
 ·rename_i h1 h2;simp only[bP,eQ] at h;obtain⟨rfl,rfl⟩:=h;exact .inl ⟨rfl,h1,h2⟩
 ·rename_i h1 h2;split at h
  ·rename_i hb;simp only[bP,eQ] at h;obtain⟨rfl,rfl⟩:=h;exact .inr ⟨rfl,h1,h2,jk hb⟩
  ·cases h
 ·cases h
theorem Ea {k:TypeId}{kf:KF}{n:Nat}(h:LJ P k=some (kf,n)):kf=.one->n=1:=by
 rintro rfl;rcases uX h with ⟨e,_⟩ | ⟨_,_,_,h⟩
 ·cases e
 ·exact h
theorem zoQ {k : TypeId} {kf : KF} {n : Nat} (h : LJ P k = some (kf, n)) {xs ys : List Int} (hx : xs.length = n) (hy : ys.length = n) :
  (Op.equalIn 10000 k (dV kf xs) (dV kf ys)).run P w=.ok (decide (xs=ys)) w:=by
 rcases uX h with ⟨rfl,h1,h2⟩ | ⟨rfl,h1,h2,_⟩
 ·exact D9 (w:=w) 8 k n true h1 h2 9992 xs ys hx hy
 ·exact D9 (w:=w) 8 k n false h1 h2 9992 xs ys hx hy
theorem Ky {k : TypeId} {kf : KF} {n : Nat} (em : Bool) (h : LJ P k = some (kf, n)) {xs : List Int} (hx : xs.length = n) :
  (Instr.checkKey em 10000 k (dV kf xs)).run P w=.ok () w:=by
 rcases uX h with ⟨rfl,h1,h2⟩ | ⟨rfl,h1,h2,_⟩
 ·exact sG (w:=w) 8 k n true em h1 h2 9992 xs hx
 ·exact sG (w:=w) 8 k n false em h1 h2 9992 xs hx

theorem uY {kt n:Nat}{ag:KF}(h:LJ P kt=some (ag,n)) {c:List Int}(hc:c.length=n):∀ (es:List MapEntry) (en:List (List Int×List Int)) (i:Nat),
  es.map (·.key)=en.map (λ x=>dV ag x.1)->(∀ x∈en,x.1.length=n) ->
   ((Instr.findAsking kt (dV ag c) es i).run P w=.ok none w/\∀ x∈en,x.1 ≠ c) \/
   ∃ (j:Nat) (e:MapEntry) (v:List Int),(Instr.findAsking kt (dV ag c) es i).run P w=.ok (some (i+j,e.val)) w/\es[j]? = some e/\en[j]? = some (c,v)
 | [],[],i,_,_=>.inl ⟨by simp[Instr.findAsking],by simp⟩
 | [],_ :: _,i,hk,_=>by simp at hk
 | _ :: _,[],i,hk,_=>by simp at hk
 | e :: es,(k,v) :: en,i,hk,hl=>by
  simp only[nR,Cf] at hk;have q:=zoQ (w:=w) h hc (hl _ jS);have q':(Op.equal kt (dV ag c) e.key).run P w=.ok (decide (c=k)) w:=by rw[hk.1];exact q
  by_cases hck:c=k
  ·subst hck;refine .inr ⟨0,e,v,?_,rfl,rfl⟩;simp only[Instr.findAsking,fJ,q',fQ,decide_true,if_true,iZ,Nat.add_zero]
  ·rcases uY h hc es en (i + 1) hk.2 (fun x hx => hl x (jc _ hx)) with ⟨h1, h2⟩ | ⟨j, e', v', h1, h2, h3⟩
   ·refine .inl ⟨?_, fun x hx => ?_⟩
    ·simp only [Instr.findAsking, fJ, q', fQ, hck, decide_false, Bool.false_eq_true, if_false];exact h1
    ·rcases jm.1 hx with rfl | hx
     ·exact λ e=>hck e.symm
     ·exact h2 x hx
   ·refine .inr ⟨j + 1, e', v', ?_, by simpa using h2, by simpa using h3⟩;simp only[Instr.findAsking,fJ,q',fQ,hck,decide_false,Bool.false_eq_true,if_false];rw[h1,show i+1+j=i+(j+1) by omega]

theorem run_findKey {kt n : Nat} {ag : KF} (h : LJ P kt = some (ag, n)) {c : List Int} (hc : c.length = n) (es : List MapEntry) (en : List (List Int × List Int))
    (hk : es.map (·.key) = en.map (fun x => dV ag x.1)) (hl : ∀ x ∈ en, x.1.length = n) :
      ((Instr.findKey kt (dV ag c) es).run P w=.ok none w/\∀ x∈en,x.1 ≠ c) \/
      ∃ (j:Nat) (e:MapEntry) (v:List Int),(Instr.findKey kt (dV ag c) es).run P w=.ok (some (j,e.val)) w/\es[j]? = some e/\en[j]? = some (c,v):=by
  by_cases hone:ag=.one
  · subst hone;have hn:=Ea h rfl;subst hn;have hu:P.underlying kt=some (.int .i64):=by
      obtain⟨h,hg⟩:jg P 8 kt=some 1/\iF P kt=some false:=by
        rcases uX h with ⟨e,_⟩ | ⟨_,h1,h2,_⟩
        · cases e
        · exact⟨h1,h2⟩
      simp only[jg] at h;split at h
      · assumption
      · rename_i hu;simp[iF,hu] at hg
      · rename_i hu;simp[iF,hu] at hg
      · cases h
    match c,hc with
    | [a],_ =>
      have hkeys:∀ x∈es,IsKey (.int .i64) x.key:=by
        intro x hx;have:x.key∈en.map (λ x=>dV .one x.1):=hk ▸ uF.2 ⟨x,hx,rfl⟩;obtain⟨y,_,hy⟩:=uF.1 this;rw[<- hy];exact WR _
      have hat:∀ (j:Nat) (e:MapEntry),es[j]? = some e->∃ k v,en[j]? = some ([k],v)/\e.key=.int .i64 k:=by
        intro j e he;have h1:(es.map (·.key))[j]? = some e.key:=by simp[he]
        rw[hk] at h1;simp only[WA,TJ] at h1;obtain⟨⟨k,v⟩,h2,h3⟩:=h1;have hkl:=hl _ (Ez h2)
        match k,hkl with
        | [k0],_=>exact⟨k0,v,h2,h3.symm⟩
      simp only[dV,List.headD_cons];rcases findNow_spec (WR a) es 0 hkeys with ⟨h1,h2⟩ | ⟨jj,e',h1,h2,h3⟩
      · refine .inl ⟨by simp only [Instr.findKey, fJ, run_underlying hu, fQ, h1, iZ], fun x hx e => ?_⟩;obtain⟨j,hj⟩:=List.getElem?_of_mem hx;have hlen:es.length=en.length:=by have:=congrArg List.length hk;simpa using this
        have hjl:j < es.length:=by rw[hlen];exact (xy.1 hj).1
        obtain⟨k,v,h4,h5⟩:=hat j es[j] (yz hjl);rw[hj] at h4;simp only[bP] at h4;rw[h4] at e;simp only[Cf,and_true] at e;subst e;exact h2 es[j] (List.getElem_mem hjl) h5
      · obtain ⟨k, v, h4, h5⟩ := hat jj e' h2;rw[h3] at h5;simp only[Value.int.injEq,true_and] at h5;subst h5;exact .inr ⟨jj,e',v,by simp only[Instr.findKey,fJ,run_underlying hu,fQ,h1,iZ,Nat.zero_add],h2,h4⟩
  · have hg:iF P kt=some true:=by
      rcases uX h with ⟨_,_,h2⟩ | ⟨e,_⟩
      · exact h2
      · exact absurd e hone
    have hkv:∀ c:List Int,∃ l,dV ag c=.agg l:=λ c=>by
      cases ag with
      | one=>exact absurd rfl hone
      | ints=>exact⟨_,rfl⟩
    match es,en,hk with
    | [],[],_ =>
      refine .inl ⟨?_,by simp⟩;obtain⟨x,hu⟩:∃ x,P.underlying kt=some x:=by
        cases hu:P.underlying kt with
        | none=>simp[iF,hu] at hg
        | some x=>exact⟨x,rfl⟩
      simp only[Instr.findKey,fJ,run_underlying hu,fQ,Instr.findNow,iZ]
    | [],_ :: _,hk=>simp at hk
    | _ :: _,[],hk=>simp at hk
    | e :: es,x :: en,hk =>
      have hke:e.key=dV ag x.1:=by simp only[nR,Cf] at hk;exact hk.1
      have hf:(Instr.findKey kt (dV ag c) (e :: es)).run P w=(Instr.findAsking kt (dV ag c) (e :: es)).run P w:=by
        obtain⟨y,hu⟩:∃ y,P.underlying kt=some y:=by
          cases hu:P.underlying kt with
          | none=>simp[iF,hu] at hg
          | some y=>exact⟨y,rfl⟩
        have hs:Instr.findNow y (dV ag c) (e :: es) 0=none:=by
          obtain⟨l1,e1⟩:=hkv c;obtain⟨l2,e2⟩:=hkv x.1;simp only[Instr.findNow,hke,e1,e2];have:Instr.sameNow y (.agg l1) (.agg l2)=none:=by
            cases y <;> rfl
          rw[this]
        simp only[Instr.findKey,fJ,run_underlying hu,fQ,hs]
      rw[hf];rcases uY (w:=w) h hc (e :: es) (x :: en) 0 hk hl with h1 | ⟨j,e',v,h1,h2,h3⟩
      · exact .inl h1
      · exact .inr ⟨j,e',v,by rw[h1,Nat.zero_add],h2,h3⟩

theorem FO {c : List Int} : ∀ {en : List (List Int × List Int)}, (∀ x ∈ en, x.1 ≠ c) → kS c en = none
  | [],_=>rfl
  | (k,v) :: r,h=>by
    simp only[kS];rw[if_neg (h _ jS)];exact FO λ x hx=>h x (jc _ hx)
theorem FP {c v : List Int} : ∀ {en : List (List Int × List Int)} {j : Nat}, (en.map (·.1)).Nodup → en[j]? = some (c, v) → kS c en = some v
  | [],j,_,h=>by simp at h
  | (k,u) :: r,j,hn,h=>by
    simp only[nR,List.nodup_cons] at hn;simp only[kS];cases j with
    | zero=>simp at h;rw[if_pos h.1,h.2]
    | succ j =>
      simp only[TR] at h;rw[if_neg (λ e=>hn.1 (uF.2 ⟨_,Ez h,e.symm⟩))];exact FP hn.2 h

end
end Go.Pm
namespace Go.Pm
variable [aJ]
open Go.RowKit (Below)

section
variable {P:Program}{Γ:bf}{nt B:Nat}{w0:World}{h0:Fz}{g:Gh}{σ:St}{a:Act}{w:World}{r:Option Nat}{n i:Nat}{Q:Exit->Act->World->Prop}

theorem zhW (k:Option IntKind) (x:Int):gX g (.p (zck k x)) (cellV k x):=by
 cases k with
 | none=>exact .bool _
 | some k=>exact .int _ _
theorem zcL (o : Option (List Int)) : ∀ (ks : List (Option IntKind)) (i : Nat), RL (gX g) ((zoy o i ks).map .p) (nT o i ks)
  | [],_=>trivial
  | k :: ks,i=>⟨zhW k _,zcL o ks (i+1)⟩
theorem zoR {uG:Bool}{ks:List (Option IntKind)}{o:Option (List Int)}{d:D1}(h:zcl uG ks o=some d):wZ g d (jK uG ks o):=by
 have hr:=zcL (g:=g) o ks 0;unfold zcl at h;cases uG with
 | true =>
  simp only[bP] at h;rw[<- h];exact⟨_,rfl,hr⟩
 | false =>
  split at h
  ·rename_i l e;cases e
  ·rename_i v _ e;simp only[bP] at h;rw[<- h];rw[e] at hr;cases hc:nT o 0 ks with
   | nil=>rw[hc] at hr;exact hr.elim
   | cons x l=>rw[hc] at hr;simp only[jK,hc,List.headD_cons];exact hr.1
  ·cases h
theorem P7 {uG:Bool}{ks:List (Option IntKind)}{o:Option (List Int)}{d:D1}(h:zcl uG ks o=some d):cZ d=[]:=by
 unfold zcl at h;split at h
 ·simp only[bP] at h;rw[<- h];exact lq _
 ·simp only[bP] at h;rw[<- h];rfl
 ·cases h

def zmH (c:Cl) (acc:Option (List (Option IntKind))):Option (List (Option IntKind)):=match c,acc with
 | .p (.int k (.ofNat 0)),some l=>some (some k :: l)
 | .p (.bool false),some l=>some (none :: l)
 | _,_=>none
theorem xH : ∀ (vs : List Value) (cs : List Cl) (ks : List (Option IntKind)) (i : Nat), iE vs = some cs → cs.foldr zmH (some []) = some ks → vs = nT none i ks
  | [],cs,ks,i,h1,h2=>by
    simp only[iE,bP] at h1;subst h1;simp only[List.foldr_nil,bP] at h2;subst h2;rfl
  | v :: vs,cs,ks,i,h1,h2=>by
    simp only[iE] at h1;split at h1
    · rename_i x l hx hl;simp only[bP] at h1;subst h1;rw[List.foldr_cons] at h2;unfold zmH at h2;split at h2
      · rename_i k l' e1 e2;simp only[bP] at h2;subst h2;simp only[Cl.p.injEq] at e1;rw[xH vs l l' (i+1) hl e2];have:v=.int k 0:=by
          rw[e1] at hx;unfold rX at hx;split at hx <;> simp at hx;obtain⟨rfl,rfl⟩:=hx;rfl
        rw[this];rfl
      · rename_i l' e1 e2;simp only[bP] at h2;subst h2;simp only[Cl.p.injEq] at e1;rw[xH vs l l' (i+1) hl e2];have:v=.bool false:=by
          rw[e1] at hx;unfold rX at hx;split at hx <;> simp at hx;subst hx;rfl
        rw[this];rfl
      · cases h2
    · cases h1

structure zhX (P : Program) (kt vt : Nat) (ag : KF) (m : Nat) (uG : Bool) (ks : List (Option IntKind)) : Prop where
  key:LJ P kt=some (ag,m)
  zero:∀ w,(zeroValue vt).run P w=.ok (jK uG ks none) w
  one:uG=false->ks.length=1
theorem P8 {kt vt:Nat}{ag:KF}{m:Nat}{uG:Bool}{ks:List (Option IntKind)}(h:EG P kt vt=some (ag,m,uG,ks)):zhX P kt vt ag m uG ks:=by
 unfold EG at h;split at h
 ·rename_i ag' m' ks' zxu h1 h3 h4;have zero:∀ z,(P.info? vt).bind (·.zero)=some z->∀ w,(zeroValue vt).run P w=.ok z w/\z.cells.toList=nT none 0 ks':=by
   intro z hz w;unfold zcj at h3;split at h3
   ·rename_i zc hzc;obtain⟨i,v,hi,hv,ho,_⟩:=jG hzc;rw[hi] at hz;simp only[Option.bind_some,hv,bP] at hz;subst hz;exact⟨jq hi hv,xH _ _ _ 0 ho h3⟩
   ·cases h3
  cases hb:(zxu || Nat.beq ks'.length 1) with
  | false=>rw[hb] at h;cases h
  | true =>
   rw[hb] at h;cases hz:(P.info? vt).bind (·.zero) with
   | none=>rw[hz] at h;cases h
   | some z =>
    rw[hz] at h;cases zxu with
    | true =>
     cases z with
     | agg cs =>
      simp only[bP,eQ] at h;obtain⟨rfl,rfl,rfl,rfl⟩:=h;refine⟨h1,λ w=>?_,λ e=>by cases e⟩;obtain⟨r1,r2⟩:=zero _ hz w;rw[r1];simp only[Value.cells] at r2;simp only[jK,<- r2]
     | _=>cases h
    | false =>
     have hlen:ks'.length=1:=by
      simp only[Bool.false_or] at hb;exact jk hb
     have fin:z.cells.toList=[z]->some (ag',m',false,ks')=some (ag,m,uG,ks)->zhX P kt vt ag m uG ks:=by
      intro hcz h;simp only[bP,eQ] at h;obtain⟨rfl,rfl,rfl,rfl⟩:=h;refine⟨h1,λ w=>?_,λ _=>hlen⟩;obtain⟨r1,r2⟩:=zero _ hz w;rw[r1];rw[hcz] at r2;simp only[jK,<- r2,List.headD_cons]
     cases z with
     | agg cs=>cases h
     | _=>exact fin rfl h
 ·cases h

theorem zcM {ag:KF}{m:Nat}{d:DV}{c:List Int}{v:Value}(h:zhx ag m d=some c) (hag:ag=.one->m=1) (hv:o6 g d v):v=dV ag c/\c.length=m:=by
 unfold zhx at h;split at h
 ·rename_i cs;split at h
  ·rename_i l hl;split at h
   ·rename_i hb;simp only[bP] at h;subst h;obtain⟨vs,rfl,hr⟩:=hv;exact⟨by rw[WS hl hr];rfl,jk hb⟩
   ·cases h
  ·cases h
 ·simp only [bP] at h;subst h;cases hv;exact⟨rfl,(hag rfl).symm⟩
 ·cases h

theorem Eb : ∀ (ks : List (Option IntKind)) (cs : List Cl) (l : List Int) (vs : List Value) (pre : List Int), qI ks cs = some l → RL (gX g) cs vs → vs = nT (some (pre ++ l)) pre.length ks
  | [],[],l,[],pre,h,_=>rfl
  | [],[],_,_ :: _,_,_,hr=>hr.elim
  | [],_ :: _,l,vs,pre,h,_=>by simp[qI] at h
  | k :: ks,[],l,vs,pre,h,_=>by cases k <;> simp[qI] at h
  | k :: ks,c :: cs,l,[],pre,h,hr=>hr.elim
  | k :: ks,c :: cs,l,v :: vs,pre,h,hr=>by
    unfold qI at h;split at h
    · rename_i e1 e2;cases e1
    · rename_i k' ks' k2 x r e1 e2;simp only[Cf] at e1 e2;obtain⟨rfl,rfl⟩:=e1;obtain⟨rfl,rfl⟩:=e2;split at h
      · rename_i hkk;subst hkk;split at h
        · rename_i l' hl';simp only[bP] at h;subst h;have ih:=Eb ks cs l' vs (pre ++ [x]) hl' hr.2;have h1:=hr.1;cases h1;rw[show pre ++ [x] ++ l'=pre ++ x :: l' by simp,show (pre ++ [x]).length=pre.length+1 by simp] at ih;rw[ih];simp[nT,cellV,DF]
        · cases h
      · cases h
    · rename_i ks' b r e1 e2;simp only[Cf] at e1 e2;obtain⟨rfl,rfl⟩:=e1;obtain⟨rfl,rfl⟩:=e2;split at h
      · rename_i l' hl';simp only[bP] at h;subst h;have h1:=hr.1;cases h1;have ih:∀ y:Int,vs=nT (some (pre ++ y :: l')) (pre.length+1) ks:=λ y=>by
          have ih:=Eb ks cs l' vs (pre ++ [y]) hl' hr.2;rw[show pre ++ [y] ++ l'=pre ++ y :: l' by simp,show (pre ++ [y]).length=pre.length+1 by simp] at ih;exact ih
        rw[ih (match b with | true=>1 | false=>0)];cases b <;> simp[nT,cellV,DF]
      · cases h
    · cases h

theorem zhY {uG:Bool}{ks:List (Option IntKind)}{dv:D1}{l:List Int}{v:Value}(h:qI ks dv.cells=some l) (hag:dv.isAgg=uG) (hv:wZ g dv v):v=jK uG ks (some l):=by
 subst hag;cases dv with
 | c x =>
  have:=Eb (g:=g) ks [x] l [v] [] h ⟨hv,trivial⟩;simp only[List.nil_append,TK] at this;simp only[D1.isAgg,jK,<- this,List.headD_cons]
 | agg cs =>
  obtain⟨vs,rfl,hr⟩:=hv;have:=Eb (g:=g) ks cs l vs [] h hr;simp only[List.nil_append,TK] at this;simp only[D1.isAgg,jK,<- this]

theorem WX {kt vt m : Nat} {ag : KF} {uG : Bool} {ks : List (Option IntKind)} (E : zhX P kt vt ag m uG ks) {es : Array MapEntry} {en : List (List Int × List Int)} (hen : es.toList.map (fun e => (e.key, e.val)) = en.map (fun x => (dV ag x.1, jK uG ks (some x.2))))
    (hl : ∀ x ∈ en, x.1.length = m) (hn : (en.map (·.1)).Nodup) {c : List Int} (hc : c.length = m) :
      ((Instr.findKey kt (dV ag c) es.toList).run P w=.ok none w/\kS c en=none/\∀ x∈en,x.1 ≠ c) \/
      ∃ (j:Nat) (e:MapEntry) (v:List Int),(Instr.findKey kt (dV ag c) es.toList).run P w=.ok (some (j,jK uG ks (some v))) w/\es[j]? = some e/\en[j]? = some (c,v)/\e.key=dV ag c/\kS c en=some v:=by
  have hk:es.toList.map (·.key)=en.map (λ x=>dV ag x.1):=by
    have:=congrArg (List.map Prod.fst) hen;simpa [List.map_map,Function.comp_def] using this
  rcases run_findKey (w:=w) E.key hc es.toList en hk hl with ⟨h1,h2⟩ | ⟨j,e,v,h1,h2,h3⟩
  · exact .inl ⟨h1,FO h2,h2⟩
  · have h4 : (es.toList.map (fun e => (e.key, e.val)))[j]? = some (e.key, e.val) := by simp [h2]
    rw[hen] at h4;simp only[WA,h3,Option.map_some,bP,eQ] at h4;exact .inr ⟨j,e,v,by rw[h1,<- h4.2],by simpa using h2,h3,h4.1.symm,FP hn h3⟩

theorem Me {kt vt:Nat}{q:MQ}(h:EG P kt vt=some q):zhX P kt vt q.1 q.2.1 q.2.2.1 q.2.2.2:=by
 obtain⟨ag,m,uG,ks⟩:=q;exact P8 h

def WY (q:MQ) (ok:Bool) (o:Option (List Int)):Value :=
 match ok with
 | true=>.tuple #[jK q.2.2.1 q.2.2.2 o,.bool o.isSome]
 | false=>jK q.2.2.1 q.2.2.2 o
theorem Ui {t kt vt b : Nat} {q : MQ} {ok : Bool} {F : List Int → Option (List Int)} {k : Nat} {es : Array MapEntry} {clock : Nat} (hu : P.underlying t = some (.map kt vt)) (E0 : EG P kt vt = some q)
    (hheap:w.heap[b]? = some (.map es clock)) (hm:moE q k F es clock) {c:List Int} (hc:c.length=q.2.1) :
    (Instr.lookup t (.map (some b)) (dV q.1 c) ok).run P w=.ok (WY q ok (F c)) w:=by
  obtain⟨en,M⟩:=hm;have E:=Me E0;have hck:=Ky (P:=P) (w:=w) es.isEmpty E.key hc;rw[M.find c hc];rcases WX (w:=w) E M.ents (λ x hx=>(M.len x hx).1) M.nodup hc with ⟨h1,h2,_⟩ | ⟨j,e,v,h1,_,_,_,h2⟩
  · rw [h2];simp only[Instr.lookup,fJ,run_underlying hu,fQ,MapKept.run_getObj_map hheap,iZ,hck,h1,E.zero w];cases ok <;> rfl
  · rw [h2];simp only[Instr.lookup,fJ,run_underlying hu,fQ,MapKept.run_getObj_map hheap,iZ,hck,h1];cases ok <;> rfl
theorem Zf {o : Oper} {t : TypeId} {x y : Operand} {q : MQ} {ok : Bool} {A : aH} {F : List Int → Option (List Int)} {fin : DV → aH} {fp : List (Nat × Bool)} (S : bY P nt B w0 h0 g σ a w) (hd : dG nt o.dst = true) (hop : o.op = .lookup t x y ok)
    (hA:found q (eY σ.env y) ok F fin=A) (hs:A.safe) (hone:q.1=.one->q.2.1=1)
    (hst:∀ d,(fin d).safe->lh (fin d) i o.dst σ (σ.upd i o.dst fp d [] []))
    (hrun:∀ c d,fin d=A->c.length=q.2.1->(Instr.lookup t (a.eval x) (dV q.1 c) ok).run P w=.ok (WY q ok (F c)) w) :
    iq P nt B w0 h0 r n i o A σ a w Q:=by
  unfold found at hA;split at hA
  · rename_i c hc;obtain⟨hyv,hcl⟩:=zcM hc hone (S.ev y);split at hA
    · rename_i d hdv;have hvd:=zoR (g:=g) hdv;have hlab:=P7 hdv;cases ok with
      | true =>
        have hr:=hrun c _ hA hcl;subst hA;refine dF S hd (by simp[hop]) (d:=.tup [d,.c (.p (.bool (F c).isSome))]) (v:=WY q true (F c)) (fp:=fp) (hst _ hs) ?_ ?_ ?_
        · simp only[execOp,hop,hyv,fJ,hr,fQ,iZ]
        · exact⟨[_,_],rfl,hvd,.bool _,trivial⟩
        · intro M hM;rw[show cu (.tup [d,.c (.p (.bool (F c).isSome))])=cZ d ++ ([] ++ []) from rfl,hlab] at hM;simp at hM
      | false =>
        have hr:=hrun c _ hA hcl;subst hA;refine dF S hd (by simp[hop]) (d:=.one d) (v:=WY q false (F c)) (fp:=fp) (hst _ hs) ?_ hvd ?_
        · simp only[execOp,hop,hyv,fJ,hr,fQ,iZ]
        · intro M hM;simp[cu,hlab] at hM
    · subst hA;exact hs.elim
  · subst hA;exact hs.elim

theorem Uj {o : Oper} {t : TypeId} {x y : Operand} {ok : Bool} {A : aH} (S : bY P nt B w0 h0 g σ a w) (hd : dG nt o.dst = true) (hop : o.op = .lookup t x y ok)
    (hA:EI P t (eY σ.env x) (eY σ.env y) ok (lk σ.aC)=A) (hs:A.safe):iq P nt B w0 h0 r n i o A σ a w Q:=by
  unfold EI at hA;split at hA
  · rename_i kt vt L hu hx;split at hA
    · rename_i q kt' vt' q' k F hE hL;split at hA
      · rename_i hcond;obtain⟨rfl,rfl,rfl⟩:=hcond;have E:=Me hE;obtain⟨hxv,_⟩:=gG S hx;have hxv:a.eval x=.map (some (lW (g.sv L))):=hxv;obtain⟨es,clock,hheap,_,hm⟩:=S.obj L _ hL;exact Zf (fp:=[(L,false)]) S hd hop hA hs (Ea E.key) (λ d _=>rfl) λ c d _ hc=>by rw[hxv];exact Ui hu hE hheap hm hc
      · subst hA;exact hs.elim
    · subst hA;exact hs.elim
  · subst hA;exact hs.elim

theorem Kz {c : List Int} (v : List Int) : ∀ {en : List (List Int × List Int)}, kS c en = none → ∀ c', kS c' (en ++ [(c, v)]) = if c' = c then some v else kS c' en
  | [],_,c'=>by
    simp only[List.nil_append,kS];by_cases h:c=c'
    · subst h;simp
    · rw[if_neg h,if_neg (λ e=>h e.symm)]
  | (k,u) :: r,hn,c'=>by
    simp only[kS] at hn;split at hn
    · cases hn
    · rename_i hkc;simp only[List.cons_append,kS];by_cases h:k=c'
      · subst h;rw[if_pos rfl,if_pos rfl,if_neg hkc]
      · rw [if_neg h, if_neg h];exact Kz v hn c'
theorem KA {c v v' : List Int} : ∀ {en : List (List Int × List Int)} {j : Nat}, (en.map (·.1)).Nodup → en[j]? = some (c, v) → ∀ c', kS c' (en.set j (c, v')) = if c' = c then some v' else kS c' en
  | [],j,_,h,_=>by simp at h
  | (k,u) :: r,j,hn,h,c'=>by
    simp only[nR,List.nodup_cons] at hn;cases j with
    | zero =>
      simp only[List.getElem?_cons_zero,bP,eQ] at h;obtain⟨rfl,rfl⟩:=h;simp only[List.set_cons_zero,kS];by_cases h:k=c'
      · subst h;simp
      · rw[if_neg h,if_neg (λ e=>h e.symm),if_neg h]
    | succ j =>
      simp only[TR] at h;have hkc:k ≠ c:=λ e=>hn.1 (uF.2 ⟨_,Ez h,e.symm⟩);simp only[List.set_cons_succ,kS];by_cases h2:k=c'
      · subst h2;rw[if_pos rfl,if_pos rfl,if_neg hkc]
      · rw [if_neg h2, if_neg h2];exact KA hn.2 h c'
theorem WZ (c v:List Int) (F:List Int->Option (List Int)) (x:List Int):EH c v F x=if x=c then some v else F x:=by
 unfold EH;by_cases h:x=c <;> simp[h]

theorem AU : ∀ {ks : List (Option IntKind)} {cs : List Cl} {l : List Int}, qI ks cs = some l → l.length = ks.length
  | [],[],l,h=>by simp[qI] at h;subst h;rfl
  | [],_ :: _,l,h=>by simp[qI] at h
  | k :: ks,[],l,h=>by cases k <;> simp[qI] at h
  | k :: ks,c :: cs,l,h=>by
    unfold qI at h;split at h
    · rename_i e1 e2;cases e1
    · rename_i k' ks' k2 x r e1 e2;simp only[Cf] at e1 e2;obtain⟨rfl,rfl⟩:=e1;obtain⟨rfl,rfl⟩:=e2;split at h
      · split at h
        · rename_i l' hl';simp only[bP] at h;subst h;simp[AU hl']
        · cases h
      · cases h
    · rename_i ks' b r e1 e2;simp only[Cf] at e1 e2;obtain⟨rfl,rfl⟩:=e1;obtain⟨rfl,rfl⟩:=e2;split at h
      · rename_i l' hl';simp only[bP] at h;subst h;simp[AU hl']
      · cases h
    · cases h

theorem Zg {t kt vt b : Nat} {q : MQ} {F : List Int → Option (List Int)} {k : Nat} {es : Array MapEntry} {clock : Nat} (hu : P.underlying t = some (.map kt vt)) (E0 : EG P kt vt = some q)
    (hheap:w.heap[b]? = some (.map es clock)) (hm:moE q k F es clock) {c:List Int} (hc:c.length=q.2.1) (l:List Int) (hll:l.length=q.2.2.2.length) :
    ∃ es' clock',(Instr.mapUpdate t (.map (some b)) (dV q.1 c) (jK q.2.2.1 q.2.2.2 (some l))).run P w=.ok () { w with heap:=w.heap.setIfInBounds b (.map es' clock') }/\moE q (addN (F c) k) (EH c l F) es' clock':=by
  obtain⟨ag,m,uG,ks⟩:=q;obtain⟨en,h1',h2',hen,hl,hn,hF,hsz,hbo,hbn⟩:=hm;simp only at h1' h2' hen hl hn hF hc hll ⊢;have E:=P8 E0;have hck:=Ky (P:=P) (w:=w) false E.key hc;rcases WX (w:=w) E hen (λ x hx=>(hl x hx).1) hn hc with ⟨h1,h2,h3⟩ | ⟨j,e,v,h1,h2,h3,h4,h5⟩
  · refine ⟨es.push { key := dV ag c, val := jK uG ks (some l), born := clock }, clock + 1, ?_, en ++ [(c, l)], h1', h2', ?_, ?_, ?_, ?_, ?_, ?_, ?_⟩
    · simp only[Instr.mapUpdate,fJ,run_underlying hu,fQ,MapKept.run_getObj_map hheap,hck,h1,MapKept.run_setObj_map _ hheap]
    · rw[Array.toList_push,List.map_append,hen,List.map_append];rfl
    · intro x hx;rcases dL.1 hx with hx | hx
      · exact hl x hx
      · simp only[jQ] at hx;subst hx;exact⟨hc,hll⟩
    · rw [List.map_append, List.nodup_append];refine⟨hn,by simp,λ a ha b hb e=>?_⟩;simp only[nR,List.map_nil,jQ] at hb;obtain⟨x,hx,hxa⟩:=uF.1 ha;exact h3 x hx (by rw[hxa,e,hb])
    · intro c' hc';rw[WZ,Kz l h2,hF c' hc']
    · rw[hF c hc,h2,hsz];simp[addN]
    · intro x hx;rw[Array.toList_push] at hx;rcases dL.1 hx with hx | hx
      · exact Nat.lt_succ_of_lt (hbo x hx)
      · simp only[jQ] at hx;subst hx;exact Nat.lt_succ_self _
    · rw [Array.toList_push, List.map_append, List.nodup_append];refine⟨hbn,by simp,λ a ha b hb e=>?_⟩;simp only[nR,List.map_nil,jQ] at hb;obtain⟨x,hx,hxa⟩:=uF.1 ha;have:=hbo x hx;omega
  · have hmod:(es.modify j λ e=>{ e with key:=dV ag c,val:=jK uG ks (some l) }).toList=es.toList.set j { e with key:=dV ag c,val:=jK uG ks (some l) }:=by
      rw[Array.toList_modify];have h2':es.toList[j]? = some e:=by simpa using h2
      obtain⟨hj,he⟩:=xy.1 h2';apply List.ext_getElem?;intro q;rw[List.getElem?_modify,List.getElem?_set];by_cases hq:j=q
      · subst hq;rw[h2'];have hj':j < es.size:=by simpa using hj
        simp[hj']
      · simp[hq]
    have hen':es.toList.map (λ e=>(e.key,e.val))=en.map (λ x=>(dV ag x.1,jK uG ks (some x.2))):=hen;refine⟨es.modify j λ e=>{ e with key:=dV ag c,val:=jK uG ks (some l) },clock,?_,en.set j (c,l),h1',h2',?_,?_,?_,?_,?_,?_,?_⟩
    · have hkey : ((es[j]?).map (·.key)).getD (dV ag c) = dV ag c := by rw [h2]; simp [h4]
      have hst:(Instr.keyThatStays (dV ag c) (dV ag c)).run P w=.ok (dV ag c) w:=by
        simp[Instr.keyThatStays,Uh]
      simp only[Instr.mapUpdate,fJ,run_underlying hu,fQ,MapKept.run_getObj_map hheap,hck,h1,hkey,hst,MapKept.run_setObj_map _ hheap]
    · rw[hmod,List.map_set,List.map_set,hen']
    · intro x hx;rcases List.mem_or_eq_of_mem_set hx with hx | rfl
      · exact hl x hx
      · exact⟨hc,hll⟩
    · rw [List.map_set];rw[show (en.map (·.1)).set j c=en.map (·.1) from ?_]
      · exact hn
      · have : (en.map (·.1))[j]? = some c := by simp [h3]
        obtain⟨hj,he⟩:=xy.1 this;apply List.ext_getElem?;intro q;rw[List.getElem?_set];by_cases hq:j=q
        · subst hq;rw[this];simp;simpa using hj
        · simp[hq]
    · intro c' hc';rw[WZ,KA hn h3,hF c' hc']
    · rw[hF c hc,h5,List.length_set,hsz];rfl
    · intro x hx;rw[hmod] at hx;rcases List.mem_or_eq_of_mem_set hx with hx | rfl
      · exact hbo x hx
      · exact hbo e (Ez (by simpa using h2))
    · rw [hmod, List.map_set];rw[show (es.toList.map (·.born)).set j e.born=es.toList.map (·.born) from ?_]
      · exact hbn
      · have : (es.toList.map (·.born))[j]? = some e.born := by simp [h2]
        obtain⟨hj,he⟩:=xy.1 this;apply List.ext_getElem?;intro q;rw[List.getElem?_set];by_cases hq:j=q
        · subst hq;rw[this];simp;simpa using hj
        · simp[hq]

theorem Zh {o : Oper} {t : TypeId} {x y z : Operand} {A : aH} (S : bY P nt B w0 h0 g σ a w) (hd : dG nt o.dst = true) (hop : o.op = .mapUpdate t x y z)
    (hA:Pi P t (eY σ.env x) (eY σ.env y) (eY σ.env z) (lk σ.aC)=A) (hs:A.safe):iq P nt B w0 h0 r n i o A σ a w Q:=by
  unfold Pi at hA;split at hA
  · rename_i kt vt L hu hx;split at hA
    · rename_i q kt' vt' q' k F hE hL;split at hA
      · rename_i c dv hc hz;split at hA
        · rename_i l hl;split at hA
          · rename_i hcond;obtain⟨rfl,rfl,rfl,hag⟩:=hcond;subst hA;have E:=Me hE;obtain⟨hxv,_⟩:=gG S hx;have hxv:a.eval x=.map (some (lW (g.sv L))):=hxv;obtain⟨hyv,hcl⟩:=zcM hc (Ea E.key) (S.ev y);have hzv:a.eval z=jK q'.2.2.1 q'.2.2.2 (some l):=zhY hl hag (by have:=S.ev z;rw[hz] at this;exact this);obtain⟨es,clock,hheap,_,hm⟩:=S.obj L _ hL;obtain⟨es',clock',hrun,hm'⟩:=Zg (P:=P) hu hE hheap hm hcl l (AU hl);have hlt:=(TI.1 hheap).1;have hB:=(S.own L _ (lW (g.sv L)) hL rfl).1;refine D7 (by simp[hop]) (w':={ w with heap:=w.heap.setIfInBounds (lW (g.sv L)) (.map es' clock') }) ?_ ⟨g,_,rfl,?_⟩
            · simp only[execOp,hop,hxv,hyv,hzv,fJ,hrun,fQ,iZ]
            · rw [eH];have hoth:∀ b,¬ (lW (g.sv L)=b)->(w.heap.setIfInBounds (lW (g.sv L)) (Obj.map es' clock'))[b]? = w.heap[b]?:=λ b hb=>by rw[Array.getElem?_setIfInBounds,if_neg hb]
              have S' := S.write (o' := .mo kt' vt' q' (addN (F c) k) (EH c l F)) (w' := { w with heap := w.heap.setIfInBounds (lW (g.sv L)) (.map es' clock') }) hL (fun b hb => hb)
                (yP hB (by simp) (λ q hq=>hoth q λ e=>hq e.symm) rfl rfl rfl rfl) (λ b hb=>hoth b hb)
                ⟨es',clock',by show (w.heap.setIfInBounds (lW (g.sv L)) _)[lW (g.sv L)]? = _;simp[hlt],hE,hm'⟩ (λ M hM=>by simp[dJ] at hM)
              exact S'.put (d:=.junk) hd trivial (λ M hM=>by simp[cu,cZ,bu] at hM) _
          · subst hA;exact hs.elim
        · subst hA;exact hs.elim
      · subst hA;exact hs.elim
    · subst hA;exact hs.elim
  · subst hA;exact hs.elim

theorem bY.newMo (S : bY P nt B w0 h0 g σ a w) {t kt vt : Nat} {q : MQ} (ht : lk σ.aC t = none) (hE : EG P kt vt = some q) :
  bY P nt B w0 h0 (g.setSv t (.map (some w.heap.size))) { σ with aC:=(t,.mo kt vt q 0 (λ _=>none)) :: σ.aC } a (w.alloc (.map #[] 0)):=by
 have hne:∀ L o,lk σ.aC L=some o->L ≠ t:=λ L o h e=>by subst e;rw[ht] at h;cases h
 have hsame:∀ L o,lk σ.aC L=some o->gQ g (g.setSv t (.map (some w.heap.size))) L:=λ L o h=>⟨rfl,by simp[Gh.setSv,hne L o h],rfl⟩;have hold:∀ b,b < w.heap.size->(w.alloc (.map #[] 0)).heap[b]? = w.heap[b]?:=λ b hb=>heap_alloc_old w _ b hb;have hlk:∀ L o,lk ((t,AO.mo kt vt q 0 (λ _=>none)) :: σ.aC) L=some o->(L=t/\o=.mo kt vt q 0 (λ _=>none))\/(L ≠ t/\lk σ.aC L=some o):=by
  intro L o h;rw[aW] at h;split at h
  ·rename_i e;simp at h;exact .inl ⟨e.symm,h.symm⟩
  ·rename_i e;exact .inr ⟨λ e'=>e e'.symm,h⟩
 have gp:∀ L o b,lk σ.aC L=some o->fF (g.setSv t (.map (some w.heap.size))) L o b->fF g L o b:=λ L o b ho hob=>Eq.mp (congrFun (fB (hsame L o ho)) _) hob;refine S.change (g':=g.setSv t (.map (some w.heap.size))) hsame (λ _ _ h=>h) ?_ (λ b o h=>.inl h) (uo.of ⟨(Below.refl B w).alloc S.bs _,iM _⟩) ?_ ?_ ?_ ?_ ?_
 ·exact S.hw.same λ b o h=>hold b (qO S.hw h)
 ·intro L o ho;rcases hlk L o ho with ⟨rfl,rfl⟩ | ⟨_,ho⟩
  ·have E := Me hE;exact⟨#[],0,by rw[show lW ((g.setSv L (.map (some w.heap.size))).sv L)=w.heap.size by simp[Gh.setSv,lW]];exact heap_alloc_new w _,hE,[],Ea E.key,E.one,rfl,λ x hx=>by simp at hx,List.nodup_nil,λ c _=>rfl,rfl,λ e he=>by simp at he,by simp⟩
  ·refine iQ (S.obj L o ho) (hsame L o ho) (fun M hM => ?_) (fun _ _ h => h) (fun b hob => hold b (gu (S.obj L o ho) hob));obtain⟨o',ho'⟩:=S.clO L o ho M hM;exact hsame M o' ho'
 ·intro L o b ho hob;rcases hlk L o ho with ⟨rfl,rfl⟩ | ⟨_,ho⟩
  ·simp [fF, Gh.setSv, lW] at hob; subst hob;refine⟨S.bs,?_⟩;cases hh:g.h w.heap.size with
   | none=>exact hh
   | some x=>exact absurd (qO S.hw hh) (by omega)
  ·exact S.own L o b ho (gp L o b ho hob)
 ·intro L o b L' o' ho ho' hob fU;rcases hlk L o ho with ⟨rfl,rfl⟩ | ⟨hn,ho2⟩ <;> rcases hlk L' o' ho' with ⟨rfl,rfl⟩ | ⟨hn',kN⟩
  ·rfl
  ·simp [fF, Gh.setSv, lW] at hob; subst hob;exact absurd (gu (S.obj L' o' kN) (gp _ _ _ kN fU)) (by omega)
  ·simp [fF, Gh.setSv, lW] at fU; subst fU;exact absurd (gu (S.obj L o ho2) (gp _ _ _ ho2 hob)) (by omega)
  ·exact S.sep L o b L' o' ho2 kN (gp _ _ _ ho2 hob) (gp _ _ _ kN fU)
 ·intro L o ho;refine⟨o,?_⟩;rw[aW,if_neg (λ e=>hne L o ho e.symm)];exact ho
 ·intro L o ho M hM;have fin:∀ M o,lk σ.aC M=some o->∃ o',lk ((t,AO.mo kt vt q 0 (λ _=>none)) :: σ.aC) M=some o':=λ M o h=>⟨o,by rw[aW,if_neg (λ e=>hne M o h e.symm)];exact h⟩;rcases hlk L o ho with ⟨rfl,rfl⟩ | ⟨_,ho⟩
  ·simp[dJ] at hM
  ·obtain⟨o',ho'⟩:=S.clO L o ho M hM;exact fin M o' ho'

theorem Uk {o : Oper} {t kt vt : TypeId} {q : MQ} {A : aH} (S : bY P nt B w0 h0 g σ a w) (hd : dG nt o.dst = true) (hop : o.op = .makeMap t none) (hE : EG P kt vt = some q)
    (hA:Aw (lk σ.aC) o.dst (.mo kt vt q 0 (λ _=>none)) (λ t=>.cl (.mo t))=A) (hs:A.safe):iq P nt B w0 h0 r n i o A σ a w Q:=by
  unfold Aw at hA;split at hA
  · rename_i L hL;split at hA
    · rename_i hlk;subst hA;have S':=S.newMo (kt:=kt) (vt:=vt) hlk hE;refine mr (by simp[hop]) (v:=.map (some w.heap.size)) (w':=w.alloc (.map #[] 0)) ?_ ⟨g.setSv L (.map (some w.heap.size)),_,rfl,?_⟩
      · simp[execOp,hop,Instr.makeMap]
      · rw [eH];refine S'.put (σ:={ σ with aC:=(L,AO.mo kt vt q 0 (λ _=>none)) :: σ.aC }) hd (d:=.cl (.mo L)) ?_ ?_ _
        · simp[o6,wZ,gX,Gh.setSv,lW]
        · intro M hM;simp[cu,cZ,bu] at hM;subst hM;exact⟨_,by rw[aW,if_pos rfl]⟩
    · subst hA;exact hs.elim
  · subst hA;exact hs.elim
end
end Go.Pm
namespace Go.Pm
variable [aJ]
open Go.RowKit (Below)

section
variable {P:Program}{Γ:bf}{nt B:Nat}{w0:World}{h0:Fz}{g:Gh}{σ:St}{a:Act}{w:World}{r:Option Nat}{n i:Nat}{Q:Exit->Act->World->Prop}

theorem zcN {h : Fz} {n s l k : Nat} {get : Nat → List PV} {v : Value} (hr : Rep h (.sl n s get) v) (hl : l ≤ k) (hk : k ≤ n) :
  ∃ a len cap,v=.slice a len cap/\len=n/\len<=cap/\Rep h (.sl (k - l) s (slG get l)) (sliced a l k cap s):=by
 have hu:pW get:=hr.un.rows.2;cases hr with
 | sl0=>exact⟨none,0,0,rfl,rfl,iM _,by
   obtain rfl:k=0:=by omega
   obtain rfl:l=0:=by omega
   exact .sl0 _ _ (rY hu _)⟩
 | sle _ _ a cap=>exact⟨some a,0,cap,rfl,rfl,Nat.zero_le _,by
   obtain rfl:k=0:=by omega
   obtain rfl:l=0:=by omega
   unfold sliced;split
   ·exact .sle _ _ _ _ (rY hu _)
   ·exact .sle _ _ _ _ (rY hu _)⟩
 | sl _ _ _ _ b o cap C ty fr vs hb hcap hlen hc hr =>
  refine⟨_,n,cap,rfl,rfl,hcap,?_⟩;unfold sliced;by_cases hkl:k - l=0
  ·rw [hkl];split
   ·exact .sle _ _ _ _ (rY hu _)
   ·exact .sle _ _ _ _ (rY hu _)
  ·rw [if_neg (by omega)];simp only[Option.map_some,addr_add];refine .sl (k - l) s (slG get l) (rY hu _) b (o+l * s) (cap - l) C ty fr (λ i=>vs (i+l)) hb (by omega) (λ i hi=>hlen (i+l) (by omega)) (λ i j x hi hj=>?_) (λ i j x hi hj=>hr (i+l) j x (by omega) hj);have:=hc (i+l) j x (by omega) hj;rw[Nat.add_mul] at this;rw[show o+l * s+i * s+j=o+(i * s+l * s)+j by omega];exact this

theorem P9 (S:bY P nt B w0 h0 g σ a w){x:Option Operand}{j:Option Int}(h:Au (eY σ.env) x=some j):(j=none/\x.map a.eval=none)\/∃ k q,j=some q/\x.map a.eval=some (.int k q):=by
 cases x with
 | none=>simp only[Au,bP] at h;exact .inl ⟨h.symm,rfl⟩
 | some x =>
  simp only[Au] at h;split at h
  ·rename_i k q hx;simp only[bP] at h;exact .inr ⟨k,q,h.symm,by rw[Option.map_some,iW S hx]⟩
  ·cases h

theorem Zi {o : Oper} {t : TypeId} {x : Operand} {lo hi : Option Operand} {A : aH} (S : bY P nt B w0 h0 g σ a w) (hd : dG nt o.dst = true) (hop : o.op = .slice t x lo hi none)
    (hA:yH P t (eY σ.env x) (Au (eY σ.env) lo) (Au (eY σ.env) hi)=A) (hs:A.safe):iq P nt B w0 h0 r n i o A σ a w Q:=by
  unfold yH at hA;split at hA
  · rename_i e m s get lo' hi' hu hx hlo hhi;split at hA
    · rename_i q hq;split at hA
      · rename_i hb;have hsq:=jk hb;subst hsq;subst hA;obtain⟨h1,h2,h3⟩:0<=lo'.getD 0/\lo'.getD 0<=hi'.getD (m:Int)/\hi'.getD (m:Int)<=(m:Int):=hs;have hv:=iH S hx;obtain⟨ad,len,cap,hav,hlen,hcap,hr⟩:=zcN (l:=(lo'.getD 0).toNat) (k:=(hi'.getD (m:Int)).toNat) hv (by omega) (by omega);subst hlen;have hue:P.underlying t=some (.slice (P.elem t)):=by simp[Program.elem,hu]
        have hel:P.elem t=e:=by simp[Program.elem,hu]
        have hsz:=run_sizeOf (w:=w) hq;have hrun:(Instr.slice t (a.eval x) (lo.map a.eval) (hi.map a.eval) none).run P w=.ok (sliced ad (lo'.getD 0).toNat (hi'.getD (len:Int)).toNat cap s) w:=by
          rw[hav,run_slice_any w t ad len cap hue,hel];have hb:(Instr.sliceBounds true len cap (lo.map a.eval) (hi.map a.eval) none).run P w=.ok ((lo'.getD 0).toNat,(hi'.getD (len:Int)).toNat,cap) w:=by
            rcases P9 S hlo with ⟨rfl,e1⟩ | ⟨k1,q1,rfl,e1⟩ <;> rcases P9 S hhi with ⟨rfl,e2⟩ | ⟨k2,q2,rfl,e2⟩ <;> rw[e1,e2] <;> simp only[Option.getD_some,Option.getD_none] at h1 h2 h3 ⊢
            · simp[Instr.sliceBounds]
            · simp[Instr.sliceBounds,run_sliceBound w k2 q2 cap _ (by omega) (by omega)]
            · simp[Instr.sliceBounds,run_sliceBound w k1 q1 len _ (by omega) (by omega)]
            · simp[Instr.sliceBounds,run_sliceBound w k2 q2 cap _ (by omega) (by omega),run_sliceBound w k1 q1 q2.toNat _ (by omega) (by omega)]
          rw[hb];simp only[fQ,hsz]
        refine dF S hd (by simp[hop]) (d:=.p (.sl (hi'.getD (len:Int) - lo'.getD 0).toNat s (slG get (lo'.getD 0).toNat))) (v:=sliced ad (lo'.getD 0).toNat (hi'.getD (len:Int)).toNat cap s) (fp:=[]) rfl ?_ ?_ (jb _)
        · simp[execOp,hop,Instr.sliceAt,run_underlying hu,hrun]
        · rw [show (hi'.getD (len : Int) - lo'.getD 0).toNat = (hi'.getD (len : Int)).toNat - (lo'.getD 0).toNat by omega];exact hr
      · subst hA;exact hs.elim
    · subst hA;exact hs.elim
  · subst hA;exact hs.elim
end
end Go.Pm
namespace Go.Pm
variable [aJ]
open Go.RowKit (Below)

section
variable {P:Program}{Γ:bf}{nt B:Nat}{w0:World}{h0:Fz}{g:Gh}{σ:St}{a:Act}{w:World}{r:Option Nat}{n i:Nat}{Q:Exit->Act->World->Prop}

theorem bY.newObj (S : bY P nt B w0 h0 g σ a w) {t : Nat} {o : AO} {g' : Gh} {w' : World} (ht : lk σ.aC t = none) (hh : g'.h = g.h) (hs : ∀ M, M ≠ t → gQ g g' M)
    (hb:EZ B w w') (hold:∀ b,b < w.heap.size->w'.heap[b]? = w.heap[b]?) (hv:∀ b,fF g' t o b->w.heap.size<=b) (hlab:dJ o=[]) (hr:Jt P g' w' B t o) :
    bY P nt B w0 h0 g' { σ with aC:=(t,o) :: σ.aC } a w':=by
  have hne:∀ L o,lk σ.aC L=some o->L ≠ t:=λ L o h e=>by subst e;rw[ht] at h;cases h
  have hsame:∀ L o,lk σ.aC L=some o->gQ g g' L:=λ L o h=>hs L (hne L o h);have hlk:∀ L x,lk ((t,o) :: σ.aC) L=some x->(L=t/\x=o)\/(L ≠ t/\lk σ.aC L=some x):=by
    intro L x h;rw[aW] at h;split at h
    · rename_i e;simp at h;exact .inl ⟨e.symm,h.symm⟩
    · rename_i e;exact .inr ⟨λ e'=>e e'.symm,h⟩
  have gp:∀ L o b,lk σ.aC L=some o->fF g' L o b->fF g L o b:=λ L o b ho hob=>Eq.mp (congrFun (fB (hsame L o ho)) _) hob;have hle:iV g.h g'.h:=by rw[hh];exact λ _ _ h=>h
  refine S.change (g':=g') hsame hle ?_ (λ b o h=>by rw[hh] at h;exact .inl h) (.of hb) ?_ ?_ ?_ ?_ ?_
  · rw[hh];exact S.hw.same λ b o h=>hold b (qO S.hw h)
  · intro L x hx;rcases hlk L x hx with ⟨rfl,rfl⟩ | ⟨_,hx⟩
    · exact hr
    · refine iQ (S.obj L x hx) (hsame L x hx) (fun M hM => ?_) hle (fun b hob => hold b (gu (S.obj L x hx) hob));obtain⟨o',ho'⟩:=S.clO L x hx M hM;exact hsame M o' ho'
  · intro L x b' hx hob;rcases hlk L x hx with ⟨rfl,rfl⟩ | ⟨_,hx⟩
    · have h1 := hv b' hob;refine⟨Ci S.bs h1,?_⟩;rw[hh];cases hq:g.h b' with
      | none=>rfl
      | some x=>exact absurd (qO S.hw hq) (by omega)
    · rw[hh];exact S.own L x b' hx (gp L x b' hx hob)
  · intro L x b' L' x' hx hx' hob fU;rcases hlk L x hx with ⟨rfl,rfl⟩ | ⟨hn,hx2⟩ <;> rcases hlk L' x' hx' with ⟨rfl,rfl⟩ | ⟨hn',Uc⟩
    · rfl
    · have := hv b' hob;exact absurd (gu (S.obj L' x' Uc) (gp _ _ _ Uc fU)) (by omega)
    · have := hv b' fU;exact absurd (gu (S.obj L x hx2) (gp _ _ _ hx2 hob)) (by omega)
    · exact S.sep L x b' L' x' hx2 Uc (gp _ _ _ hx2 hob) (gp _ _ _ Uc fU)
  · intro L o ho;refine⟨o,?_⟩;rw[aW,if_neg (λ e=>hne L o ho e.symm)];exact ho
  · intro L x hx M hM;rcases hlk L x hx with ⟨rfl,rfl⟩ | ⟨_,hx⟩
    · rw[hlab] at hM;simp at hM
    · obtain ⟨o', ho'⟩ := S.clO L x hx M hM;exact⟨o',by rw[aW,if_neg (λ e=>hne M o' ho' e.symm)];exact ho'⟩

theorem KC {z:Array Value}{s m i:Nat}(hz:z.size=s) (hi:i < m):((madeCells z (m * s)).toList.drop (i * s)).take s=z.toList:=by
 have hii:i * s+s<=m * s:=by have:=LH s (Nat.succ_le_of_lt hi);rw[OZ] at this;exact this
 apply List.ext_getElem?;intro j;rw[DW];split
 ·rename_i hj;rw[dqI];have:(madeCells z (m * s)).toList[i * s+j]? = some z[(i * s+j) % z.size]!:=by
   simp only[madeCells,Array.toList_map,WA];rw[Array.toList_range,List.getElem?_range (by omega)];rfl
  rw[this,hz,Nat.mul_comm i s,Nat.mul_add_mod,Nat.mod_eq_of_lt hj];have hj':j < z.size:=by omega
  simp[hj']
 ·rename_i hj;rw[dqM (by simp;omega)]

theorem JB {o : Oper} {t : TypeId} {x y : Operand} {A : aH} (S : bY P nt B w0 h0 g σ a w) (hd : dG nt o.dst = true) (hop : o.op = .makeSlice t x y)
    (hA:o8 P Γ t (eY σ.env x) (eY σ.env y) o.dst (lk σ.aC)=A) (hs:A.safe):iq P nt B w0 h0 r n i o A σ a w Q:=by
  unfold o8 at hA;split at hA
  · rename_i e k1 j k2 j2 dst hu hx hy hdst;split at hA
    · rename_i ie z hi hz hfresh;obtain⟨i',zv,hi2,hzv,hov,hlen⟩:=jG hz;rw[hi] at hi2;simp only[bP] at hi2;subst hi2;have hzs:zv.cells.size=ie.size:=by have:=(je (g:=g) _ _ hov).length;simp at this;omega
      have hxv:=iW S hx;have hyv:=iW S hy
      have made:∀ (hs:0<=j/\j=j2/\j<=1000000) (hbytes:ie.bytes<=1000000),∃ w',(execOp a.eval o).run P w=.ok (.value (.slice (some ⟨w.heap.size,0,none⟩) j.toNat j.toNat)) w' /\
          w'.ownsRow B e ie.size (.slice (some ⟨w.heap.size,0,none⟩) j.toNat j.toNat) j.toNat (madeCells zv.cells (j.toNat * ie.size)).toList/\EZ B w w'/\∀ b,b < w.heap.size->w'.heap[b]? = w.heap[b]?:=by
        intro hs hbytes;obtain⟨h0,rfl,h1⟩:=hs;have hj:j=((j.toNat:Nat):Int):=by omega
        have hmul:ie.bytes * j.toNat<=281474976710656:=Ci (Nat.mul_le_mul hbytes (show j.toNat<=1000000 by omega)) (by decide);obtain⟨w',hr,hown,hg⟩:=run_make_full (P:=P) w B t e ie zv ie.size hu hi hzv rfl k1 k2 j.toNat hmul (by simp only[maxLen];omega) S.bs;refine⟨w',?_,hown,⟨⟨hg.os,hg.tape,hg.output,hg.size,λ k hk=>hg.block k (dqS hk S.bs) (by simp)⟩,EY (fC _ _ _ _ hr)⟩,λ b hb=>hg.block b hb (by simp)⟩;rw[<- hj] at hr;simp only[execOp,hop,hxv,hyv,fJ,hr,fQ,iZ]
      split at hA
      · split at hA
        · rename_i e2 hue;split at hA
          · rename_i i2 z2 zxv hz2' hcond;simp only[fA,Nat.ble_eq] at hcond;have hs1:=jk hcond.1;split at hA
            · rename_i l2 hl2 hb2;have zcO:0 < i2.size:=Nat.lt_of_succ_le (Nat.le_of_ble_eq_true hb2);subst hA;obtain⟨w',hrun,hown,hbel,hold⟩:=made hs hcond.2;obtain⟨i3,zv2,hi3,zE8,zE9,hlen2⟩:=jG hz2';rw[zxv] at hi3;simp only[bP] at hi3;subst hi3;have zoT:zv2.cells.size=i2.size:=by have:=(je (g:=g) _ _ zE9).length;simp at this;omega
              have hsv:(g.setVv dst (.slice (some ⟨w.heap.size,0,none⟩) j.toNat j.toNat) (λ _=>.slice none 0 0)).sv dst=.slice (some ⟨w.heap.size,0,none⟩) j.toNat j.toNat:=by simp[Gh.setVv]
              have hiv:(g.setVv dst (.slice (some ⟨w.heap.size,0,none⟩) j.toNat j.toNat) (λ _=>.slice none 0 0)).iv dst=λ _=>.slice none 0 0:=by simp[Gh.setVv]
              have hz1:zv.cells.toList=[.slice none 0 0]:=by
                match hl:zv.cells.toList,hov with
                | [],h=>simp[iE] at h
                | [v],h =>
                  simp only[iE] at h;split at h
                  · rename_i x' l' h1 h2;simp only[bP] at h2;subst h2;simp only[bP,Cf,Cl.p.injEq,and_true] at h;subst h;unfold rX at h1;split at h1 <;> simp at h1;rfl
                  · cases h
                | v :: u :: l,h =>
                  simp only[iE] at h;split at h
                  · rename_i x' l' h1 h2;simp only[bP,Cf] at h;obtain⟨_,rfl⟩:=h;split at h2
                    · simp at h2
                    · cases h2
                  · cases h
              have S2 := S.newObj (t := dst) (o := .vv e ie.bytes e2 i2.size i2.bytes j.toNat (fun _ => 0) (fun _ _ => l2)) (g' := g.setVv dst (.slice (some ⟨w.heap.size, 0, none⟩) j.toNat j.toNat) (fun _ => .slice none 0 0)) (w' := w')
                hfresh rfl (λ M hM=>⟨rfl,by simp[Gh.setVv,hM],by simp[Gh.setVv,hM]⟩) hbel hold (λ b hb=>by
                  rcases hb with hb | ⟨i,_,hb⟩
                  · rw[hsv] at hb;simp only[Value.ownBlock,bP] at hb;omega
                  · rw[hiv] at hb;cases hb) rfl (by
                refine⟨⟨λ _ _ _ _=>D5 hz2' hl2,zcO⟩,⟨ie,zv,hi,hs1,rfl,hzv,by rw[hzs,hs1]⟩,⟨i2,zv2,zxv,rfl,rfl,zE8,zoT⟩,?_,λ i hi'=>?_,λ i k _ h=>?_⟩
                rotate_left
                · rw[hiv];exact⟨rfl,λ _=>rfl,[],World.ownsRow_nil _ _ _ _,λ _ h=>absurd h (O0 _)⟩
                · rw[hiv] at h;cases h
                rw[hsv,hiv];rw[hs1] at hown;have:(madeCells zv.cells (j.toNat * 1)).toList=(List.range j.toNat).map λ _=>Value.slice none 0 0:=by
                  apply List.ext_getElem?;intro q;by_cases hq:q < j.toNat
                  · have h1 := KC (z := zv.cells) (s := 1) (by rw [hzs, hs1]) hq;have h2:=congrArg (λ l=>l[0]?) h1;simp only[DW,dqI] at h2;rw[if_pos (by decide)] at h2;simp only[Nat.mul_one,Nat.add_zero] at h2;rw[Nat.mul_one,h2,hz1];simp[hq]
                  · rw[dqM (by simp[madeCells];omega),dqM (by simp;omega)]
                rw[this] at hown;exact hown)
              refine mr (by simp[hop]) hrun ⟨g.setVv dst (.slice (some ⟨w.heap.size,0,none⟩) j.toNat j.toNat) (λ _=>.slice none 0 0),_,rfl,?_⟩;rw[eH];refine S2.put (v:=.slice (some ⟨w.heap.size,0,none⟩) j.toNat j.toNat) hd (d:=.cl (.vec dst)) ⟨hsv.symm,rfl⟩ ?_ _;intro M hM;simp[cu,cZ,bu] at hM;subst hM;exact⟨_,by rw[aW,if_pos rfl]⟩
            · subst hA;exact hs.elim
          · subst hA;exact hs.elim
        · subst hA;exact hs.elim
      · split at hA
        · rename_i l hl;split at hA
          · rename_i hcond;simp only[fA,Nat.ble_eq] at hcond;subst hA;obtain⟨w',hrun,hown,hbel,hold⟩:=made hs hcond.2;have hsv:(g.setSv dst (.slice (some ⟨w.heap.size,0,none⟩) j.toNat j.toNat)).sv dst=.slice (some ⟨w.heap.size,0,none⟩) j.toNat j.toNat:=by simp[Gh.setSv]
            have hrl:=je (g:=g) _ _ hov;rw[lu hl] at hrl;have hrl:=RL.map_left.1 hrl
            have S2 := S.newVec (t := dst) (w' := w') (e := e) (s := ie.size) (b := ie.bytes) (n := j.toNat) (get := fun _ => wP P e l) (v := .slice (some ⟨w.heap.size, 0, none⟩) j.toNat j.toNat) hfresh hbel hold
              (λ b hb=>by simp[Value.ownBlock] at hb;omega) ⟨⟨EQ (uO (qK hrl)),by omega⟩,⟨ie,zv,hi,rfl,rfl,hzv,hzs⟩,_,by rw[hsv];exact hown,λ i hi'=>by rw[KC hzs hi'];exact qK hrl⟩
            refine mr (by simp[hop]) hrun ⟨g.setSv dst (.slice (some ⟨w.heap.size,0,none⟩) j.toNat j.toNat),_,rfl,?_⟩;rw[eH];refine S2.put (v:=.slice (some ⟨w.heap.size,0,none⟩) j.toNat j.toNat) hd (d:=.cl (.vec dst)) ⟨hsv.symm,rfl⟩ ?_ _;intro M hM;simp[cu,cZ,bu] at hM;subst hM;exact⟨_,by rw[aW,if_pos rfl]⟩
          · subst hA;exact hs.elim
        · subst hA;exact hs.elim
    · subst hA;exact hs.elim
  · subst hA;exact hs.elim
end
end Go.Pm
namespace Go.Pm
variable [aJ]
open Go.RowKit (Below)

section
variable {P:Program}{Γ:bf}{nt B:Nat}{w0:World}{h0:Fz}{g:Gh}{σ:St}{a:Act}{w:World}{r:Option Nat}{n i:Nat}{Q:Exit->Act->World->Prop}

theorem FQ {h:Fz}{x:PA}{v:Value}(hx:kL h x v):wZ ⟨h,g.bk,g.sv,g.iv⟩ (DX x) v:=by
 cases x with
 | one p=>exact hx
 | agg cs =>
  obtain⟨vs,rfl,hr⟩:=hx;exact⟨vs,rfl,RL.map_left.2 hr⟩
theorem Ul {h:Fz}{rs:List PA}{v:Value}(hr:nU h rs v):o6 ⟨h,g.bk,g.sv,g.iv⟩ (resD rs) v:=by
 have tup:∀ l:List PA,(∃ vs:List Value,v=.tuple vs.toArray/\RL (kL h) l vs)->o6 ⟨h,g.bk,g.sv,g.iv⟩ (.tup (l.map DX)) v:=by
  rintro l ⟨vs,hv,hr2⟩;exact⟨vs,hv,RL.map_left.2 (RL.mono hr2 λ _ _ h=>FQ h)⟩
 match rs,hr with
 | [],hr=>exact tup _ hr
 | [x],hr=>exact FQ hr
 | x :: y :: l,hr=>exact tup _ hr
theorem sH (x:PA):cZ (DX x)=[]:=by
 cases x with
 | one p=>rfl
 | agg cs=>exact lq cs
theorem FT (rs:List PA):cu (resD rs)=[]:=by
 have tup:∀ l:List PA,cu (.tup (l.map DX))=[]:=by
  intro l
  induction l with
  | nil=>rfl
  | cons x l ih=>simp only[nR,cu,lT,sH,List.nil_append] at ih ⊢;exact ih
 match rs with
 | []=>exact tup _
 | [x]=>exact sH x
 | x :: y :: l=>exact tup _

theorem dU {f:FuncId}{args:Array Value}(h:dD P f):(callFunc f args).run P w=.ok (.enter f args) w:=by
 obtain⟨fn,h1,h2,h3⟩:=h;have h2':fn.body.isNone=false:=by simpa using h2
 simp only[callFunc,fJ,run_program,fQ,h1,h3,h2',Bool.false_eq_true,if_false,iZ]

theorem CJ (S : bY P nt B w0 h0 g σ a w) : ∀ (l : List Operand), RL (o6 g) (l.map (eY σ.env)) (l.map a.eval)
  | []=>trivial
  | x :: r=>⟨S.ev x,CJ S r⟩

theorem Um {h:Fz}{l:List PV}{vs:List Value}(hr:RL (Rep h) l vs):RL (kL h) (l.map .one) vs:=RL.map_left.2 hr

theorem FU {h:Fz}{l:List PV}{vs:List Value}(h1:l.length=vs.length) (h2:∀ (j:Nat) (x:PV) (v:Value),l[j]? = some x->vs[j]? = some v->Rep h x v):RL (Rep h) l vs:=RL.of_get h1 h2


theorem bY.swap (S : bY P nt B w0 h0 g σ a w) {u : List (Nat × AO)} {kl K : List Nat} {g' : Gh} {w' : World} (hle : iV g.h g'.h) (hw' : Hw g'.h w') (hbk : ∀ M, g'.bk M = g.bk M) (hs : ∀ M, M ∉ kl → gQ g g' M)
    (hkl:∀ L∈kl,lk u L ≠ none) (hX:Y2 g.h K w w') (hK:∀ b∈K,∃ L o o',lk u L=some o/\lk σ.aC L=some o'/\fF g L o' b)
    (hv:∀ L o,lk u L=some o->Jt P g' w' B L o) (hob:∀ L o b,lk u L=some o->fF g' L o b->(b∈K\/w.heap.size<=b)/\g'.h b=none)
    (hsep:∀ L o b L' o',lk u L=some o->lk u L'=some o'->fF g' L o b->fF g' L' o' b->L=L')
    (hlab:∀ L o,lk u L=some o->∀ M∈dJ o,∃ o',lk σ.aC M=some o') (hnK:∀ b o,g'.h b=some o->g.h b=some o\/w.heap.size<=b\/b∈K) (log:List (Nat×Nat×Nat)) :
    bY P nt B w0 h0 g' ⟨kills (fO kl) σ.env,u ++ kills (dX kl) σ.aC,log⟩ a w':=by
  have hlk:∀ M x,lk (u ++ kills (dX kl) σ.aC) M=some x->lk u M=some x\/(lk u M=none/\M ∉ kl/\∃ o,lk σ.aC M=some o/\x=dX kl o):=by
    intro M x h;rw[fG] at h;cases hM:lk u M with
    | some y=>rw[hM] at h;exact .inl h
    | none =>
      rw[hM] at h;simp only[] at h;rw[lX] at h;obtain⟨o,ho,rfl⟩:=TJ.1 h;exact .inr ⟨rfl,λ hk=>hkl M hk hM,o,ho,rfl⟩
  have hdom:∀ M o,lk σ.aC M=some o->∃ x,lk (u ++ kills (dX kl) σ.aC) M=some x:=by
    intro M o h;rw[fG];cases lk u M with
    | some y=>exact⟨y,rfl⟩
    | none=>simp only[];rw[lX,h];exact⟨_,rfl⟩
  have FI:∀ M o,M ∉ kl->fF g' M (dX kl o)=fF g M o:=by
    intro M o hne;have:=hs M hne;funext k;cases o <;> simp[dX,fF,this.1,this.2.1,this.2.2]
  have hKB:∀ b∈K,B<=b/\g.h b=none:=λ b hb=>by
    obtain⟨L,_,o',_,h2,h3⟩:=hK b hb;exact S.own L o' b h2 h3
  have hout:∀ M o k,lk u M=none->lk σ.aC M=some o->fF g M o k->k ∉ K:=λ M o k h1 h2 h3 hk=>by
    obtain⟨L,x,o',h4,h5,h6⟩:=hK k hk;rw[S.sep M o k L o' h2 h5 h3 h6,h4] at h1;cases h1
  have hold:∀ M o k,lk u M=none->lk σ.aC M=some o->fF g M o k->w'.heap[k]? = w.heap[k]?:=λ M o k h1 h2 h3 =>
    hX.block k (gu (S.obj M o h2) h3) (hout M o k h1 h2 h3)
  refine⟨S.dfr.mono hle,S.size,?_,?_,?_,?_,hw',λ b o h=>hle _ _ (S.le0 b o h),?_,S.below.trans ⟨hX.os,hX.tape,hX.output,hX.size,hX.drawn,λ k hk=>hX.block k (dqS hk S.bs) (λ hkK=>by have:=(hKB k hkK).1;omega)⟩,Ci S.bs hX.size,?_,?_⟩
  · intro t d ht;rw[lX] at ht;obtain⟨d',hd',rfl⟩:=TJ.1 ht;exact WV hle hbk hs (S.env t d' hd')
  · intro M x hx;rcases hlk M x hx with hx | ⟨hn,hne,o,ho,rfl⟩
    · exact hv M x hx
    · have hw2 : ∀ k, fF g M o k → w'.heap[k]? = w.heap[k]? := fun k hk => hold M o k hn ho hk;have hr:=S.obj M o ho;have hsM:=hs M hne;cases o with
      | box ty cs =>
        obtain⟨C,hC,hr⟩:=hr;exact⟨C,by rw[hbk M,hw2 _ rfl];exact hC,yQ hle hbk hs hr⟩
      | _=>exact iQ (o:=dX kl _) hr hsM (λ L hL=>by simp[dJ,dX] at hL) hle hw2
  · intro M x k hx hk;rcases hlk M x hx with hx | ⟨hn,hne,o,ho,rfl⟩
    · obtain ⟨h1, h2⟩ := hob M x k hx hk;exact⟨h1.elim (λ h=>(hKB k h).1) (λ h=>Ci S.bs h),h2⟩
    · rw [FI M o hne] at hk;obtain⟨h1,h2⟩:=S.own M o k ho hk;refine⟨h1,?_⟩;cases hh:g'.h k with
      | none=>rfl
      | some y =>
        rcases hnK k y hh with h3 | h3 | h3
        · rw[h2] at h3;cases h3
        · exact absurd (gu (S.obj M o ho) hk) (by omega)
        · exact (hout M o k hn ho hk h3).elim
  · intro M x k M' x' hx hx' hk hk';have cross:∀ M o L y,lk u M=none->lk σ.aC M=some o->fF g M o k->lk u L=some y->fF g' L y k->False:=by
      intro M o L y hn ho hk hy hk';rcases (hob L y k hy hk').1 with h | h
      · exact hout M o k hn ho hk h
      · exact absurd (gu (S.obj M o ho) hk) (by omega)
    rcases hlk M x hx with hx | ⟨hn,hne,o,ho,rfl⟩ <;> rcases hlk M' x' hx' with hx' | ⟨hn',hne',o2,ho2,rfl⟩
    · exact hsep M x k M' x' hx hx' hk hk'
    · rw [FI M' o2 hne'] at hk';exact (cross M' o2 M x hn' ho2 hk' hx hk).elim
    · rw [FI M o hne] at hk;exact (cross M o M' x' hn ho hk hx' hk').elim
    · rw [FI M o hne] at hk; rw [FI M' o2 hne'] at hk';exact S.sep M o k M' o2 ho ho2 hk hk'
  · intro b o h;rcases hnK b o h with h | h | h
    · exact S.hn b o h
    · exact .inr (Ci S.bs h)
    · exact .inr (hKB b h).1
  · intro t d ht M hM;rw[lX] at ht;obtain⟨d',hd',rfl⟩:=TJ.1 ht;obtain⟨o,ho⟩:=S.clE t d' hd' M (Ku M hM);exact hdom M o ho
  · intro M x hx N hN;rcases hlk M x hx with hx | ⟨hn,hne,o,ho,rfl⟩
    · obtain⟨o',ho'⟩:=hlab M x hx N hN;exact hdom N o' ho'
    · obtain ⟨o2, ho2⟩ := S.clO M o ho N (Kv N hN);exact hdom N o2 ho2

theorem bY.frozen0 (S:bY P nt B w0 h0 g σ a w):eG g (lk σ.aC) [] g.h :=
 ⟨λ _ _ h=>h,λ _ _ _ _ _ _ _ h=>by simp at h,λ L s n get h=>(S.obj L _ h).1,λ _ _ _ _ _ _ _ _ _ _ h=>by simp at h,
  λ _ _ _ _ _ _ _ _ h=>by simp at h,λ L l h=>S.obj L _ h,λ b hb o ho=>by rw[hb] at ho;cases ho⟩

def kO (g : Gh) (L : Nat) : AO → List Nat
  | .box _ _=>[g.bk L]
  | .vec _ _ _ _ _=>(g.sv L).ownBlock.toList
  | .mo _ _ _ _ _=>[lW (g.sv L)]
  | _=>[]
theorem MB {L:Nat}{o:AO}{b:Nat}(h:b∈kO g L o):fF g L o b:=by
 cases o with
 | box ty cs=>simp only[kO,jQ] at h;exact h.symm
 | vec e s b' n get=>simpa [kO,fF] using h
 | mo kt vt q n F=>simp only[kO,jQ] at h;exact h.symm
 | _=>simp[kO] at h
theorem zcP (L:Nat) (o:AO):(kO g L o).Nodup:=by
 cases o with
 | vec e s b' n get=>simp only[kO];cases (g.sv L).ownBlock <;> simp
 | _=>simp[kO]
def Qa : AO → Prop
  | .box _ _=>True
  | .vec _ _ _ _ _=>True
  | .mo _ _ _ _ _=>True
  | _=>False
theorem AV {L:Nat}{o:AO}{b:Nat}(ho:Qa o) (h:fF g L o b):b∈kO g L o:=by
 cases o with
 | box ty cs=>simp only[kO,jQ];exact h.symm
 | vec e s b' n get=>simpa [kO,fF] using h
 | mo kt vt q n F=>simp only[kO,jQ];exact h.symm
 | _=>exact ho.elim
def kB (g:Gh) (ob:Nat->Option AO) (L:Nat):List Nat:=match ob L with | some o=>kO g L o | none=>[]

theorem FV {α : Type} {f : α → List Nat} : ∀ {l : List α}, l.Nodup → (∀ x ∈ l, (f x).Nodup) → (∀ x y b, x ∈ l → y ∈ l → b ∈ f x → b ∈ f y → x = y) → (l.flatMap f).Nodup
  | [],_,_,_=>by simp
  | x :: l,hn,h1,h2=>by
    rw[lT,List.nodup_append];obtain⟨hx,hl⟩:=List.nodup_cons.1 hn;refine⟨h1 x jS,FV hl (λ y hy=>h1 y (jc _ hy)) (λ y z b hy hz=>h2 y z b (jc _ hy) (jc _ hz)),?_⟩;intro b hb c hc e;subst e;obtain⟨y,hy,hby⟩:=jA.1 hc;exact hx (by rw[h2 x y b jS (jc _ hy) hb hby];exact hy)
theorem AX {α : Type} {f : α → List Nat} : ∀ {l : List α}, (l.flatMap f).Nodup → ∀ x y b, x ∈ l → y ∈ l → b ∈ f x → b ∈ f y → x = y
  | [],_,_,_,_,hx,_,_,_=>by simp at hx
  | z :: l,hn,x,y,b,hx,hy,h1,h2=>by
    rw[lT,List.nodup_append] at hn;obtain⟨_,hl,hd⟩:=hn;rcases jm.1 hx with ex | hx' <;> rcases jm.1 hy with ey | hy'
    · rw[ex,ey]
    · rw[ex] at h1;exact (hd b h1 b (jA.2 ⟨y,hy',h2⟩) rfl).elim
    · rw[ey] at h2;exact (hd b h2 b (jA.2 ⟨x,hx',h1⟩) rfl).elim
    · exact AX hl x y b hx' hy' h1 h2
theorem jZ : ∀ {l : List Nat}, pU l = true → l.Nodup
  | [],_=>List.nodup_nil
  | x :: l,h=>by
    simp only[pU,fA,Bool.not_eq_true'] at h;exact List.nodup_cons.2 ⟨by simpa using h.1,jZ h.2⟩

def Un [dh] (g:Gh) (sf:jC):Prop:=∀ f np ls,sf=some (f,np,ls)->dh.f=f/\dh.np=np/\dh.bs=ls.map g.bk
theorem W9 : ∀ {caps : List pM} {ls : List Nat} {cv : List Value}, EO caps ls = true → RL (DJ g) caps cv → cv = (ls.map g.bk).map uP
  | [],[],[],_,_=>rfl
  | [],[],_ :: _,_,h=>h.elim
  | [],_ :: _,_,h,_=>by cases h
  | .v _ :: _,[],_,h,_=>by cases h
  | .v _ :: _,_ :: _,_,h,_=>by cases h
  | .b _ :: _,[],_,h,_=>by cases h
  | .b _ :: _,_ :: _,[],_,h=>h.elim
  | .b L :: caps,M :: ls,v :: cv,h,hr=>by
    simp only[EO,fA] at h;have e:=jk h.1;subst e;rw[nR,nR,<- W9 h.2 hr.2];have:=hr.1;simp only[DJ] at this;rw[this];rfl
theorem Qb : ∀ {caps : List pM} {ls : List Nat}, EO caps ls = true → RL (DJ g) caps ((ls.map g.bk).map uP)
  | [],[],_=>trivial
  | [],_ :: _,h=>by cases h
  | .v _ :: _,[],h=>by cases h
  | .v _ :: _,_ :: _,h=>by cases h
  | .b _ :: _,[],h=>by cases h
  | .b L :: caps,M :: ls,h=>by
    simp only[EO,fA] at h;have e:=jk h.1;subst e;exact⟨rfl,Qb h.2⟩
theorem Qc {sf:jC}{f:FuncId}{caps:List pM}{x:XC}(h:zoC sf f caps=some x):∃ np ls,sf=some (f,np,ls)/\EO caps ls=true/\x=.slf f np ls.length:=by
 unfold zoC at h;split at h
 ·rename_i f' np ls;split at h
  ·rename_i hc;simp only[fA] at hc;have e:=jk hc.1;subst e;simp only[bP] at h;exact⟨np,ls,rfl,hc.2,h.symm⟩
  ·cases h
 ·cases h
theorem Xa [dh] {sf:jC}(hsf:Un g sf) (S:bY P nt B w0 h0 g σ a w):∀ {cells:List Cl}{cs:List XC}{ms:List Nat}{vs:List Value},gz sf (lk σ.aC) cells=some (cs,ms)->RL (gX g) cells vs ->
  RL (xcR P g.h w B) cs vs/\qM cs vs=ms.flatMap (kB g (lk σ.aC))/\∀ M∈ms,∃ o,lk σ.aC M=some o/\Qa o
 | [],cs,ms,[],h,_=>by
  simp only[gz,bP,eQ] at h;obtain⟨rfl,rfl⟩:=h;exact⟨trivial,rfl,λ M hM=>by simp at hM⟩
 | [],_,_,_ :: _,_,hr=>hr.elim
 | _ :: _,_,_,[],_,hr=>hr.elim
 | c :: cells,cs,ms,v :: vs,h,hr=>by
  simp only[gz] at h;split at h
  ·rename_i l ms' h1;obtain⟨i1,i2,i3⟩:=Xa hsf S h1 hr.2;split at h
   ·rename_i p;simp only[bP,eQ] at h;obtain⟨rfl,rfl⟩:=h;exact⟨⟨hr.1,i1⟩,by simp only[qM,Y3,List.nil_append];exact i2,i3⟩
   ·rename_i M;split at h
    ·rename_i e s b n get hM;simp only[bP,eQ] at h;obtain⟨rfl,rfl⟩:=h;obtain⟨hp,hi,hx⟩:=S.obj M _ hM;have hv:v=g.sv M:=hr.1.1;refine⟨⟨⟨hr.1.2,hp,hi,by rw[hv];exact hx⟩,i1⟩,?_,λ K hK=>?_⟩
     ·simp only [qM, Y3, lT, i2, hv];rw[show kB g (lk σ.aC) M=(g.sv M).ownBlock.toList by simp only[kB,hM,kO]]
     ·rcases jm.1 hK with e | hK
      ·rw[e];exact⟨_,hM,trivial⟩
      ·exact i3 K hK
    ·cases h
   ·rename_i M;split at h
    ·rename_i kt vt q n F hM;simp only[bP,eQ] at h;obtain⟨rfl,rfl⟩:=h;obtain⟨es,clock,hh,hx⟩:=S.obj M _ hM;have hv:v=.map (some (lW (g.sv M))):=hr.1;refine⟨⟨⟨_,es,clock,hv,hh,hx⟩,i1⟩,?_,λ K hK=>?_⟩
     ·simp only [qM, Y3, lT, i2, hv];rw[show kB g (lk σ.aC) M=[lW (g.sv M)] by simp only[kB,hM,kO]];rfl
     ·rcases jm.1 hK with e | hK
      ·rw[e];exact⟨_,hM,trivial⟩
      ·exact i3 K hK
    ·cases h
   ·split at h
    ·rename_i x hx;simp only[bP,eQ] at h;obtain⟨rfl,rfl⟩:=h;obtain⟨np,ls,e1,e2,rfl⟩:=Qc hx;obtain⟨q1,q2,q3⟩:=hsf _ _ _ e1;obtain⟨cv,hv,hcv⟩:=hr.1;refine⟨⟨⟨q1.symm,q2.symm,by rw[q3,List.length_map],by rw[hv,W9 e2 hcv,<- q1,<- q3];rfl⟩,i1⟩,by simp only[qM,Y3,List.nil_append];exact i2,i3⟩
    ·cases h
   ·cases h
  ·cases h

def isB (ob:Nat->Option AO) (L:Nat):Prop:=∃ o,ob L=some o/\Qa o
theorem zcQ [dh] {sf : jC} (S : bY P nt B w0 h0 g σ a w) (hsf : Un g sf) {d : DV} {x : XA} {ls ms : List Nat} {v : Value} (h : wQ sf (lk σ.aC) d = some (x, ls, ms)) (hr : o6 g d v) :
  wS P g.h w B x v/\Py w x v=ls.flatMap (kB g (lk σ.aC))/\∀ L∈ls,isB (lk σ.aC) L:=by
 have data:o5 (lk σ.aC) d=some (x,ls,ms)->wS P g.h w B x v/\Py w x v=ls.flatMap (kB g (lk σ.aC))/\∀ L∈ls,isB (lk σ.aC) L:=by
  intro h;unfold o5 at h;split at h
  ·rename_i y hy;simp only[bP,eQ] at h;obtain⟨rfl,rfl,rfl⟩:=h;exact⟨S.frozen0.repD hy (λ _ h=>h) hr,rfl,λ L hL=>by simp at hL⟩
  ·cases h
 unfold wQ at h;split at h
 ·rename_i L;split at h
  ·rename_i ty cells hL;split at h
   ·rename_i cs ms' hc;simp only[bP,eQ] at h;obtain⟨rfl,rfl,rfl⟩:=h;obtain⟨C,hC,hcr⟩:=S.obj L _ hL;obtain⟨i1,i2,i3⟩:=Xa hsf S hc hcr;have hv:v=.pointer (some ⟨g.bk L,0,none⟩):=hr;subst hv;refine⟨⟨_,C,rfl,hC,i1⟩,?_,λ K hK=>?_⟩
    ·simp only [Py, hC, lT, i2];rw[show kB g (lk σ.aC) L=[g.bk L] by simp only[kB,hL,kO]];rfl
    ·rcases jm.1 hK with e | hK
     ·rw[e];exact⟨_,hL,trivial⟩
     ·exact i3 K hK
   ·cases h
  ·exact data h
 ·exact data h
theorem Xb [dh] {sf:jC}(S:bY P nt B w0 h0 g σ a w) (hsf:Un g sf):∀ {ds:List DV}{xs:List XA}{ls ms:List Nat}{vs:List Value},jo sf (lk σ.aC) ds=some (xs,ls,ms)->RL (o6 g) ds vs ->
  RL (wS P g.h w B) xs vs/\mV w xs vs=ls.flatMap (kB g (lk σ.aC))/\∀ L∈ls,isB (lk σ.aC) L
 | [],xs,ls,ms,[],h,_=>by
  simp only[jo,bP,eQ] at h;obtain⟨rfl,rfl,rfl⟩:=h;exact⟨trivial,rfl,λ L hL=>by simp at hL⟩
 | [],_,_,_,_ :: _,_,hr=>hr.elim
 | _ :: _,_,_,_,[],_,hr=>hr.elim
 | d :: ds,xs,ls,ms,v :: vs,h,hr=>by
  simp only[jo] at h;split at h
  ·rename_i x bl m1 xs' bls m2 h1 h2;simp only[bP,eQ] at h;obtain⟨rfl,rfl,rfl⟩:=h;obtain⟨i1,i2,i3⟩:=zcQ S hsf h1 hr.1;obtain⟨j1,j2,j3⟩:=Xb S hsf h2 hr.2;refine⟨⟨i1,j1⟩,by simp only[mV,i2,j2,List.flatMap_append],λ L hL=>?_⟩;rcases dL.1 hL with h | h
   ·exact i3 L h
   ·exact j3 L h
  ·cases h
theorem CO (S:bY P nt B w0 h0 g σ a w){ls:List Nat}(hn:ls.Nodup):(ls.flatMap (kB g (lk σ.aC))).Nodup:=by
 refine FV hn (λ L _=>?_) λ L L' b _ _ h1 h2=>?_
 ·unfold kB; split
  ·exact zcP L _
  ·exact List.nodup_nil
 ·unfold kB at h1 h2;split at h1
  ·rename_i o ho;split at h2
   ·rename_i o' ho';exact S.sep L o b L' o' ho ho' (MB h1) (MB h2)
   ·simp at h2
  ·simp at h1

def cN : List Cl → List Value → List (Nat × Value)
  | .vec M :: cs,v :: vs=>(M,v) :: cN cs vs
  | .mo M :: cs,v :: vs=>(M,v) :: cN cs vs
  | _ :: cs,_ :: vs=>cN cs vs
  | _,_=>[]
def aN (w:World) (ob:Nat->Option AO) (d:DV) (v:Value):List (Nat×Value) :=
 match d,v with
 | .one (.c (.ptr L 0)),.pointer (some a)=>match ob L,w.heap[a.block]? with
  | some (.box _ cells),some (.cells C _ _)=>cN cells C.toList
  | _,_=>[]
 | _,_=>[]
def asN (w : World) (ob : Nat → Option AO) : List DV → List Value → List (Nat × Value)
  | d :: ds,v :: vs=>aN w ob d v ++ asN w ob ds vs
  | _,_=>[]

theorem lY {sf:jC}{ob:Nat->Option AO}{L:Nat} : wQ sf ob (.one (.c (.ptr L 0)))=match ob L with
  | some (.box ty cells)=>match gz sf ob cells with
   | some (cs,ms)=>some (.box ty cs,L :: ms,ms)
   | none=>none
  | _=>o5 ob (.one (.c (.ptr L 0))):=rfl
section put
variable [dh] {sf:jC}{h':Fz}{w':World}{g':Gh}(hh:g'.h=h') (hbk:∀ M,g'.bk M=g.bk M) (hsf:Un g' sf)
include hh hsf
theorem yR:∀ {cells l:List Cl}{ys cs:List XC}{u:List (Nat×AO)}{ls:List Nat}{vs:List Value},fM cells ys=some (l,u)->gz sf (lk σ.aC) cells=some (cs,ls)->RL (xcR P h' w' B) ys vs->(∀ x∈cN cells vs,g'.sv x.1=x.2) ->
  RL (gX g') l vs/\(∀ x∈u,Qa x.2/\dJ x.2=[]/\Jt P g' w' B x.1 x.2)/\qM ys vs=u.flatMap (λ x=>kO g' x.1 x.2)/\u.map (·.1)=ls/\(cN cells vs).map (·.1)=ls/\∀ M∈l.flatMap bu,M∈cells.flatMap bu
 | [],l,[],cs,u,ls,vs,h,h2,hr,_=>by
  simp only[fM,bP,eQ] at h;obtain⟨rfl,rfl⟩:=h;simp only[gz,bP,eQ] at h2;obtain⟨rfl,rfl⟩:=h2;cases vs with
  | nil=>exact⟨trivial,λ x hx=>by simp at hx,rfl,rfl,rfl,λ M hM=>hM⟩
  | cons=>exact hr.elim
 | c :: cells,l,y :: ys,cs,u,ls,[],h,h2,hr,_=>hr.elim
 | c :: cells,l,y :: ys,cs,u,ls,v :: vs,h,h2,hr,hsv=>by
  unfold fM at h;split at h
  ·rename_i e;simp at e
  ·rename_i p cells' q ys' e1 e2;simp only[Cf] at e1 e2;obtain⟨rfl,rfl⟩:=e1;obtain⟨rfl,rfl⟩:=e2;split at h
   ·rename_i l1 u1 hp;simp only[bP,eQ] at h;obtain⟨rfl,rfl⟩:=h;simp only[gz] at h2;split at h2
    ·rename_i c1 m1 hc;simp only[bP,eQ] at h2;obtain⟨rfl,rfl⟩:=h2;obtain⟨i1,i2,i3,i4,i5,i6⟩:=yR hp hc hr.2 (λ x hx=>hsv x hx);refine⟨⟨by have:=hr.1;show Rep g'.h q v;rw[hh];exact this,i1⟩,i2,by simp only[qM,Y3,List.nil_append];exact i3,i4,i5,λ M hM=>?_⟩;simp only[lT,bu,List.nil_append] at hM ⊢;exact i6 M hM
    ·cases h2
   ·cases h
  ·rename_i M cells' e s b n get ys' e1 e2;simp only[Cf] at e1 e2;obtain⟨rfl,rfl⟩:=e1;obtain⟨rfl,rfl⟩:=e2;split at h
   ·rename_i l1 u1 hp;simp only[bP,eQ] at h;obtain⟨rfl,rfl⟩:=h;simp only[gz] at h2;split at h2
    ·rename_i c1 m1 hc;split at h2
     ·simp only [bP, eQ] at h2; obtain ⟨rfl, rfl⟩ := h2;obtain⟨i1,i2,i3,i4,i5,i6⟩:=yR hp hc hr.2 (λ x hx=>hsv x (jc _ hx));have hv:g'.sv M=v:=hsv (M,v) jS;obtain⟨h1,hp1,hi1,hx1⟩:=hr.1;refine⟨⟨⟨hv.symm,h1⟩,i1⟩,λ x hx=>?_,?_,by simp[i4],by simp[cN,i5],λ K hK=>?_⟩
      ·rcases jm.1 hx with e | hx
       ·subst e;refine⟨trivial,rfl,hp1,hi1,?_⟩;show wR g'.h w' B e s (g'.sv M) n get;rw[hv,hh];exact hx1
       ·exact i2 x hx
      ·simp only[qM,Y3,lT,kO,hv,i3]
      ·simp only [lT, dL] at hK ⊢;exact hK.imp_right (i6 K)
     ·cases h2
    ·cases h2
   ·cases h
  ·rename_i M cells' kt vt q n F ys' e1 e2;simp only[Cf] at e1 e2;obtain⟨rfl,rfl⟩:=e1;obtain⟨rfl,rfl⟩:=e2;split at h
   ·rename_i l1 u1 hp;simp only[bP,eQ] at h;obtain⟨rfl,rfl⟩:=h;simp only[gz] at h2;split at h2
    ·rename_i c1 m1 hc;split at h2
     ·simp only [bP, eQ] at h2; obtain ⟨rfl, rfl⟩ := h2;obtain⟨i1,i2,i3,i4,i5,i6⟩:=yR hp hc hr.2 (λ x hx=>hsv x (jc _ hx));have hv:g'.sv M=v:=hsv (M,v) jS;obtain⟨b,es,clock,h1,hh1,hx1⟩:=hr.1;subst h1;have hb:lW (g'.sv M)=b:=by rw[hv];rfl
      refine⟨⟨by show Value.map (some b)=.map (some (lW (g'.sv M)));rw[hb],i1⟩,λ x hx=>?_,?_,by simp[i4],by simp[cN,i5],λ K hK=>?_⟩
      ·rcases jm.1 hx with e | hx
       ·subst e;exact⟨trivial,rfl,es,clock,by rw[hb];exact hh1,hx1⟩
       ·exact i2 x hx
      ·simp only[qM,Y3,lT,kO,hb,i3];rfl
      ·simp only [lT, dL] at hK ⊢;exact hK.imp_right (i6 K)
     ·cases h2
    ·cases h2
   ·cases h
  ·rename_i f caps cells' f2 np2 n2 ys' e1 e2;simp only[Cf] at e1 e2;obtain⟨rfl,rfl⟩:=e1;obtain⟨rfl,rfl⟩:=e2;split at h
   ·rename_i l1 u1 hp;simp only[bP,eQ] at h;obtain⟨rfl,rfl⟩:=h;simp only[gz] at h2;split at h2
    ·rename_i c1 m1 hc;split at h2
     ·rename_i x hx;simp only[bP,eQ] at h2;obtain⟨rfl,rfl⟩:=h2;obtain⟨i1,i2,i3,i4,i5,i6⟩:=yR hp hc hr.2 (λ x hx=>hsv x hx);obtain⟨np,ls,e1,e2,rfl⟩:=Qc hx;obtain⟨q1,q2,q3⟩:=hsf _ _ _ e1;obtain⟨_,_,_,hv⟩:=hr.1;refine⟨⟨⟨(ls.map g'.bk).map uP,by rw[hv,<- q1,<- q3];rfl,Qb e2⟩,i1⟩,i2,by simp only[qM,Y3,List.nil_append];exact i3,i4,i5,λ M hM=>?_⟩;simp only[lT,dL] at hM ⊢;exact hM.imp_right (i6 M)
     ·cases h2
    ·cases h2
   ·cases h
  ·cases h
 | [],_,_ :: _,_,_,_,_,h,_,_,_=>by simp[fM] at h
 | _ :: _,_,[],_,_,_,_,h,_,_,_=>by simp[fM] at h
include hbk
theorem zoV (S : bY P nt B w0 h0 g σ a w) {d : DV} {x y : XA} {u : List (Nat × AO)} {ls ms : List Nat} {v : Value} (h : DI (lk σ.aC) d y = some u) (h2 : wQ sf (lk σ.aC) d = some (x, ls, ms)) (hd : o6 g d v) (hr : wS P h' w' B y v)
    (hsv:∀ x∈aN w' (lk σ.aC) d v,g'.sv x.1=x.2) :
    (∀ x∈u,Qa x.2/\(∀ M∈dJ x.2,∃ o',lk σ.aC M=some o')/\Jt P g' w' B x.1 x.2)/\Py w' y v=u.flatMap (λ x=>kO g' x.1 x.2)/\u.map (·.1)=ls/\(aN w' (lk σ.aC) d v).map (·.1)=ms:=by
  have data:o5 (lk σ.aC) d=some (x,ls,ms)->ls=[]/\ms=[]:=by
    intro h;unfold o5 at h;split at h
    · simp only[bP,eQ] at h;exact⟨h.2.1.symm,h.2.2.symm⟩
    · cases h
  unfold DI at h;split at h
  · rename_i L;split at h
    · rename_i ty' cells hL;rw[lY,hL] at h2;dsimp only at h2;split at h2
      · rename_i cs ms' hc;simp only[bP,eQ] at h2;obtain⟨rfl,rfl,rfl⟩:=h2;split at h
        · rename_i ty cs';split at h
          · rename_i l u' hty hp;simp only[bP] at h;subst h;have hty:=jk hty;subst hty;obtain⟨k,C,rfl,hC,hrl⟩:=hr;have hk:k=g.bk L:=by
              have hd:Value.pointer (some ⟨k,0,none⟩)=.pointer (some ⟨g.bk L,0,none⟩):=hd;simpa using hd
            subst hk;simp only[aN,hL,hC] at hsv ⊢;obtain⟨i1,i2,i3,i4,i5,i6⟩:=yR (P:=P) (B:=B) hh hsf hp hc hrl hsv;refine⟨λ x hx=>?_,?_,by simp[i4],i5⟩
            · rcases jm.1 hx with e | hx
              · subst e;refine⟨trivial,λ M hM=>S.clO L _ hL M (i6 M hM),C,?_,i1⟩;show w'.heap[g'.bk L]? = _;rw[hbk];exact hC
              · obtain ⟨j1, j2, j3⟩ := i2 x hx;exact⟨j1,λ M hM=>by rw[j2] at hM;simp at hM,j3⟩
            · simp only[Py,hC,lT,kO,hbk,i3];rfl
          · cases h
        · cases h
      · cases h2
    · rename_i hno;have hx:o5 (lk σ.aC) (.one (.c (.ptr L 0)))=some (x,ls,ms):=by
        rw[lY] at h2;cases hL:lk σ.aC L with
        | none=>rw[hL] at h2;exact h2
        | some o =>
          rw[hL] at h2;cases o with
          | box ty cells=>exact absurd hL (hno _ _)
          | _=>exact h2
      obtain⟨rfl,rfl⟩:=data hx;split at h
      · simp only [bP] at h; subst h;refine⟨λ x hx=>by simp at hx,rfl,rfl,?_⟩;have e:aN w' (lk σ.aC) (.one (.c (.ptr L 0))) v=[]:=by
          cases v with
          | pointer p=>cases p with
            | none=>rfl
            | some ad =>
              simp only[aN];cases hL:lk σ.aC L with
              | none=>rfl
              | some o =>
                cases o with
                | box ty cells=>exact (hno _ _ hL).elim
                | _=>rfl
          | _=>rfl
        rw[e];rfl
      · cases h
  · rename_i hno;have hx:o5 (lk σ.aC) d=some (x,ls,ms):=by
      unfold wQ at h2;split at h2
      · exact (hno _ rfl).elim
      · exact h2
    obtain⟨rfl,rfl⟩:=data hx;split at h
    · simp only [bP] at h; subst h;refine⟨λ x hx=>by simp at hx,rfl,rfl,?_⟩;have e:aN w' (lk σ.aC) d v=[]:=by
        unfold aN;split
        · exact (hno _ rfl).elim
        · rfl
      rw[e];rfl
    · cases h
theorem Xc (S:bY P nt B w0 h0 g σ a w):∀ {ds:List DV}{xs ys:List XA}{u:List (Nat×AO)}{ls ms:List Nat}{vs:List Value},iO (lk σ.aC) ds ys=some u->jo sf (lk σ.aC) ds=some (xs,ls,ms)->RL (o6 g) ds vs->RL (wS P h' w' B) ys vs ->
  (∀ x∈asN w' (lk σ.aC) ds vs,g'.sv x.1=x.2) ->
  (∀ x∈u,Qa x.2/\(∀ M∈dJ x.2,∃ o',lk σ.aC M=some o')/\Jt P g' w' B x.1 x.2)/\mV w' ys vs=u.flatMap (λ x=>kO g' x.1 x.2)/\u.map (·.1)=ls/\(asN w' (lk σ.aC) ds vs).map (·.1)=ms
 | [],xs,[],u,ls,ms,vs,h,h2,hd,hr,_=>by
  simp only[iO,bP] at h;subst h;simp only[jo,bP,eQ] at h2;obtain⟨rfl,rfl,rfl⟩:=h2;cases vs with
  | nil=>exact⟨λ x hx=>by simp at hx,rfl,rfl,rfl⟩
  | cons=>exact hr.elim
 | d :: ds,xs,y :: ys,u,ls,ms,[],h,h2,hd,hr,_=>hr.elim
 | d :: ds,xs,y :: ys,u,ls,ms,v :: vs,h,h2,hd,hr,hsv=>by
  simp only[iO] at h;split at h
  ·rename_i u1 u2 e1 e2;simp only[bP] at h;subst h;simp only[jo] at h2;split at h2
   ·rename_i x bl m1 xs' bls m2 h3 h4;simp only[bP,eQ] at h2;obtain⟨rfl,rfl,rfl⟩:=h2;obtain⟨i1,i2,i3,i4⟩:=Xc S e2 h4 hd.2 hr.2 (λ x hx=>hsv x (dL.2 (.inr hx)));obtain⟨j1,j2,j3,j4⟩:=zoV hh hbk hsf S e1 h3 hd.1 hr.1 (λ x hx=>hsv x (dL.2 (.inl hx)));exact⟨λ x hx=>(dL.1 hx).elim (j1 x) (i1 x),by simp only[mV,i2,j2,List.flatMap_append],by simp[i3,j3],by simp[asN,i4,j4]⟩
   ·cases h2
  ·cases h
 | [],_,_ :: _,_,_,_,_,h,_,_,_,_=>by simp[iO] at h
 | _ :: _,_,[],_,_,_,_,h,_,_,_,_=>by simp[iO] at h
end put

theorem AY {α : Type} : ∀ {l : List (Nat × α)} {k : Nat} {x : α}, (l.map (·.1)).Nodup → (k, x) ∈ l → lk l k = some x
  | [],_,_,_,h=>by simp at h
  | (j,y) :: l,k,x,hn,h=>by
    rw[nR,List.nodup_cons] at hn;rw[aW];rcases jm.1 h with e | h'
    · simp only[eQ] at e;rw[if_pos e.1.symm,e.2]
    · rw [if_neg (fun e => hn.1 (by rw [e]; exact uF.2 ⟨_, h', rfl⟩))];exact AY hn.2 h'
theorem wo {α:Type}{l:List (Nat×α)}{k:Nat}(h:k∈l.map (·.1)):∃ x,lk l k=some x:=by
 cases hk:lk l k with
 | some x=>exact⟨x,rfl⟩
 | none =>
  obtain⟨⟨j,x⟩,hx,rfl⟩:=uF.1 h;exact (L6 hk x hx).elim
theorem zcR {sf:jC}{ob:Nat->Option AO}{d:DV}{x:XA}{ls ms:List Nat}(h:wQ sf ob d=some (x,ls,ms)):∀ M∈ms,M∈ls:=by
 have data:o5 ob d=some (x,ls,ms)->∀ M∈ms,M∈ls:=by
  intro h;unfold o5 at h;split at h
  ·simp only[bP,eQ] at h;rw[<- h.2.2];exact λ M hM=>by simp at hM
  ·cases h
 unfold wQ at h;split at h
 ·split at h
  ·split at h
   ·simp only[bP,eQ] at h;rw[<- h.2.1,<- h.2.2];exact λ M hM=>jc _ hM
   ·cases h
  ·exact data h
 ·exact data h
theorem KD {sf : jC} {ob : Nat → Option AO} : ∀ {ds : List DV} {xs : List XA} {ls ms : List Nat}, jo sf ob ds = some (xs, ls, ms) → ∀ M ∈ ms, M ∈ ls
  | [],xs,ls,ms,h=>by
    simp only[jo,bP,eQ] at h;rw[<- h.2.2];exact λ M hM=>by simp at hM
  | d :: ds,xs,ls,ms,h=>by
    simp only[jo] at h;split at h
    · rename_i x bl m1 xs' bls m2 h1 h2;simp only[bP,eQ] at h;obtain⟨rfl,rfl,rfl⟩:=h;intro M hM;exact dL.2 ((dL.1 hM).imp (zcR h1 M) (KD h2 M))
    · cases h
theorem xI (x:Cl):eU [] x=x:=by cases x <;> rfl
theorem CQ (x:D1):eF [] x=x:=by
 cases x with
 | c y=>simp only[eF,xI]
 | agg cs=>simp only[eF,show eU []=id from funext xI,List.map_id]
theorem Uo (x:DV):fO [] x=x:=by
 cases x with
 | one y=>simp only[fO,CQ]
 | tup ds=>simp only[fO,show eF []=id from funext CQ,List.map_id]
theorem Ur (x:AO):dX [] x=x:=by
 cases x with
 | box ty cs=>simp only[dX,show eU []=id from funext xI,List.map_id]
 | _=>rfl
theorem FW {α : Type} {f : α → α} (hf : ∀ x, f x = x) : ∀ l : List (Nat × α), kills f l = l
  | []=>rfl
  | (k,x) :: l=>by simp only[kills,hf x,FW hf l]
theorem zcS {dst : Option Nat} {fp : List (Nat × Bool)} {d : DV} {u : List (Nat × AO)} {ms : List Nat} :
  σ.upd i dst fp d u ms=⟨Ub dst d (kills (fO ms) σ.env),u ++ kills (dX ms) σ.aC,σ.log⟩:=by
 cases ms with
 | nil=>rw[eH,FW Uo,FW Ur]
 | cons L r=>cases dst <;> rfl

theorem Xd [dh] {sf : jC} {ob : Nat → Option AO} {h' : Fz} {w' : World} : ∀ {cells : List Cl} {l : List Cl} {ys cs : List XC} {u : List (Nat × AO)} {ms : List Nat} {vs : List Value}, fM cells ys = some (l, u) → gz sf ob cells = some (cs, ms) → RL (xcR P h' w' B) ys vs → (cN cells vs).map (·.1) = ms
  | [],l,ys,cs,u,ms,vs,h,h2,hr=>by
    simp only[gz,bP,eQ] at h2;rw[<- h2.2];cases vs <;> rfl
  | c :: cells,l,[],cs,u,ms,vs,h,h2,hr=>by simp[fM] at h
  | c :: cells,l,y :: ys,cs,u,ms,[],h,h2,hr=>hr.elim
  | c :: cells,l,y :: ys,cs,u,ms,v :: vs,h,h2,hr=>by
    have hx:∃ l1 u1,fM cells ys=some (l1,u1):=by
      unfold fM at h;split at h
      · rename_i e;simp at e
      · rename_i e1 e2;simp only[Cf] at e1 e2;obtain⟨rfl,rfl⟩:=e1;obtain⟨rfl,rfl⟩:=e2;split at h
        · rename_i hp;exact⟨_,_,hp⟩
        · cases h
      · rename_i e1 e2;simp only[Cf] at e1 e2;obtain⟨rfl,rfl⟩:=e1;obtain⟨rfl,rfl⟩:=e2;split at h
        · rename_i hp;exact⟨_,_,hp⟩
        · cases h
      · rename_i e1 e2;simp only[Cf] at e1 e2;obtain⟨rfl,rfl⟩:=e1;obtain⟨rfl,rfl⟩:=e2;split at h
        · rename_i hp;exact⟨_,_,hp⟩
        · cases h
      · rename_i e1 e2;simp only[Cf] at e1 e2;obtain⟨rfl,rfl⟩:=e1;obtain⟨rfl,rfl⟩:=e2;split at h
        · rename_i hp;exact⟨_,_,hp⟩
        · cases h
      · cases h
    obtain⟨l1,u1,hp⟩:=hx;simp only[gz] at h2;split at h2
    · rename_i c1 m1 hc;have ih:=Xd hp hc hr.2;split at h2
      · simp only[bP,eQ] at h2;rw[<- h2.2];exact ih
      · split at h2
        · simp only[bP,eQ] at h2;rw[<- h2.2];simp only[cN,nR,ih]
        · cases h2
      · split at h2
        · simp only[bP,eQ] at h2;rw[<- h2.2];simp only[cN,nR,ih]
        · cases h2
      · split at h2
        · simp only[bP,eQ] at h2;rw[<- h2.2];exact ih
        · cases h2
      · cases h2
    · cases h2
theorem zhZ [dh] {sf:jC}{ob:Nat->Option AO}{h':Fz}{w':World}{d:DV}{x y:XA}{u:List (Nat×AO)}{ls ms:List Nat}{v:Value}(h:DI ob d y=some u) (h2:wQ sf ob d=some (x,ls,ms)) (hr:wS P h' w' B y v):(aN w' ob d v).map (·.1)=ms:=by
 have data:o5 ob d=some (x,ls,ms)->ms=[]:=by
  intro h;unfold o5 at h;split at h
  ·simp only[bP,eQ] at h;exact h.2.2.symm
  ·cases h
 unfold DI at h;split at h
 ·rename_i L;split at h
  ·rename_i ty' cells hL;rw[lY,hL] at h2;dsimp only at h2;split at h2
   ·rename_i cs ms' hc;simp only[bP,eQ] at h2;obtain⟨rfl,rfl,rfl⟩:=h2;split at h
    ·split at h
     ·rename_i l u' hty hp;obtain⟨k,C,rfl,hC,hrl⟩:=hr;simp only[aN,hL,hC];exact Xd hp hc hrl
     ·cases h
    ·cases h
   ·cases h2
  ·rename_i hno;have hx:o5 ob (.one (.c (.ptr L 0)))=some (x,ls,ms):=by
    rw[lY] at h2;cases hL:ob L with
    | none=>rw[hL] at h2;exact h2
    | some o =>
     rw[hL] at h2;cases o with
     | box ty cells=>exact absurd hL (hno _ _)
     | _=>exact h2
   rw[data hx];have e:aN w' ob (.one (.c (.ptr L 0))) v=[]:=by
    cases v with
    | pointer p=>cases p with
     | none=>rfl
     | some ad =>
      simp only[aN];cases hL:ob L with
      | none=>rfl
      | some o =>
       cases o with
       | box ty cells=>exact absurd hL (hno _ _)
       | _=>rfl
    | _=>rfl
   rw[e];rfl
 ·rename_i hno;have hx:o5 ob d=some (x,ls,ms):=by
   unfold wQ at h2;split at h2
   ·exact (hno _ rfl).elim
   ·exact h2
  rw[data hx];have e:aN w' ob d v=[]:=by
   unfold aN;split
   ·exact (hno _ rfl).elim
   ·rfl
  rw[e];rfl
theorem Qd [dh] {sf : jC} {ob : Nat → Option AO} {h' : Fz} {w' : World} : ∀ {ds : List DV} {xs ys : List XA} {u : List (Nat × AO)} {ls ms : List Nat} {vs : List Value}, iO ob ds ys = some u → jo sf ob ds = some (xs, ls, ms) → RL (wS P h' w' B) ys vs → (asN w' ob ds vs).map (·.1) = ms
  | [],xs,ys,u,ls,ms,vs,h,h2,hr=>by
    simp only[jo,bP,eQ] at h2;rw[<- h2.2.2];cases vs <;> rfl
  | d :: ds,xs,[],u,ls,ms,vs,h,h2,hr=>by simp[iO] at h
  | d :: ds,xs,y :: ys,u,ls,ms,[],h,h2,hr=>hr.elim
  | d :: ds,xs,y :: ys,u,ls,ms,v :: vs,h,h2,hr=>by
    simp only[iO] at h;split at h
    · rename_i u1 u2 e1 e2;simp only[jo] at h2;split at h2
      · rename_i x bl m1 xs' bls m2 h3 h4;simp only[bP,eQ] at h2;rw[<- h2.2.2];simp only[asN,List.map_append,zhZ e1 h3 hr.1, Qd e2 h4 hr.2]
      · cases h2
    · cases h

theorem Xe : ∀ {caps : List pM} {ls : List Nat} {cv : List Value}, Pj caps = some ls → RL (DJ g) caps cv → ∀ (k L : Nat), ls[k]? = some L → cv[k]? = some (uP (g.bk L))
  | [],ls,cv,h,hr,k,L,hk=>by simp only[Pj,bP] at h;subst h;simp at hk
  | .v _ :: _,ls,cv,h,hr,k,L,hk=>by cases h
  | .b M :: caps,ls,[],h,hr,k,L,hk=>hr.elim
  | .b M :: caps,ls,v :: cv,h,hr,k,L,hk=>by
    simp only[Pj] at h;split at h
    · rename_i l hl;simp only[bP] at h;subst h;cases k with
      | zero =>
        simp only[List.getElem?_cons_zero,bP] at hk ⊢;subst hk;exact hr.1
      | succ k =>
        rw[TR] at hk ⊢;exact Xe hl hr.2 k L hk
    · cases h
theorem zoW {gf np:Nat}{caps:List pM}{cv pre:List Value}(hr:RL (DJ g) caps cv) (hp:pre.length=np):∀ f np' ls,zhA gf np caps=some (f,np',ls)->∀ (k L:Nat),ls[k]? = some L->(pre ++ cv)[np'+k]? = some (uP (g.bk L)):=by
 intro f np' ls h k L hk;unfold zhA at h;split at h
 ·rename_i l hl;simp only[bP,eQ] at h;obtain⟨rfl,rfl,rfl⟩:=h;rw[List.getElem?_append_right (by omega),show np+k - pre.length=k by omega];exact Xe hl hr k L hk
 ·cases h
theorem KE : ∀ {cells l : List Cl} {ys : List XC} {u : List (Nat × AO)}, fM cells ys = some (l, u) → l.length = cells.length ∧ (∀ x ∈ u, jJ x.2 = false) ∧ ∀ f caps, l = [.clo f caps] → cells = [.clo f caps]
  | [],l,ys,u,h=>by
    cases ys with
    | nil =>
      simp only[fM,bP,eQ] at h;obtain⟨rfl,rfl⟩:=h;exact⟨rfl,λ x hx=>by simp at hx,λ f caps e=>by cases e⟩
    | cons y ys=>simp[fM] at h
  | c :: cells,l,ys,u,h=>by
    cases ys with
    | nil=>cases c <;> simp[fM] at h
    | cons y ys =>
      have ih:=λ l' u' h'=>@KE cells l' ys u' h'
      have vc:∀ (M:Nat) (o:AO) (l':List Cl) (u':List (Nat×AO)) (c':Cl),jJ o=false->(∀ f caps,c' ≠ .clo f caps)->fM cells ys=some (l',u') ->
          (c' :: l').length=(c :: cells).length/\(∀ x∈(M,o) :: u',jJ x.2=false)/\∀ f caps,c' :: l'=[.clo f caps]->c :: cells=[.clo f caps]:=λ M o l' u' c' ho hc h'=>by
        obtain⟨i1,i2,i3⟩:=ih l' u' h';refine⟨by simp[i1],λ x hx=>?_,λ f caps e=>(hc f caps (List.cons.inj e).1).elim⟩;rcases jm.1 hx with rfl | hx
        · exact ho
        · exact i2 x hx
      cases c with
      | p v =>
        cases y with
        | p v' =>
          simp only[fM] at h;split at h
          · rename_i l' u' h';simp only[bP,eQ] at h;obtain⟨rfl,rfl⟩:=h;obtain⟨i1,i2,i3⟩:=ih l' u' h';exact⟨by simp[i1],i2,λ f caps e=>by cases e⟩
          · cases h
        | _=>simp[fM] at h
      | vec M =>
        cases y with
        | vec e s b n get =>
          simp only[fM] at h;split at h
          · rename_i l' u' h';simp only[bP,eQ] at h;obtain⟨rfl,rfl⟩:=h;exact vc M _ l' u' _ rfl (λ _ _ e=>by cases e) h'
          · cases h
        | _=>simp[fM] at h
      | mo M =>
        cases y with
        | mo kt vt q n F =>
          simp only[fM] at h;split at h
          · rename_i l' u' h';simp only[bP,eQ] at h;obtain⟨rfl,rfl⟩:=h;exact vc M _ l' u' _ rfl (λ _ _ e=>by cases e) h'
          · cases h
        | _=>simp[fM] at h
      | clo f0 zQF =>
        cases y with
        | slf f2 np2 n2 =>
          simp only[fM] at h;split at h
          · rename_i l' u' h';simp only[bP,eQ] at h;obtain⟨rfl,rfl⟩:=h;obtain⟨i1,i2,i3⟩:=ih l' u' h';refine⟨by simp[i1],i2,λ f caps e=>?_⟩;obtain⟨e3,e4⟩:=List.cons.inj e;subst e4;rw[e3,List.eq_nil_of_length_eq_zero i1.symm]
          · cases h
        | _=>simp[fM] at h
      | _=>cases y <;> simp[fM] at h
theorem KG {ob : Nat → Option AO} : ∀ {ds : List DV} {ys : List XA} {u : List (Nat × AO)}, iO ob ds ys = some u → ∀ x ∈ u, jJ x.2 = true → ob x.1 = some x.2
  | [],[],u,h=>by simp only[iO,bP] at h;subst h;intro x hx;simp at hx
  | [],_ :: _,_,h=>by simp[iO] at h
  | _ :: _,[],_,h=>by simp[iO] at h
  | d :: ds,y :: ys,u,h=>by
    simp only[iO] at h;split at h
    · rename_i u1 u2 e1 e2;simp only[bP] at h;subst h;intro x hx hc;rcases dL.1 hx with hx | hx
      · unfold DI at e1;split at e1
        · split at e1
          · rename_i L ty' cells hL;split at e1
            · rename_i ty cs;split at e1
              · rename_i l u' hty hput;simp only[bP] at e1;subst e1;obtain⟨_,h1,h2⟩:=KE hput;rcases jm.1 hx with rfl | hx
                · have ht := jk hty;subst ht;unfold jJ at hc;split at hc
                  · rename_i ty2 f caps e3;simp only[AO.box.injEq] at e3;obtain⟨rfl,rfl⟩:=e3;rw[hL,h2 f caps rfl]
                  · cases hc
                · rw[h1 x hx] at hc;cases hc
              · cases e1
            · cases e1
          · split at e1
            · simp only[bP] at e1;subst e1;simp at hx
            · cases e1
        · split at e1
          · simp only[bP] at e1;subst e1;simp at hx
          · cases e1
      · exact KG e2 x hx hc
    · cases h
theorem Zj {ms:List Nat}{o:AO}(h:jJ o=true):dX ms o=o:=by
 unfold jJ at h;split at h
 ·rfl
 ·cases h
theorem zcU {α:Type}{f:α->α}{l:List (Nat×α)}{n:Nat} : lk (kills f l) n=(lk l n).map f:=by
 induction l with
 | nil=>rfl
 | cons x l ih =>
  obtain⟨k,a⟩:=x;rw[kills,aW,aW,ih];split <;> rfl
theorem KH : ∀ {u rest : List (Nat × AO)}, (u.map (·.1)).Nodup → (∀ x ∈ u, jJ x.2 = true → lk rest x.1 = some x.2) → ∀ L : Nat, lk ((u.filter fun x => !jJ x.2) ++ rest) L = lk (u ++ rest) L
  | [],_,_,_,_=>rfl
  | (k,o) :: u,rest,hn,h,L=>by
    rw[nR,List.nodup_cons] at hn;have ih:=KH hn.2 (λ y hy=>h y (jc _ hy)) L;cases hc:jJ o with
    | false =>
      rw[List.filter_cons_of_pos (by simp[hc]),List.cons_append,List.cons_append,aW,aW,ih]
    | true =>
      rw[List.filter_cons_of_neg (by simp[hc]),List.cons_append,aW,ih];split
      · rename_i e;subst e;have h0:=h (k,o) jS hc;rw[fG];cases hu:lk u k with
        | none=>exact h0
        | some o2=>exact (hn.1 (uF.2 ⟨_,eu hu,rfl⟩)).elim
      · rfl
theorem bY.objs_congr (S:bY P nt B w0 h0 g σ a w){l:List (Nat×AO)}(h:∀ L,lk l L=lk σ.aC L):bY P nt B w0 h0 g { σ with aC:=l } a w :=
 ⟨S.dfr,S.size,S.env,λ L o ho=>S.obj L o (by rw[<- h];exact ho),λ L o b ho=>S.own L o b (by rw[<- h];exact ho),
  λ L o b L' o' ho ho'=>S.sep L o b L' o' (by rw[<- h];exact ho) (by rw[<- h];exact ho'),S.hw,S.le0,S.hn,S.below,S.bs,
  λ t d ht L hL=>by rw[h];exact S.clE t d ht L hL,λ L o ho M hM=>by rw[h];exact S.clO L o (by rw[<- h];exact ho) M hM⟩
theorem Xf {sf : jC} {o : Oper} {A : aH} {gf : FuncId} {C : MK} {ds : List DV} {vals : List Value} (hall : iL P Γ) (S : bY P nt B w0 h0 g σ a w) (hd : dG nt o.dst = true) (hnd : ∀ c, o.op ≠ .defer c)
    (hC:Γ.mt gf=some C) (hrun:dD P gf->(execOp a.eval o).run P w=.ok (.enter gf vals.toArray) w) (hds:RL (o6 g) ds vals)
    (hcap:∀ f np ls,sf=some (f,np,ls)->∀ (k L:Nat),ls[k]? = some L->vals[np+k]? = some (uP (g.bk L)))
    (hA:pV C sf ds (lk σ.aC)=A) (hs:A.safe):iq P nt B w0 h0 r n i o A σ a w Q:=by
  letI:dh:=match sf with | some (f,np,ls)=>⟨f,np,ls.map g.bk⟩ | none=>⟨0,0,[]⟩
  have hsf:Un g sf:=λ f np ls e=>by subst e;exact⟨rfl,rfl,rfl⟩
  have hsv:∀ k b,(dh.bs)[k]? = some b->vals[dh.np+k]? = some (uP b):=by
    cases sf with
    | none=>intro k b hk;have hk:([]:List Nat)[k]? = some b:=hk;simp at hk
    | some y =>
      obtain⟨f,np,ls⟩:=y;intro k b hk;have hk:(ls.map g.bk)[k]? = some b:=hk;rw[WA] at hk;obtain⟨L,hL,rfl⟩:=TJ.1 hk;exact hcap f np ls rfl k L hL
  unfold pV at hA;split at hA
  · rename_i xs ls ms has;split at hA
    · rename_i rs ys hCx;split at hA
      · rename_i u hput;split at hA
        · rename_i hcond0;subst hA;simp only[fA,Nat.ble_eq] at hcond0;have hcond:=hcond0.1;obtain⟨x1,x2,x3⟩:=Xb S hsf has hds;have hkb:∀ b∈mV w xs vals,∃ L∈ls,∃ o',lk σ.aC L=some o'/\fF g L o' b:=λ b hb=>by
            rw[x2] at hb;obtain⟨L,hL,hb⟩:=jA.1 hb;unfold kB at hb;split at hb
            · rename_i o' ho';exact⟨L,hL,o',ho',MB hb⟩
            · simp at hb
          obtain⟨hcall,zoX⟩:=hall.mt gf C hC xs ys rs hCx w g.h B vals x1 hsv (by rw[x2];exact CO S (jZ hcond.1)) (λ b hb=>by
            obtain⟨L,_,o',h1,h2⟩:=hkb b hb;exact S.own L o' b h1 h2) S.hw S.bs
          refine nX hnd (w':=w) (f:=gf) (args:=vals.toArray) (hrun hcall) (zoX.mono ?_);rintro e w' ⟨h',v,rfl,hres,hys,hnd',hown,hle,hw',hn',hX⟩;refine⟨v,rfl,?_⟩;let nv:=asN w' (lk σ.aC) ds vals;let g':Gh:=⟨h',g.bk,λ M=>match lk nv M with | some x=>x | none=>g.sv M,g.iv⟩;have zFc:ms.Nodup:=by
            match ms,hcond.2 with
            | [],_=>exact List.nodup_nil
            | [x],_=>simp
            | _ :: _ :: _,h=>simp at h
          have hkeys:nv.map (·.1)=ms:=Qd hput has hys;obtain⟨p1,p2,p3,p4⟩:=Xc (P:=P) (B:=B) (g:=g) (h':=h') (w':=w') (g':=g') rfl (λ _=>rfl) (λ f np ls e=>hsf f np ls e) S hput has hds hys (λ x hx=>by
            have:=AY (l:=nv) (by rw[hkeys];exact zFc) (show (x.1,x.2)∈nv from hx);show (match lk nv x.1 with | some x=>x | none=>g.sv x.1)=x.2;rw[this])
          have hul:∀ L∈ls,∃ o',lk u L=some o':=λ L hL=>wo (by rw[p3];exact hL);have S1:=S.swap (u:=u) (kl:=ms) (K:=mV w xs vals) (g':=g') hle hw' (λ _=>rfl) (λ M hM=>⟨rfl,by
              show (match lk nv M with | some x=>x | none=>g.sv M)=g.sv M;cases hk:lk nv M with
              | none=>rfl
              | some x=>exact (hM (by rw[<- hkeys];exact uF.2 ⟨_,eu hk,rfl⟩)).elim,rfl⟩)
            (λ L hL=>by obtain⟨x,hx⟩:=hul L (KD has L hL);rw[hx];simp) hX
            (λ b hb=>by obtain⟨L,hL,o',h1,h2⟩:=hkb b hb;obtain⟨x,hx⟩:=hul L hL;exact⟨L,x,o',hx,h1,h2⟩)
            (λ L x hx=>(p1 _ (eu hx)).2.2)
            (λ L x b hx hb=>hown b (by rw[p2];exact jA.2 ⟨_,eu hx,AV (p1 _ (eu hx)).1 hb⟩))
            (λ L x b L' x' hx hx' hb hb'=>by
              rw[p2] at hnd';have:=AX hnd' (L,x) (L',x') b (eu hx) (eu hx') (AV (p1 _ (eu hx)).1 hb) (AV (p1 _ (eu hx')).1 hb');exact congrArg Prod.fst this)
            (λ L x hx=>(p1 _ (eu hx)).2.1) (λ b o h=>hn' b o h) σ.log
          refine⟨g',_,rfl,?_⟩;rw[zcS];have S2:=S1.put (v:=v) (d:=resD rs) hd (Ul (g:=g') hres) (λ L hL=>by rw[FT] at hL;simp at hL) σ.log;refine S2.objs_congr λ L=>KH (by rw[p3];exact jZ hcond.1) (λ x hx hc=>?_) L;rw[zcU,KG hput x hx hc];exact congrArg some (Zj hc)
        · subst hA;exact hs.elim
      · subst hA;exact hs.elim
    · subst hA;exact hs.elim
  · subst hA;exact hs.elim
end
end Go.Pm
namespace Go.Pm
variable [aJ]
open Go.RowKit (Below)

section
variable {P:Program}{Γ:bf}{nt B:Nat}{w0:World}{h0:Fz}{g:Gh}{σ:St}{a:Act}{w:World}{r:Option Nat}{n i:Nat}{Q:Exit->Act->World->Prop}

def zh0 (d:DV):List Cl:=match d with | .one (.c c)=>[c] | _=>[.junk]

theorem yS (S : bY P nt B w0 h0 g σ a w) : ∀ (l : List Operand), RL (gX g) (l.flatMap fun x => zh0 (eY σ.env x)) (l.map a.eval)
  | []=>trivial
  | x :: r=>by
    have h:=S.ev x;simp only[lT,nR];unfold zh0;cases he:eY σ.env x with
    | one d =>
      cases d with
      | c c=>rw[he] at h;exact⟨h,yS S r⟩
      | agg cs=>exact⟨trivial,yS S r⟩
    | tup ds=>exact⟨trivial,yS S r⟩

theorem FX {h:Fz}{l:List PV}{vs:List Value}(hr:RL (Rep h) l vs):l.length=vs.length/\∀ (j:Nat) (x:PV) (v:Value),l[j]? = some x->vs[j]? = some v->Rep h x v :=
 ⟨hr.length,λ j x v hx hv=>by obtain⟨u,hu,hxu⟩:=hr.get j x hx;rw[hu] at hv;simp only[bP] at hv;rw[<- hv];exact hxu⟩

theorem Xg (S : bY P nt B w0 h0 g σ a w) : ∀ (l : List Operand) {cs : List pM}, yI (eY σ.env) l = some cs → RL (DJ g) cs (l.map a.eval) ∧ ∀ L ∈ jB cs, ∃ o, lk σ.aC L = some o
  | [],cs,h=>by simp only[yI,bP] at h;subst h;exact⟨trivial,λ L hL=>by simp[jB] at hL⟩
  | x :: l,cs,h=>by
    simp only[yI] at h;split at h
    · rename_i c cs' hc hl;simp only[bP] at h;subst h;obtain⟨i1,i2⟩:=Xg S l hl;have hx:=S.ev x;have hxl:=S.evLab x;unfold zxe at hc;split at hc
      · rename_i v he;simp only[bP] at hc;subst hc;rw[he] at hx;exact⟨⟨hx,i1⟩,i2⟩
      · rename_i L he;simp only[bP] at hc;subst hc;rw[he] at hx hxl;refine⟨⟨hx,i1⟩,λ M hM=>?_⟩;simp only[jB,jm] at hM;rcases hM with rfl | hM
        · exact hxl M (by simp[cu,cZ,bu])
        · exact i2 M hM
      · cases hc
    · cases h
theorem Us : ∀ {cs : List pM} {vs : List Value}, RL (DJ g) cs vs → RL (o6 g) (cs.map capD) vs
  | [],[],_=>trivial
  | [],_ :: _,h=>h.elim
  | _ :: _,[],h=>h.elim
  | .v _ :: _,_ :: _,h=>⟨h.1,Us h.2⟩
  | .b _ :: _,_ :: _,h=>⟨h.1,Us h.2⟩

theorem Zk {ev:Operand->DV}{fs ls:List Operand}{l:List PV}(h:JU ev fs ls=some l):∃ x cs,fs=[x]/\ls=[]/\ev x=.one (.agg cs)/\iU cs=some l:=by
 unfold JU at h;split at h
 ·rename_i x;split at h
  ·rename_i cs hx;exact⟨x,cs,rfl,rfl,hx,h⟩
  ·cases h
 ·cases h
theorem MC {o : Oper} {f : FuncId} {first caps : Array Operand} {A : aH} (S : bY P nt B w0 h0 g σ a w) (hd : dG nt o.dst = true) (hop : o.op = .makeFunc (.func f) first caps)
    (hA:act P Γ o (eY σ.env) (lk σ.aC)=A) (hs:A.safe):iq P nt B w0 h0 r n i o A σ a w Q:=by
  simp only[act,aMf,hop] at hA;have e:∀ l:Array Operand,l.map a.eval=(l.toList.map a.eval).toArray:=λ l=>by cases l;simp
  split at hA
  · split at hA
    · rename_i cs hf hc;subst hA;obtain⟨i1,i2⟩:=Xg S caps.toList hc;refine mr (by simp[hop]) (v:=.func (.func f) #[] (caps.toList.map a.eval).toArray) (w':=w) ?_ ⟨g,_,rfl,?_⟩
      · simp only[execOp,hop,Instr.makeFunc,fJ,iZ,fQ,e,hf,List.map_nil]
      · rw [eH];exact S.put (d:=.cl (.clo f cs)) hd ⟨_,rfl,i1⟩ (λ L hL=>i2 L (by simpa [cu,cZ,bu] using hL)) _
    · subst hA;exact hs.elim
  split at hA
  · rename_i l hb;subst hA;obtain⟨x,cs,e1,e2,hx,hl⟩:=Zk hb;have h1:=S.ev x;rw[hx] at h1;obtain⟨vs,hv,hr⟩:=h1;rw[lu hl] at hr;have hr:RL (λ (x:PV) y=>gX g (.p x) y) l vs:=RL.map_left.1 hr;have hr:RL (Rep g.h) l vs:=hr.mono λ _ _ h=>h;have r1:=FX hr;refine mr (by simp[hop]) (v:=.func (.func f) #[.agg vs.toArray] #[]) (w':=w) ?_ ⟨g,_,rfl,?_⟩
    · simp only[execOp,hop,Instr.makeFunc,fJ,iZ,fQ,e,e1,e2,nR,List.map_nil,hv]
    · rw [eH];exact S.put (d:=.p (.fna f l)) hd (Rep.fna f l vs r1.1 r1.2) (jb _) _
  split at hA
  · rename_i l u l' u' h1 h2;subst hA;have h1:pO (lk σ.aC) (first.toList.flatMap λ x=>zh0 (eY σ.env x))=some (l,u):=h1;have h2:pO (lk σ.aC) (caps.toList.flatMap λ x=>zh0 (eY σ.env x))=some (l',u'):=h2;obtain⟨h',S1,F⟩:=S.freeze ((D6 h1).append (D6 h2));have r1:=FX (F.repL h1 (λ y hy=>dL.2 (.inl hy)) (yS S first.toList));have r2:=FX (F.repL h2 (λ y hy=>dL.2 (.inr hy)) (yS S caps.toList));have hv:Rep h' (.fn f l l') (.func (.func f) (first.toList.map a.eval).toArray (caps.toList.map a.eval).toArray):=.fn f l l' _ _ r1.1 r2.1 r1.2 r2.2;refine mr (by simp[hop]) (v:=.func (.func f) (first.toList.map a.eval).toArray (caps.toList.map a.eval).toArray) (w':=w) ?_ ⟨⟨h',g.bk,g.sv,g.iv⟩,_,rfl,?_⟩
    · simp only[execOp,hop,Instr.makeFunc,fJ,iZ,fQ,e]
    · rw [eH];exact S1.put (d:=.p (.fn f l l')) hd hv (λ L hL=>by simp[cu,cZ,bu] at hL) _
  · subst hA;exact hs.elim

theorem Ec {h h':Fz}{p:PV}{v:Value}(hs:iK p=true) (hr:Rep h' p v):Rep h p v:=by
 cases hr with
 | bool b=>exact .bool b
 | int k n=>exact .int k n
 | _=>cases hs
theorem yU {h h' : Fz} : ∀ {l : List PV} {vs : List Value}, l.all iK = true → RL (Rep h') l vs → RL (Rep h) l vs
  | [],[],_,_=>trivial
  | [],_ :: _,_,hr=>hr.elim
  | _ :: _,[],_,hr=>hr.elim
  | p :: l,v :: vs,hs,hr=>by
    simp only[List.all_cons,fA] at hs;exact⟨Ec hs.1 hr.1,yU hs.2 hr.2⟩
theorem Xh {h h':Fz}{x:PA}{v:Value}(hs:zcg x=true) (hr:kL h' x v):kL h x v:=by
 cases x with
 | one p=>exact Ec hs hr
 | agg cs =>
  obtain⟨vs,rfl,hr⟩:=hr;exact⟨vs,rfl,yU hs hr⟩
theorem FY {h h' : Fz} : ∀ {l : List PA} {vs : List Value}, l.all zcg = true → RL (kL h') l vs → RL (kL h) l vs
  | [],[],_,_=>trivial
  | [],_ :: _,_,hr=>hr.elim
  | _ :: _,[],_,hr=>hr.elim
  | p :: l,v :: vs,hs,hr=>by
    simp only[List.all_cons,fA] at hs;exact⟨Xh hs.1 hr.1,FY hs.2 hr.2⟩
theorem zcV {h h':Fz}{rs:List PA}{v:Value}(hs:O9 rs=true) (hr:nU h' rs v):nU h rs v:=by
 match rs,hs,hr with
 | [],_,⟨vs,e,r⟩=>exact⟨vs,e,FY rfl r⟩
 | [x],hs,hr =>
  simp only[O9,List.all_cons,List.all_nil,Bool.and_true] at hs;exact Xh hs hr
 | x :: y :: l,hs,⟨vs,e,r⟩=>exact⟨vs,e,FY hs r⟩

def uZ (h h' h2:Fz):Fz:=λ b=>match h b,h' b with
 | none,some _=>none
 | _,_=>h2 b
theorem Qe {h h' h2:Fz}(h1:iV h h') (h3:iV h' h2):iV h (uZ h h' h2):=λ b o hb=>by
 show (match h b,h' b with | none,some _=>none | _,_=>h2 b)=some o;rw[hb];exact h3 b o (h1 b o hb)
theorem AZ {h h' h2:Fz} : iV (uZ h h' h2) h2:=λ b o hb=>by
 have hb:(match h b,h' b with | none,some _=>none | _,_=>h2 b)=some o:=hb;split at hb
 ·cases hb
 ·exact hb
theorem KI {h h' h2:Fz}{n:Nat}(h1:iV h h') (hn:∀ b o,h2 b=some o->h' b=some o\/n<=b) (b:Nat) (o:Pv) (hb:uZ h h' h2 b=some o):h b=some o\/n<=b:=by
 have hb2:=AZ b o hb;have hb:(match h b,h' b with | none,some _=>none | _,_=>h2 b)=some o:=hb;rcases hn b o hb2 with h4 | h4
 ·cases e:h b with
  | none=>rw[e,h4] at hb;cases hb
  | some x =>
   have:=h1 b x e;rw[h4] at this;exact .inl this.symm
 ·exact .inr h4
theorem Ut {h h' h2:Fz}{k:Nat}(hk:h2 k=none):uZ h h' h2 k=none:=by
 show (match h k,h' k with | none,some _=>none | _,_=>h2 k)=none;split
 ·rfl
 ·exact hk
theorem Xi : ∀ {l : List PV} {o : Nat} {x y : PV}, zch l = true → l[o]? = some x → l[o + 1]? = some y → iK x = true → iK y = true → False
  | [],o,x,y,_,hx,_,_,_=>by simp at hx
  | [a],0,x,y,_,_,hy,_,_=>by simp at hy
  | [a],o+1,x,y,_,hx,_,_,_=>by simp at hx
  | a :: b :: r,0,x,y,h,hx,hy,h1,h2=>by
    simp at hx hy;subst hx hy;simp[zch,h1,h2] at h
  | a :: b :: r,o+1,x,y,h,hx,hy,h1,h2=>by
    simp only[zch,fA] at h;exact Xi (l:=b :: r) h.2 (by simpa using hx) (by simpa using hy) h1 h2
theorem FZ {h h':Fz}{p q:PV}{v:Value}(hs:iK p=true) (hp:Rep h p v) (hq:Rep h' q v):iK q=true:=by
 cases hp with
 | bool b=>cases hq with
  | bool=>rfl
 | int k n=>cases hq with
  | int=>rfl
 | _=>cases hs
theorem Qg {u:jY}(h:WB u=true):∀ x∈u,∃ l,x.2=.fbox l/\∀ v∈l,iK v=false:=by
 intro y hy;unfold WB at h;split at h
 ·rcases jm.1 hy with rfl | hy
  ·refine ⟨_, rfl, fun v hv => ?_⟩;have:=List.all_eq_true.1 h v hv;simpa using this
  ·rcases jm.1 hy with rfl | hy
   ·exact⟨_,rfl,λ v hv=>by simp only[jQ] at hv;subst hv;rfl⟩
   ·simp at hy
 ·cases h
theorem KJ {g : Gh} {ob : Nat → Option AO} {u : jY} {h' h2 : Fz} (F : eG g ob u h') (hu : dY ob u) (hno : ∀ x ∈ u, ∃ l, x.2 = .fbox l ∧ ∀ v ∈ l, iK v = false) (hle : iV h' h2) {p : PV} (ha : Anch p) :
  ∀ {v:Value},Rep h2 p v->Rep (uZ g.h h' h2) p v:=by
 induction ha with
 | scal v h=>intro x hr;exact Ec h hr
 | nils=>intro x hr;cases hr;exact .nils
 | sl n s get h hel ih =>
  intro x hr;cases hr with
  | sl0 _ _ hun=>exact .sl0 _ _ hun
  | sle _ _ a cap hun=>exact .sle _ _ a cap hun
  | sl _ _ _ hun b o cap C ty fr vs hb hcap hlen hc hr =>
   cases n with
   | zero=>exact .sle _ _ _ _ hun
   | succ m =>
   refine .sl _ _ _ hun b o cap C ty fr vs ?_ hcap hlen hc λ i j x hi hx=>ih i x (Ez hx) (hr i j x hi hx);show (match g.h b,h' b with | none,some _=>none | _,_=>h2 b)=_;cases e1:g.h b with
   | some y=>exact hb
   | none =>
    cases e2:h' b with
    | none=>exact hb
    | some y =>
     exfalso;have hy:y=.fz (.cells C ty fr):=by
      have:=hle b y e2;rw[hb] at this;exact (Option.some.inj this).symm
     subst hy;obtain⟨L,x,o',hm,hL,hk⟩:=F.new b e1 _ e2;obtain⟨l0,hl0,hns⟩:=hno _ hm;simp only at hl0;subst hl0;rcases hu _ hm with ⟨e,s,b',n,get',_,e3⟩ | ⟨ty',cells,l,us,e4,e3,e5,e6⟩ | ⟨te,bb,e,s,b',n,ln,get',_,e3⟩
     ·cases e3
     ·simp only at e3 e4;cases e3;rw[hL] at e4;simp only[bP] at e4;subst e4;obtain⟨C',hC',hrl⟩:=F.box L ty' cells l0 us hL e5 e6 hm;have hk:g.bk L=b:=hk;subst hk;rw[e2] at hC';simp only[bP,Pv.fz.injEq,Obj.cells.injEq] at hC';obtain⟨rfl,rfl,rfl⟩:=hC';obtain⟨j,x0,hx0,hs0⟩:=h 0;have c0:=hc 0 j x0 (by omega) hx0;have hl:=hrl.length;have hlt:o+0 * s+j < l0.length:=by
       have:=(TI.1 c0).1;simp only[Array.length_toList] at hl;omega
      obtain⟨v0,hv0,r0⟩:=hrl.get _ _ (yz hlt);have hv0:C[o+0 * s+j]? = some v0:=by simpa using hv0
      rw[hv0] at c0;simp only[bP] at c0;subst c0;have:=FZ hs0 (hr 0 j x0 (by omega) hx0) r0;rw[hns _ (List.getElem_mem hlt)] at this;cases this
     ·cases e3
theorem yV {x y:PV}(h:Sm x y):iK x=iK y:=by cases h <;> rfl
theorem zcW:∀ {d:Nat}{x y:PV},Sm x y->wX d x=true->wX d y=true:=by
 intro d
 induction d with
 | zero=>intro x y _ h;cases h
 | succ d ih =>
  intro x y hs h;have hs2:=yV hs;cases hs with
  | sl n m s g g' hl hg =>
   have hr:=(Sm.rows (.sl n m s g g' hl hg)).2 0 0;simp only[wX,fA,List.any_eq_true,List.all_eq_true] at h ⊢;obtain⟨⟨x,hx,hxs⟩,h2⟩:=h;obtain⟨j,hj⟩:=List.getElem?_of_mem hx;obtain⟨y,hy,r⟩:=RL.get hr j x hj;refine⟨⟨y,Ez hy,by rw[<- yV r];exact hxs⟩,λ z hz=>?_⟩;obtain⟨k,hk⟩:=List.getElem?_of_mem hz;obtain⟨u,hu,r⟩:=RL.get' hr k z hk;exact ih r (h2 u (Ez hu))
  | int k a b=>rfl
  | bool a b=>rfl
  | fp l l' o hl hg=>exact h
  | atom p hp=>exact h
theorem Qh {d:Nat}{g:Nat->List PV}(hu:pW g) (h:(g 0).all (wX d)=true){i:Nat}{x:PV}(hx:x∈g i):wX d x=true:=by
 obtain⟨j,hj⟩:=List.getElem?_of_mem hx;obtain⟨y,hy,r⟩:=RL.get' (hu 0 i) j x hj;exact zcW r (List.all_eq_true.1 h y (Ez hy))
theorem Qi:∀ {d:Nat}{x:PV},wX d x=true->Sm x x->Anch x:=by
 intro d
 induction d with
 | zero=>intro x h;cases h
 | succ d ih =>
  intro x h hs;unfold wX at h;split at h
  ·exact .nils
  ·rename_i n s g;rw[fA] at h;have hu:pW g:=hs.rows.2;refine .sl _ _ _ (λ i=>?_) λ i y hy=>?_
   ·obtain ⟨x, hx, hxs⟩ := List.any_eq_true.1 h.1;obtain⟨j,hj⟩:=List.getElem?_of_mem hx;obtain⟨y,hy,r⟩:=RL.get (hu 0 i) j x hj;exact⟨j,y,hy,by rw[<- yV r];exact hxs⟩
   ·refine ih (Qh hu h.2 hy) ?_;obtain⟨j,hj⟩:=List.getElem?_of_mem hy;obtain⟨z,hz,r⟩:=RL.get (hu i i) j y hj;rw[hj] at hz;cases hz;exact r
  ·exact .scal _ h
theorem zoZ {l m:List PV}(h:RS l m) (hs:sc2 l=true):sc2 m=true:=by
 simp only[sc2,fA,List.all_eq_true,Nat.ble_eq] at hs ⊢;refine⟨λ x hx=>?_,by rw[<- h.length];exact hs.2⟩;obtain⟨j,hj⟩:=List.getElem?_of_mem hx;obtain⟨y,hy,r⟩:=RL.get' h j x hj;rw[<- yV r];exact hs.1 y (Ez hy)
theorem zcX {l m:List PV}(h:RS l m) (hs:l.all iK=true):m.all iK=true:=by
 rw[List.all_eq_true] at hs ⊢;intro x hx;obtain⟨j,hj⟩:=List.getElem?_of_mem hx;obtain⟨y,hy,r⟩:=RL.get' h j x hj;rw[<- yV r];exact hs y (Ez hy)
theorem bY.borrow (S : bY P nt B w0 h0 g σ a w) {u : jY} {h' h2 hx : Fz} {w' : World} (F : eG g (lk σ.aC) u h') (hb : uo h' w.heap.size w w') (hw2 : Hw h2 w')
    (h1:iV g.h hx) (h3:iV hx h2) (h4:∀ b o,hx b=some o->g.h b=some o\/w.heap.size<=b):bY P nt B w0 h0 ⟨hx,g.bk,g.sv,g.iv⟩ σ a w' :=
  S.world h1 (λ b x hb'=>hw2 b x (h3 b x hb')) h4 ⟨hb.os,hb.tape,hb.output,hb.size,hb.drawn,λ k hk=>hb.block k hk⟩


theorem ownsRow_base {w:World}{base B e s n:Nat}{v:Value}{xs:List Value}(h:w.ownsRow base e s v n xs) (hB:∀ k,base<=k->v.ownBlock=some k->B<=k):w.ownsRow B e s v n xs:=by
 refine⟨h.1,?_⟩;rcases h.2 with hn | ⟨k,cap,cur,rfl,hk,rest⟩
 ·exact .inl hn
 ·exact .inr ⟨k,cap,cur,rfl,hB k hk rfl,rest⟩

theorem Xj {args:Array Operand}{ev:Operand->DV}{p:DV}(h:args.toList.map ev=[p]):∃ x,args = #[x]/\ev x=p:=by
 match hl:args.toList,h with
 | [x],h =>
  simp at h;exact⟨x,by rw[<- Array.toArray_toList (xs:=args),hl],h⟩
 | [],h=>simp at h
 | _ :: _ :: _,h=>simp at h

theorem zh1 {e m s:Nat}{get:Nat->List PV}{args:Array Operand}(S:bY P nt B w0 h0 g σ a w) (h:zoB P e (args.toList.map (eY σ.env))=some (m,s,get)):∃ x,args = #[x]/\Rep g.h (.sl m s get) (a.eval x):=by
 generalize hl:args.toList.map (eY σ.env)=l at h;unfold zoB at h;split at h
 ·cases h;obtain⟨x,rfl,hx⟩:=Xj hl;exact⟨x,rfl,iH S hx⟩
 ·split at h
  ·rename_i z hz;split at h
   ·rename_i k hk;cases h;obtain⟨x,rfl,hx⟩:=Xj hl;have:=iH S hx;refine⟨x,rfl,?_⟩;generalize a.eval x=v at this;cases this;exact .sl0 _ _ λ _ _=>D5 hz hk
   ·cases h
  ·cases h
 ·cases h
theorem Qj {α : Type} : ∀ {l m : List α} {x : α}, EN l = some (m, x) → l = m ++ [x]
  | [],m,x,h=>by cases h
  | d :: r,m,x,h=>by
    simp only[EN] at h;split at h
    · rename_i l' y e;cases h;rw[Qj e];rfl
    · rename_i e;cases h;cases r with
      | nil=>rfl
      | cons y r =>
        simp only[EN] at e;split at e <;> cases e
theorem KL {f:Operand->DV}{args:Array Operand}{ds:List DV}{d:DV}(h:EN (args.toList.map f)=some (ds,d)):∃ (xs:List Operand) (x:Operand),args.toList=xs ++ [x]/\ds=xs.map f/\f x=d:=by
 obtain⟨xs,ys,e1,e2,e3⟩:=List.map_eq_append_iff.1 (Qj h)
 match ys,e3 with
 | [x],e3 =>
  simp only[nR,List.map_nil,Cf,and_true] at e3;exact⟨xs,x,e1,e2.symm,e3⟩
theorem Qk {f:Operand->Value}{args:Array Operand}{xs:List Operand}{x:Operand}(h:args.toList=xs ++ [x]):(#[] ++ Array.map f args ++ #[])=(xs.map f ++ [f x]).toArray:=by
 have e:args=(xs ++ [x]).toArray:=by rw[<- h]
 subst e;simp
theorem zcY {o : Oper} {f : Operand} {args : Array Operand} {ts : Array TypeId} {A : aH} {gf : FuncId} {e s b : Nat} {F : List PA → Nat → (Nat → List PV) → ae (Nat × (Nat → List PV))} (hok : ed P gf (.grow e s b F)) (S : bY P nt B w0 h0 g σ a w) (hd : dG nt o.dst = true)
    (hop:o.op=.call { callee:=.value f,args,argTypes:=ts }) (hfv:a.eval f=.func (.func gf) #[] #[])
    (hA:ja P Γ o (.grow e s b F) (args.toList.map (eY σ.env)) (lk σ.aC)=A) (hs:A.safe):iq P nt B w0 h0 r n i o A σ a w Q:=by
  unfold ja at hA;simp only at hA;split at hA
  · rename_i ds L hlast;obtain⟨xs,x,hargs,rfl,hx⟩:=KL hlast;split at hA
    · rename_i az e' s' b' n get has hL;split at hA
      · rename_i m get' hF;split at hA
        · rename_i hcond;obtain⟨rfl,rfl,rfl⟩:=hcond;subst hA;obtain⟨⟨hxv,hone⟩,_⟩:=gG S hx;obtain⟨hpos,hinfo,ys,hys,hr⟩:=S.obj L _ hL;have hav:=S.frozen0.repDs has (λ y hy=>hy) (CJ S xs);obtain⟨hcall,hrun⟩:=hok w g.h B az (xs.map a.eval) (g.sv L) n get m get' hF hav (by rw[<- hxv];exact hone) hpos hinfo ⟨ys,hys,hr⟩ (λ k hk=>S.own L _ k hL hk) S.hw S.bs;refine nX (by simp[hop]) (w':=w) (f:=gf) (args:=(xs.map a.eval ++ [g.sv L]).toArray) ?_ (hrun.mono ?_)
          · simp only [execOp, hop, resolve, hfv, Deferred.ofValue, fJ, iZ, fQ, invoke];rw[show (#[] ++ Array.map a.eval args ++ #[])=(xs.map a.eval ++ [g.sv L]).toArray by rw[<- hxv];exact Qk hargs];exact dU hcall
          rintro r0 w' ⟨h2,v',rfl,Ql,Ug,⟨zs,hzs,hrz⟩,hblk,hle,hw2,hn2,hX⟩;let g':Gh:=⟨h2,g.bk,λ M=>if M=L then v' else g.sv M,g.iv⟩;have hsv:g'.sv L=v':=if_pos rfl;have zcZ:∀ M x,lk [(L,AO.vec e' s' b' m get')] M=some x->M=L/\x=.vec e' s' b' m get':=λ M x h=>by
            rw[aW] at h;split at h
            · rename_i e;exact⟨e.symm,(Option.some.inj h).symm⟩
            · cases h
          have S1 := S.swap (u := [(L, .vec e' s' b' m get')]) (kl := [L]) (K := (g.sv L).ownBlock.toList) (g' := g') hle hw2 (fun _ => rfl)
            (λ M hM=>⟨rfl,if_neg λ e=>hM (by rw[e];exact jQ.2 rfl),rfl⟩)
            (λ M hM=>by rw[jQ.1 hM,aW,if_pos rfl];simp) hX
            (λ k hk=>⟨L,_,_,by rw[aW,if_pos rfl],hL,(show (g.sv L).ownBlock=some k by simpa using hk)⟩)
            (λ M x hx=>by obtain⟨rfl,rfl⟩:=zcZ M x hx;exact⟨⟨Ug,hpos.2⟩,hinfo,zs,by rw[hsv];exact hzs,hrz⟩)
            (λ M x k hx hk=>by obtain⟨rfl,rfl⟩:=zcZ M x hx;exact hblk k (by rw[<- hsv];exact hk))
            (λ M x k M' x' hx hx' _ _=>by rw[(zcZ M x hx).1,(zcZ M' x' hx').1])
            (λ M x hx N hN=>by obtain⟨rfl,rfl⟩:=zcZ M x hx;simp[dJ] at hN) (λ k y hk=>hn2 k y hk) σ.log
          refine⟨v',rfl,g',_,rfl,?_⟩;rw[zcS];refine S1.put (v:=v') hd (d:=.cl (.vec L)) ⟨hsv.symm,Ql⟩ (λ M hM=>?_) σ.log;simp[cu,cZ,bu] at hM;subst hM;exact⟨_,by rw[List.singleton_append,aW,if_pos rfl]⟩
        · subst hA;exact hs.elim
      · subst hA;exact hs.elim
    · subst hA;exact hs.elim
  · rename_i ds hlast;obtain⟨xs,x,hargs,rfl,hx⟩:=KL hlast;split at hA
    · rename_i az dst has hdst;split at hA
      · rename_i ie z hfresh hi hz;split at hA
        · rename_i l hl;split at hA
          · rename_i m get' hF;split at hA
            · rename_i hcond;obtain⟨hsz,rfl,hpos⟩:=hcond;subst hA;obtain⟨zv,hzv,hzs⟩:=gU hz hi;have hxv:a.eval x=.slice none 0 0:=by
                have:=iH S hx;generalize a.eval x=v at this;cases this;rfl
              have hnb:(a.eval x).ownBlock=none:=by rw[hxv];rfl
              have hav:=S.frozen0.repDs has (λ y hy=>hy) (CJ S xs);have hinfo:∃ i z,P.info? e=some i/\i.size=s/\i.bytes=ie.bytes/\i.zero=some z/\z.cells.size=s:=⟨ie,zv,hi,hsz,rfl,hzv,by rw[hzs,hsz]⟩;obtain⟨hcall,hrun⟩:=hok w g.h B az (xs.map a.eval) (a.eval x) 0 (λ _=>l) m get' hF hav (by rw[hxv];rfl) ⟨EQ (D5 hz hl),hpos⟩ hinfo ⟨[],by rw[hxv];exact World.ownsRow_nil w B e s,λ i hi=>absurd hi (by omega)⟩ (λ k hk=>by rw[hnb] at hk;cases hk) S.hw S.bs;refine nX (by simp[hop]) (w':=w) (f:=gf) (args:=(xs.map a.eval ++ [a.eval x]).toArray) ?_ (hrun.mono ?_)
              · simp only [execOp, hop, resolve, hfv, Deferred.ofValue, fJ, iZ, fQ, invoke];rw[Qk hargs];exact dU hcall
              rintro r0 w' ⟨h2,v',rfl,Ql,Ug,⟨zs,zoT,hrz⟩,hblk,hle,hw2,hn2,hX⟩;have hbk:∀ k,v'.ownBlock=some k->w.heap.size<=k/\h2 k=none:=λ k hk=>by
                obtain⟨h3,h4⟩:=hblk k hk;exact⟨h3.elim (λ h=>by rw[hnb] at h;simp at h) id,h4⟩
              have S2:=S.world hle hw2 (λ k y hk=>by
                rcases hn2 k y hk with h | h | h
                · exact .inl h
                · exact .inr h
                · rw[hnb] at h;simp at h) ⟨hX.os,hX.tape,hX.output,hX.size,hX.drawn,λ k hk=>hX.block k hk (by rw[hnb];simp)⟩
              have S3:=S2.adopt (t:=dst) (v:=v') (e:=e) (s:=s) (b:=ie.bytes) (n:=m) (get:=get') hfresh (λ k hk=>⟨Ci S.bs (hbk k hk).1,(hbk k hk).2,λ L o ho hob=>by
                  have fU:fF g L o k:=hob;have:=gu (S.obj L o ho) fU;have:=(hbk k hk).1;omega⟩) (by
                refine⟨⟨Ug,hpos⟩,hinfo,zs,?_,hrz⟩;rw[show ((⟨h2,g.bk,g.sv,g.iv⟩:Gh).setSv dst v').sv dst=v' by simp[Gh.setSv]];exact zoT)
              refine⟨v',rfl,(⟨h2,g.bk,g.sv,g.iv⟩:Gh).setSv dst v',_,rfl,?_⟩;rw[eH];refine S3.put (v:=v') hd (d:=.cl (.vec dst)) ⟨by simp[Gh.setSv],Ql⟩ ?_ _;intro L hL;simp[cu,cZ,bu] at hL;subst hL;exact⟨_,by rw[aW,if_pos rfl]⟩
            · subst hA;exact hs.elim
          · subst hA;exact hs.elim
        · subst hA;exact hs.elim
      · subst hA;exact hs.elim
    · subst hA;exact hs.elim
  · subst hA;exact hs.elim
theorem zh2 {o : Oper} {f : Operand} {args : Array Operand} {ts : Array TypeId} {A : aH} {gf : FuncId} (hall : iL P Γ) (S : bY P nt B w0 h0 g σ a w) (hd : dG nt o.dst = true)
    (hop:o.op=.call { callee:=.value f,args,argTypes:=ts }) (hfv:a.eval f=.func (.func gf) #[] #[])
    (hA:ja P Γ o (Γ.own gf) (args.toList.map (eY σ.env)) (lk σ.aC)=A) (hs:A.safe):iq P nt B w0 h0 r n i o A σ a w Q:=by
  have enter:∀ x,args = #[x]->dD P gf->(execOp a.eval o).run P w=.ok (.enter gf #[a.eval x]) w:=by
    rintro x rfl hcall;simp only[execOp,hop,resolve,hfv,Deferred.ofValue,fJ,iZ,fQ,invoke];rw[show (#[] ++ Array.map a.eval #[x] ++ #[]) = #[a.eval x] by simp];exact dU hcall
  have hok:=hall.own gf;unfold ja at hA;split at hA
  · subst hA;exact hs.elim
  · rename_i e s b hk;rw[hk] at hok;split at hA
    · rename_i L hf caps hargs;obtain⟨x,y,rfl,hx,hy⟩:=Fj hargs;obtain⟨⟨hxv,hone⟩,_⟩:=gG S hx;split at hA
      · rename_i e' s' b' m get ag hL hag;split at hA
        · rename_i hcond;obtain⟨rfl,rfl,rfl⟩:=hcond;subst hA;have hs':zoz m (λ i j=>(EL (Γ.cfn hf) caps ag get i j).isSome) (kX (Γ.cfn hf) caps ag get):=hs;obtain⟨hpos,hinfo,xs,hxs,hr⟩:=S.obj L _ hL;have hown:∀ k,(g.sv L).ownBlock=some k->g.h k=none:=λ k hk=>(S.own L _ k hL hk).2;have hfn:=iH S hy;generalize hyv:a.eval y=yv at hfn;cases hfn with
          | fn _ _ _ fv cv l1 l2 hf1 hc1 =>
            have e1:fv=[]:=List.eq_nil_of_length_eq_zero l1.symm;subst e1;obtain⟨ii,zz,hi1,hi2,_⟩:=hinfo;obtain⟨hcall,hrun⟩:=hok w g.h B (g.sv L) m get hf caps cv ag (Γ.cfn hf) (hall.cmp hf) (FU l2 hc1) hag ⟨ii,hi1,hi2⟩ hpos.2 ⟨xs,hxs,hr⟩ (by rw[<- hxv];exact hone) S.hw hown S.bs hs';refine nX (by simp[hop]) (w':=w) (f:=gf) (args:=#[a.eval x,a.eval y]) ?_ ?_
            · simp only [execOp, hop, resolve, hfv, Deferred.ofValue, fJ, iZ, fQ, invoke];rw[show (#[] ++ Array.map a.eval #[x,y] ++ #[]) = #[a.eval x,a.eval y] by simp];exact dU hcall
            · rw [hxv, hyv];refine hrun.mono ?_;rintro r0 w' ⟨rfl,⟨xs',zFd,hr'⟩,hg⟩;refine⟨.tuple #[],rfl,g,_,rfl,?_⟩;rw[eH];have hold:∀ k,k < w.heap.size->¬ (g.sv L).ownBlock=some k->w'.heap[k]? = w.heap[k]?:=λ k hk hne=>hg.block k hk (λ e=>hne e.symm)
              have S' := S.write2 (o' := .vec e' s' b' m (EM m (kX (Γ.cfn hf) caps ag get) get)) hL (fun b hb => hb) ⟨⟨hg.os, hg.tape, hg.output, hg.size, fun k hk => hold k (dqS hk S.bs) (fun e => by have := (S.own L _ k hL e).1; omega)⟩, hg.drawn⟩
                hold ⟨⟨rY hpos.1 _,hpos.2⟩,⟨ii,zz,hi1,hi2,by assumption⟩,xs',zFd,hr'⟩ (λ M hM=>by simp[dJ] at hM)
              exact S'.put (d:=.tup []) hd ⟨[],rfl,trivial⟩ (λ L hL=>by simp[cu] at hL) _
        · subst hA;exact hs.elim
      · subst hA;exact hs.elim
    · subst hA;exact hs.elim
  · rename_i e s b hk;rw[hk] at hok;split at hA
    · rename_i m s' get dst hargs hdst;obtain⟨x,rfl,hx⟩:=zh1 S hargs;split at hA
      · rename_i ie z hfresh hi hz;split at hA
        · rename_i hcond;obtain⟨rfl,hsz,rfl,hpos⟩:=hcond;subst hA;have hs':m * ie.bytes<=140737488355328/\m<=9223372036854775807:=hs;obtain⟨zv,hzv,hzs⟩:=gU hz hi;obtain⟨hcall,hrun⟩:=hok w g.h (a.eval x) m get hx S.hw hs'.1 hs'.2;refine nX (by simp[hop]) (w':=w) (f:=gf) (args:=#[a.eval x]) (enter x rfl hcall) (hrun.mono ?_);rintro r0 w' ⟨h',v',rfl,hone,⟨xs,hxs,hr⟩,hnh,hb,hle,hw',hn'⟩;refine⟨v',rfl,?_⟩;have S2:=S.world hle hw' hn' hb;have hbk:∀ k,v'.ownBlock=some k->w.heap.size<=k:=λ k hk=>(hxs.lt k hk).1;have S3:=S2.adopt (t:=dst) (v:=v') (e:=e) (s:=s') (b:=ie.bytes) (n:=m) (get:=get) hfresh (λ k hk=>⟨Ci S.bs (hbk k hk),hnh k hk,λ L o ho hob=>by
              have fU:fF g L o k:=hob;have:=gu (S.obj L o ho) fU;have:=hbk k hk;omega⟩) (by
            refine⟨⟨hx.un.rows.2,hpos⟩,⟨ie,zv,hi,hsz,rfl,hzv,by rw[hzs,hsz]⟩,xs,?_,hr⟩;rw[show ((⟨h',g.bk,g.sv,g.iv⟩:Gh).setSv dst v').sv dst=v' by simp[Gh.setSv]];exact ownsRow_base hxs λ k hk _=>Ci S.bs hk)
          refine⟨(⟨h',g.bk,g.sv,g.iv⟩:Gh).setSv dst v',_,rfl,?_⟩;rw[eH];refine S3.put (v:=v') hd (d:=.cl (.vec dst)) ⟨by simp[Gh.setSv],hone⟩ ?_ _;intro L hL;simp[cu,cZ,bu] at hL;subst hL;exact⟨_,by rw[aW,if_pos rfl]⟩
        · subst hA;exact hs.elim
      · subst hA;exact hs.elim
    · subst hA;exact hs.elim
  · rename_i e s b F hk;rw[hk] at hok;split at hA
    · rename_i az u dst has hdst;split at hA
      · rename_i n get rs ie z hF hfresh hi hz;split at hA
        · rename_i hcond;obtain⟨hsz,rfl,hpos,zxx,zxy⟩:=hcond;subst hA;obtain⟨zv,hzv,hzs⟩:=gU hz hi;obtain⟨h',S1,F'⟩:=S.freeze (uT has);have hargs:=F'.repDs has (λ y hy=>hy) (CJ S args.toList);obtain⟨hcall,hrun⟩:=hok w h' az (args.toList.map a.eval) n get rs hF hargs S1.hw;refine nX (by simp[hop]) (w':=w) (f:=gf) (args:=(args.toList.map a.eval).toArray) ?_ (hrun.mono ?_)
          · simp only [execOp, hop, resolve, hfv, Deferred.ofValue, fJ, iZ, fQ, invoke];rw[show (#[] ++ Array.map a.eval args ++ #[])=(args.toList.map a.eval).toArray by cases args;simp];exact dU hcall
          rintro r0 w' ⟨h2,v',xs,rfl,hxr,hone,Ug,⟨ys,hys,hr⟩,hnh,hb,hle,hw2,hn2⟩;have hlr:∀ i,i < n->RL (Rep (uZ g.h h' h2)) (get i) ((ys.drop (i * s)).take s):=λ i hi=>by
            cases u with
            | nil =>
              refine (hr i hi).mono λ _ _ h=>Rep.mono (λ b o hbo=>?_) h;show (match g.h b,h' b with | none,some _=>none | _,_=>h2 b)=some o;cases e1:g.h b with
              | some y=>exact hbo
              | none =>
                cases e2:h' b with
                | none=>exact hbo
                | some y =>
                  obtain⟨L,x,o',hm,_⟩:=F'.new b e1 _ e2;simp at hm
            | cons x l =>
              have h3:=zxx;unfold zco at h3;split at h3
              · rename_i e;cases e
              · split at h3
                · rename_i e;exact (hr i hi).mono_mem λ p v hp h=>KJ F' (uT has) (Qg e) hle (Qi (Qh Ug h3 hp) (by
                    obtain⟨j,hj⟩:=List.getElem?_of_mem hp;obtain⟨z,hz,r⟩:=RL.get (Ug i i) j p hj;rw[hj] at hz;cases hz;exact r)) h
                · exact yU (zcX (Ug 0 i) h3) (hr i hi)
          have S2:=S.borrow F' hb hw2 (Qe F'.le hle) AZ (KI F'.le hn2);have hbk:∀ k,v'.ownBlock=some k->w.heap.size<=k:=λ k hk=>(hys.lt k hk).1;have S3:=S2.adopt (t:=dst) (v:=v') (e:=e) (s:=s) (b:=ie.bytes) (n:=n) (get:=get) hfresh (λ k hk=>⟨Ci S.bs (hbk k hk),Ut (hnh k hk),λ L o ho hob=>by
              have fU:fF g L o k:=hob;have:=gu (S.obj L o ho) fU;have:=hbk k hk;omega⟩) (by
            refine⟨⟨Ug,hpos⟩,⟨ie,zv,hi,hsz,rfl,hzv,by rw[hzs,hsz]⟩,ys,?_,hlr⟩;rw[show ((⟨uZ g.h h' h2,g.bk,g.sv,g.iv⟩:Gh).setSv dst v').sv dst=v' by simp[Gh.setSv]];exact ownsRow_base hys λ k hk _=>Ci S.bs hk)
          refine⟨Px v' xs rs,rfl,(⟨uZ g.h h' h2,g.bk,g.sv,g.iv⟩:Gh).setSv dst v',_,rfl,?_⟩;rw[eH];have hvx:RL (Rep (uZ g.h h' h2)) rs xs:=yU zxy hxr;cases rs with
          | nil =>
            refine S3.put (v:=v') hd (d:=.cl (.vec dst)) ⟨by simp[Gh.setSv],hone⟩ ?_ _;intro L hL;simp[cu,cZ,bu] at hL;subst hL;exact⟨_,by rw[aW,if_pos rfl]⟩
          | cons x l =>
            refine S3.put (v:=.tuple (v' :: xs).toArray) hd (d:=.tup (.c (.vec dst) :: (x :: l).map λ v=>.c (.p v))) ⟨v' :: xs,rfl,⟨by simp[Gh.setSv],hone⟩,?_⟩ ?_ _
            · refine RL.map_left.2 (hvx.mono λ _ _ h=>h)
            · intro L hL;have hL':L=dst:=by
                simp only[cu,lT,dL,jA,uF] at hL;rcases hL with hL | ⟨d,⟨v,_,rfl⟩,hL⟩
                · simpa [cZ,bu] using hL
                · simp[cZ,bu] at hL
              subst hL';exact⟨_,by rw[aW,if_pos rfl]⟩
        · subst hA;exact hs.elim
      · subst hA;exact hs.elim
    · subst hA;exact hs.elim
  · rename_i e s b F hk;rw[hk] at hok;exact zcY (Γ:=Γ) hok S hd hop hfv hA hs
theorem zh3 {g : Gh} {ob : Nat → Option AO} {u : jY} {h' h2 : Fz} {n s : Nat} {get : Nat → List PV} {v : Value} (F : eG g ob u h') (hu : dY ob u) (hno : u.all zmB = true) (hle : iV h' h2) (hg : ∀ i, sc2 (get i) = true)
    (hr:Rep h2 (.sl n s get) v):Rep (uZ g.h h' h2) (.sl n s get) v:=by
  cases hr with
  | sl0 _ _ hun=>exact .sl0 _ _ hun
  | sle _ _ a cap hun=>exact .sle _ _ a cap hun
  | sl _ _ _ hun b o cap C ty fr vs hb hcap hlen hc hr =>
    cases n with
    | zero=>exact .sle _ _ _ _ hun
    | succ m =>
    have hsc:∀ i j x,(get i)[j]? = some x->iK x=true:=λ i j x hx=>by
      have:=hg i;simp only[sc2,fA,List.all_eq_true] at this;exact this.1 x (Ez hx)
    refine .sl _ _ _ hun b o cap C ty fr vs ?_ hcap hlen hc λ i j x hi hx=>Ec (hsc i j x hx) (hr i j x hi hx);show (match g.h b,h' b with | none,some _=>none | _,_=>h2 b)=_;cases e1:g.h b with
    | some y=>exact hb
    | none =>
      cases e2:h' b with
      | none=>exact hb
      | some y =>
        exfalso;have hy:y=.fz (.cells C ty fr):=by
          have:=hle b y e2;rw[hb] at this;exact (Option.some.inj this).symm
        subst hy;obtain⟨L,x,o',hm,hL,hk⟩:=F.new b e1 _ e2;have hna:=List.all_eq_true.1 hno _ hm;have hlen0:2<=(get 0).length:=by
          have:=hg 0;simp only[sc2,fA,Nat.ble_eq] at this;exact this.2
        rcases hu _ hm with ⟨e,s,b',n,get',_,e3⟩ | ⟨ty',cells,l,us,e4,e3,e5,e6⟩ | ⟨te,bb,e,s,b',n,ln,get',_,e3⟩
        · simp only at e3;subst e3;cases hna
        · simp only at e3 e4; subst e3;rw[hL] at e4;simp only[bP] at e4;subst e4;obtain⟨C',hC',hrl⟩:=F.box L ty' cells l us hL e5 e6 hm;have hk:g.bk L=b:=hk;subst hk;rw[e2] at hC';simp only[bP,Pv.fz.injEq,Obj.cells.injEq] at hC';obtain⟨rfl,rfl,rfl⟩:=hC';obtain⟨x0,hx0⟩:∃ x,(get 0)[0]? = some x:=⟨_,yz (by omega)⟩;obtain⟨x1,hx1⟩:∃ x,(get 0)[1]? = some x:=⟨_,yz (by omega)⟩;have c0:=hc 0 0 x0 (by omega) hx0;have c1:=hc 0 1 x1 (by omega) hx1;simp only[Nat.zero_mul,Nat.add_zero] at c0 c1;have hl:=hrl.length;have l0:o < l.length:=by
            have:=(TI.1 c0).1;simp at hl;omega
          have l1:o+1 < l.length:=by
            have:=(TI.1 c1).1;simp at hl;omega
          obtain⟨v0,hv0,r0⟩:=hrl.get o _ (yz l0);obtain⟨v1,hv1,r1⟩:=hrl.get (o+1) _ (yz l1);have hv0:C[o]? = some v0:=by simpa using hv0
          have hv1:C[o+1]? = some v1:=by simpa using hv1
          rw[hv0] at c0;rw[hv1] at c1;simp only[bP] at c0 c1;subst c0 c1;exact Xi hna (yz l0) (yz l1) (FZ (hsc 0 0 x0 hx0) (hr 0 0 x0 (by omega) hx0) r0) (FZ (hsc 0 1 x1 hx1) (hr 0 1 x1 (by omega) hx1) r1)
        · simp only at e3;subst e3;cases hna
theorem zc0 {g:Gh}{ob:Nat->Option AO}{u:jY}{h' h2:Fz}{r:List PA}{v:Value}(F:eG g ob u h') (hu:dY ob u) (hl:Pg u r=true) (hle:iV h' h2) (hr:nU h2 r v):nU (uZ g.h h' h2) r v:=by
 unfold Pg at hl;split at hl
 ·rename_i n s get x us;have hun:Sm (.sl n s get) (.sl n s get):=Rep.un (h:=h2) (v:=v) hr;have Ug:pW get:=hun.rows.2;cases hg:sc2 (get 0) with
  | true =>
   simp only[hg] at hl;exact zh3 (n:=n) (s:=s) (get:=get) (v:=v) F hu hl hle (λ i=>zoZ (Ug 0 i) hg) hr
  | false =>
   simp only[hg,fA] at hl;exact KJ F hu (λ y hy=>Qg hl.1 y hy) hle (Qi hl.2 hun) hr
 ·cases hl

theorem Qm {o : Oper} {gf : FuncId} {args : Array Operand} {az pre post : List PA} {pv qv : List Value} {u : jY} {A : aH} (hok : iL P Γ) (S : bY P nt B w0 h0 g σ a w) (hd : dG nt o.dst = true)
    (hnd:∀ c,o.op ≠ .defer c) (hpre:RL (kL g.h) pre pv) (hpost:RL (kL g.h) post qv) (has:gm (lk σ.aC) (args.toList.map (eY σ.env))=some (az,u))
    (zxz:dD P gf->(execOp a.eval o).run P w=.ok (.enter gf (pv ++ args.toList.map a.eval ++ qv).toArray) w) {gZ:List Nat} {rs:List PA}
    (hC:(Γ.fn gf (pre ++ az ++ post)).o=some rs) (hA:jv gZ u rs=A):iq P nt B w0 h0 r n i o A σ a w Q:=by
    obtain⟨h',S1,F⟩:=S.freeze (uT has);have hargs:=F.repDs has (λ y hy=>hy) (CJ S args.toList);have up:∀ {l:List PA} {vs:List Value},RL (kL g.h) l vs->RL (kL h') l vs:=λ hr=>hr.mono λ x v hx=>by
      cases x with
      | one p=>exact Rep.mono F.le hx
      | agg cs=>obtain⟨ws,e,hr⟩:=hx;exact⟨ws,e,hr.mono λ _ _ h=>h.mono F.le⟩
    have hall:RL (kL h') (pre ++ az ++ post) (pv ++ args.toList.map a.eval ++ qv):=((up hpre).append hargs).append (up hpost);obtain⟨hcall,hrun⟩:=hok.fn gf (pre ++ az ++ post) rs hC w h' _ hall S1.hw;refine nX hnd (w':=w) (f:=gf) (args:=(pv ++ args.toList.map a.eval ++ qv).toArray) (zxz hcall) (hrun.mono ?_);rintro e w' ⟨h2,v,rfl,hres,hb,hle,hw2,hn2⟩;refine⟨v,rfl,?_⟩;have fin:∀ {g':Gh},bY P nt B w0 h0 g' σ a w'->nU g'.h rs v->∃ g'' σ',σ'=σ.upd i o.dst (rd gZ) (resD rs) [] []/\bY P nt B w0 h0 g'' σ' (a.put o.dst v) w':=λ S2 hr =>
      ⟨_,_,rfl,by rw[eH];exact S2.put (v:=v) (d:=resD rs) hd (Ul hr) (λ L hL=>by rw[FT] at hL;simp at hL) σ.log⟩
    subst hA;unfold jv;cases hsc:O9 rs with
    | true=>exact fin (S.borrow F hb hw2 (λ _ _ h=>h) (λ b x hx=>hle b x (F.le b x hx)) (λ _ _ h=>.inl h)) (zcV hsc hres)
    | false =>
      cases hl:Pg u rs with
      | true=>exact fin (S.borrow F hb hw2 (Qe F.le hle) AZ (KI F.le hn2)) (zc0 F (uT has) hl hle hres)
      | false =>
        exact⟨⟨h2,g.bk,g.sv,g.iv⟩,_,rfl,by
          rw[eH];exact (S1.world hle hw2 hn2 hb).put (v:=v) (d:=resD rs) hd (Ul (g:=g) hres) (λ L hL=>by rw[FT] at hL;simp at hL) σ.log⟩
theorem zc1 {o : Oper} {f : Operand} {args : Array Operand} {ts : Array TypeId} {A : aH} (hok : iL P Γ) (S : bY P nt B w0 h0 g σ a w) (hd : dG nt o.dst = true)
    (hop:o.op=.call { callee:=.value f,args,argTypes:=ts })
    (hA:act P Γ o (eY σ.env) (lk σ.aC)=A) (hs:A.safe):iq P nt B w0 h0 r n i o A σ a w Q:=by
  simp only[act,aCl,hop] at hA;split at hA
  · rename_i gf caps hf;split at hA
    · rename_i C hC;obtain⟨cv,hfv,hcap⟩:=(gG S hf).1;refine Xf (vals:=args.toList.map a.eval ++ cv) hok S hd (by simp[hop]) hC (λ hcall=>?_) ((CJ S args.toList).append (Us hcap)) (zoW hcap (by simp)) hA hs;simp only[execOp,hop,resolve,hfv,Deferred.ofValue,fJ,iZ,fQ,invoke];rw[show (#[] ++ Array.map a.eval args ++ cv.toArray)=(args.toList.map a.eval ++ cv).toArray by cases args;simp];exact dU hcall
    · subst hA;exact hs.elim
  · rename_i gf first caps hf
    split at hA
    · rename_i C hC;have hfn:=iH S hf;generalize hfv:a.eval f=fvv at hfn;cases hfn with
      | fn _ _ _ fv cv l1 l2 hf1 hc1 =>
        have hp:∀ {l:List PV} {vs:List Value},RL (Rep g.h) l vs->RL (o6 g) (l.map λ v=>DV.p v) vs:=λ hr=>RL.map_left.2 hr;refine Xf (vals:=fv ++ args.toList.map a.eval ++ cv) hok S hd (by simp[hop]) hC (λ hcall=>?_) (((hp (FU l1 hf1)).append (CJ S args.toList)).append (hp (FU l2 hc1))) (λ _ _ _ e=>by cases e) hA hs;simp only[execOp,hop,resolve,hfv,Deferred.ofValue,fJ,iZ,fQ,invoke];rw[show (fv.toArray ++ Array.map a.eval args ++ cv.toArray)=(fv ++ args.toList.map a.eval ++ cv).toArray by cases args;simp];exact dU hcall
    split at hA
    · split at hA
      · have hfn := iH S hf;generalize hfv:a.eval f=fvv at hfn;cases hfn with
        | fn _ _ _ fv cv l1 l2 hf1 hc1 =>
          have e1:fv=[]:=List.eq_nil_of_length_eq_zero l1.symm;have e2:cv=[]:=List.eq_nil_of_length_eq_zero l2.symm;subst e1 e2;exact zh2 hok S hd hop hfv hA hs
      · subst hA;exact hs.elim
    split at hA
    · rename_i az u has;have hfn:=iH S hf;generalize hfv:a.eval f=fvv at hfn;cases hfn with
      | fn _ _ _ fv cv l1 l2 hf1 hc1 =>
        split at hA
        · rename_i rs hrs;refine Qm hok S hd (by simp[hop]) (Um (FU l1 hf1)) (Um (FU l2 hc1)) has (λ hcall=>?_) hrs hA;simp only[execOp,hop,resolve,hfv,Deferred.ofValue,fJ,iZ,fQ,invoke];rw[show (fv.toArray ++ Array.map a.eval args ++ cv.toArray)=(fv ++ args.toList.map a.eval ++ cv).toArray by cases args;simp];exact dU hcall
        · subst hA;exact hs.elim
    · subst hA;exact hs.elim
  · rename_i gf cells hf;split at hA
    · rename_i az u has;have hfn:=iH S hf;generalize hfv:a.eval f=fvv at hfn;cases hfn with
      | fna _ _ vs l1 hf1 =>
        split at hA
        · rename_i rs hrs;refine Qm (pre:=[.agg cells]) (post:=[]) (pv:=[.agg vs.toArray]) (qv:=[]) hok S hd (by simp[hop]) ⟨⟨vs,rfl,FU l1 hf1⟩,trivial⟩ trivial has (λ hcall=>?_) (by simpa using hrs) hA;simp only[execOp,hop,resolve,hfv,Deferred.ofValue,fJ,iZ,fQ,invoke];rw[show (#[Value.agg vs.toArray] ++ Array.map a.eval args ++ #[])=([Value.agg vs.toArray] ++ args.toList.map a.eval ++ []).toArray by cases args;simp];exact dU hcall
        · subst hA;exact hs.elim
    · subst hA;exact hs.elim
  · subst hA;exact hs.elim

theorem A7 {o : Oper} {A : aH} (hok : iL P Γ) (S : bY P nt B w0 h0 g σ a w) (hd : dG nt o.dst = true) (hA : act P Γ o (eY σ.env) (lk σ.aC) = A) (hs : A.safe) :
  iq P nt B w0 h0 r n i o A σ a w Q:=by
 have hA':=hA;cases hop:o.op with
 | move x=>simp only[act,aCl,hop] at hA;subst hA;exact PR S hd (.inl hop)
 | assign x=>simp only[act,aCl,hop] at hA;subst hA;exact PR S hd (.inr hop)
 | pick c x y =>
  simp only[act,aPk,hop] at hA;split at hA
  ·rename_i t hc;subst hA;exact zcw S hd hop hc
  ·subst hA;exact hs.elim
 | alloc e =>
  simp only[act,aAl,hop] at hA;split at hA
  ·rename_i z hz;exact Y8 S hd hop hz hA hs
  ·subst hA;exact hs.elim
 | box e x =>
  simp only[act,aBx,hop] at hA;split at hA
  ·rename_i d m hx hm;split at hA
   ·rename_i hcond;simp only[fA] at hcond;exact zhM S hd hop hx hcond.2 hA hs
   ·subst hA;exact hs.elim
  ·subst hA;exact hs.elim
 | build t parts =>
  simp only[act,aBd,hop] at hA;split at hA
  ·rename_i z hf hz;split at hA
   ·rename_i l hl;subst hA;refine Y9 S hd hop hf hz hl (λ L hL=>?_);rcases Fh _ _ _ hl L hL with h | ⟨x,_,h⟩
    ·rw[Ko hz] at h;simp at h
    ·exact S.evLab x.2 L h
   ·subst hA;exact hs.elim
  ·subst hA;exact hs.elim
 | buildSlice t m parts=>exact FD S hd hop hA' hs
 | load t x=>exact zcx S hd hop hA' hs
 | store t x y=>exact Ze S hd hop hA' hs
 | nilCheck x=>exact Md S hd hop hA' hs
 | binOp op t x y t'=>exact Zc S hd hop hA' hs
 | unOp op t x=>exact zcy S hd hop hA' hs
 | convert t1 t2 x=>exact PU S hd hop hA' hs
 | fieldAddr t x f=>exact Jz S hd hop hA' hs
 | indexAddr t x y=>exact JA S hd hop hA' hs
 | extract x k=>exact PW S hd hop hA' hs
 | index t x y=>exact Za S hd hop hA' hs
 | field t x f=>exact Zb S hd hop hA' hs
 | slice t x lo hi mx =>
  cases mx with
  | none=>simp only[act,hop] at hA;exact Zi S hd hop hA hs
  | some m=>simp only[act,hop] at hA;subst hA;exact hs.elim
 | lookup t x y k =>
  simp only[act,hop] at hA;exact Uj S hd hop hA hs
 | mapUpdate t x y z =>
  simp only[act,hop] at hA;exact Zh S hd hop hA hs
 | makeMap t x =>
  cases x with
  | none =>
   simp only[act,aMm,hop] at hA;split at hA
   ·split at hA
    ·split at hA
     ·rename_i hE;exact Uk S hd hop hE hA hs
     ·subst hA;exact hs.elim
    ·subst hA;exact hs.elim
   ·subst hA;exact hs.elim
  | some x=>simp only[act,aMm,hop] at hA;subst hA;exact hs.elim
 | makeSlice t x y=>simp only[act,hop] at hA;exact JB S hd hop hA hs
 | makeFunc fn first caps =>
  cases fn with
  | func f=>exact MC S hd hop hA' hs
  | _=>simp only[act,aMf,hop] at hA;subst hA;exact hs.elim
 | call c =>
  obtain⟨callee,args,ts⟩:=c;cases callee with
  | value f=>exact zc1 hok S hd hop hA' hs
  | invoke x m=>simp only[act,hop] at hA;subst hA;exact hs.elim
  | builtin b =>
   cases b with
   | len=>exact zhN S hd hop hA' hs
   | max=>exact zhO S hd hop hA' hs
   | min=>exact zhP S hd hop hA' hs
   | append=>exact Uf S hd hop hA' hs
   | _=>simp only[act,hop] at hA;subst hA;exact hs.elim
 | _=>simp only[act,hop] at hA;subst hA;exact hs.elim
end
end Go.Pm
namespace Go.Pm
variable [aJ]
open Go.RowKit (Below)

theorem jr {α : Type} {f : α → α} {l : List (Nat × α)} : ∀ {ks : List Nat} {t : Nat} {x : α}, lk (ul f l ks) t = some x → ∃ y, lk l t = some y ∧ x = f y ∧ t ∈ ks
  | [],t,x,h=>by simp[ul,lk] at h
  | k :: ks,t,x,h=>by
    simp only[ul] at h;split at h
    · rename_i d hd;rw[aW] at h;split at h
      · rename_i e;simp only[bP] at h;subst e;exact⟨d,hd,h.symm,jS⟩
      · obtain⟨y,h1,h2,h3⟩:=jr h;exact⟨y,h1,h2,jc _ h3⟩
    · obtain⟨y,h1,h2,h3⟩:=jr h;exact⟨y,h1,h2,jc _ h3⟩

theorem mZ {α : Type} {f : α → α} {l : List (Nat × α)} : ∀ {ks : List Nat} {t : Nat} {y : α}, lk l t = some y → t ∈ ks → lk (ul f l ks) t = some (f y)
  | [],t,y,_,ht=>by simp at ht
  | k :: ks,t,y,h,ht=>by
    simp only[ul];by_cases hk:k=t
    · subst hk;rw[h];rw[aW,if_pos rfl]
    · have ht' : t ∈ ks := by rcases jm.1 ht with h | h; · exact absurd h.symm hk
                              · exact h
      split
      · rw[aW,if_neg hk];exact mZ h ht'
      · exact mZ h ht'

section
variable {P:Program}{Γ:bf}{nt B:Nat}{w0:World}{h0:Fz}{g:Gh}{σ:St}{a:Act}{w:World}{r:Option Nat}{n i:Nat}{Q:Exit->Act->World->Prop}

theorem KN {c:Cl}{x:Value}(h:gX g c x):gX g (o9 c) x:=by
 cases c <;> exact h
theorem xJ : ∀ {cs : List Cl} {vs : List Value}, RL (gX g) cs vs → RL (gX g) (cs.map o9) vs
  | [],[],_=>trivial
  | [],_ :: _,h=>h.elim
  | _ :: _,[],h=>h.elim
  | _ :: _,_ :: _,h=>⟨KN h.1,xJ h.2⟩
theorem F5 {d:D1}{x:Value}(h:wZ g d x):wZ g (uK d) x:=by
 cases d with
 | c y=>exact KN h
 | agg cs=>obtain⟨vs,rfl,hr⟩:=h;exact⟨vs,rfl,xJ hr⟩
theorem CS : ∀ {cs : List D1} {vs : List Value}, RL (wZ g) cs vs → RL (wZ g) (cs.map uK) vs
  | [],[],_=>trivial
  | [],_ :: _,h=>h.elim
  | _ :: _,[],h=>h.elim
  | _ :: _,_ :: _,h=>⟨F5 h.1,CS h.2⟩
theorem zc2 {d:DV}{x:Value}(h:o6 g d x):o6 g (LU d) x:=by
 cases d with
 | one y=>exact F5 h
 | tup ds=>obtain⟨vs,rfl,hr⟩:=h;exact⟨vs,rfl,CS hr⟩
theorem CU {c:Cl} : ∀ M∈bu (o9 c),M∈bu c:=by
 cases c <;> first | exact λ _ h=>h | (intro M h;simp[o9,bu] at h)
theorem CV {cs:List Cl} : ∀ M∈(cs.map o9).flatMap bu,M∈cs.flatMap bu:=by
 intro M hM;simp only[jA,uF] at hM ⊢;obtain⟨_,⟨c,hc,rfl⟩,hM⟩:=hM;exact⟨c,hc,CU M hM⟩
theorem yX {d:D1} : ∀ M∈cZ (uK d),M∈cZ d:=by
 cases d with
 | c y=>exact CU
 | agg cs=>exact CV
theorem Uu {d:DV} : ∀ M∈cu (LU d),M∈cu d:=by
 cases d with
 | one y=>exact yX
 | tup ds =>
  intro M hM;simp only[LU,cu,jA,uF] at hM ⊢;obtain⟨_,⟨d,hd,rfl⟩,hM⟩:=hM;exact⟨d,hd,yX M hM⟩
theorem Qn {o:AO} : ∀ M∈dJ (DY o),M∈dJ o:=by
 cases o with
 | box ty cs=>exact CV
 | _=>exact λ _ h=>h
theorem Zl {B L:Nat}{o:AO}(h:Jt P g w B L o):Jt P g w B L (DY o):=by
 cases o with
 | box ty cs=>obtain⟨C,hC,hr⟩:=h;exact⟨C,hC,xJ hr⟩
 | _=>exact h
theorem CW {L:Nat}{o:AO} : fF g L (DY o)=fF g L o:=by cases o <;> rfl

theorem bY.env' (S : bY P nt B w0 h0 g σ a w) {t : Nat} {d : DV} (hv : o6 g d (a.tmps.getD t undef)) (hl : ∀ L ∈ cu d, ∃ o, lk σ.aC L = some o) :
  bY P nt B w0 h0 g { σ with env:=(t,d) :: σ.env } a w:=by
 refine⟨S.dfr,S.size,?_,S.obj,S.own,S.sep,S.hw,S.le0,S.hn,S.below,S.bs,?_,S.clO⟩
 ·intro u e hu;simp only[aW] at hu;split at hu
  ·rename_i h;simp only[bP] at hu;subst hu;rw[<- h];exact hv
  ·exact S.env u e hu
 ·intro u e hu;simp only[aW] at hu;split at hu
  ·simp only[bP] at hu;subst hu;exact hl
  ·exact S.clE u e hu

theorem Ed {P:Program}{e:TypeId} : RS (yG P e) (yG P e):=by
 unfold yG;split
 ·rename_i z hz;split
  ·rename_i l hl;obtain⟨vs,hv⟩:∃ vs,iE vs=some z:=by
    unfold fE at hz
    repeat' split at hz
    all_goals first | (cases hz;done) | (cases hz;exact⟨_,by assumption⟩)
   have h:=je (g:=⟨λ _=>none,λ _=>0,λ _=>undef,λ _ _=>undef⟩) _ _ hv;rw[lu hl] at h;have h:=RL.map_left.1 h;exact uO (qK h)
  ·trivial
 ·trivial
theorem bY.coerce (S : bY P nt B w0 h0 g σ a w) {L e : Nat} {ie : TypeInfo} {z : List Cl} {get : Nat → List PV} (hu : pW get) (hL : lk σ.aC L = none) (hi : P.info? e = some ie) (hz : fE P e = some z) (hp : 0 < ie.size) :
  bY P nt B w0 h0 (g.setSv L (.slice none 0 0)) { σ with aC:=(L,.vec e ie.size ie.bytes 0 get) :: σ.aC } a w:=by
 obtain⟨zv,hzv,hzs⟩:=gU hz hi;refine S.newVec hL (.refl B w) (λ _ _=>rfl) (λ b hb=>by simp[Value.ownBlock] at hb) ⟨⟨hu,hp⟩,⟨ie,zv,hi,rfl,rfl,hzv,hzs⟩,[],?_,λ k hk=>absurd hk (by omega)⟩;rw[show (g.setSv L (.slice none 0 0)).sv L=.slice none 0 0 by simp[Gh.setSv]];exact World.ownsRow_nil w B e ie.size

theorem F6 {h:Fz}{v:Value}(hr:Rep h .nils v):v=.slice none 0 0:=by cases hr;rfl

theorem qg : ∀ (l : List (Nat × Nat × Nat)) (σ σ' : St) (g : Gh), jU P l σ = some σ' → bY P nt B w0 h0 g σ a w → ∃ g', bY P nt B w0 h0 g' σ' a w
  | [],σ,σ',g,h,S=>by simp[jU] at h;subst h;exact⟨g,S⟩
  | (t,L,e) :: l,σ,σ',g,h,S=>by
    simp only[jU] at h;split at h
    · rename_i ht;split at h
      · rename_i ie z hL hi hz;split at h
        · rename_i hp;have S1:=S.coerce (get:=λ _=>yG P e) (EQ Ed) hL hi hz (Nat.lt_of_succ_le (Nat.le_of_ble_eq_true hp));have hv:a.tmps.getD t undef=.slice none 0 0:=F6 (S.env t _ ht);have S2:=S1.env' (t:=t) (d:=.cl (.vec L)) (by rw[hv];simp[o6,wZ,gX,Gh.setSv,Value.oneCell']) (λ M hM=>by simp[cu,cZ,bu] at hM;subst hM;exact⟨_,by rw[aW,if_pos rfl]⟩);exact qg l _ σ' _ h S2
        · cases h
      · cases h
    · exact qg l σ σ' g h S
    · cases h

theorem qh : ∀ (l : List (Nat × Nat × Nat × Nat)) (σ σ' : St) (g : Gh), jV P l σ = some σ' → bY P nt B w0 h0 g σ a w → ∃ g', bY P nt B w0 h0 g' σ' a w
  | [],σ,σ',g,h,S=>by simp[jV] at h;subst h;exact⟨g,S⟩
  | (bx,k,L,e) :: l,σ,σ',g,h,S=>by
    simp only[jV] at h;split at h
    · rename_i ty cs hbx;split at h
      · rename_i hk;split at h
        · rename_i ie z hL hi hz;split at h
          · rename_i hp;have S1:=S.coerce (get:=λ _=>yG P e) (EQ Ed) hL hi hz (Nat.lt_of_succ_le (Nat.le_of_ble_eq_true hp));have hne:L ≠ bx:=λ e=>by subst e;rw[hL] at hbx;cases hbx
            have F7:lk ({ σ with aC:=(L,AO.vec e ie.size ie.bytes 0 (λ _=>yG P e)) :: σ.aC } : St).aC bx=some (.box ty cs):=by
              show lk ((L,AO.vec e ie.size ie.bytes 0 (λ _=>yG P e)) :: σ.aC) bx=_;rw[aW,if_neg hne];exact hbx
            obtain⟨C,hC,hr⟩:=S1.obj bx _ F7;obtain⟨v,hv,hkv⟩:=hr.get k _ hk;have hv0:v=.slice none 0 0:=F6 hkv;subst hv0;have Qo:C.toList.set k (.slice none 0 0)=C.toList:=by
              apply List.ext_getElem?;intro j;by_cases hj:j=k
              · subst hj;have hlt:=(xy.1 hv).1;rw[List.getElem?_set_self hlt,hv]
              · rw[List.getElem?_set_ne (λ e=>hj e.symm)]
            have S2 := S1.write (o' := .box ty (cs.set k (.vec L))) (w' := w) F7 (fun b hb => hb) (.refl B w) (fun _ _ => rfl)
              ⟨C,hC,by rw[<- Qo];exact hr.set k (by simp[gX,Gh.setSv,Value.oneCell'])⟩
              (λ M hM=>by
                simp only[dJ,jA] at hM;obtain⟨c,hc,hM⟩:=hM;rcases List.mem_or_eq_of_mem_set hc with h | h
                · exact S1.clO bx _ F7 M (jA.2 ⟨c,h,hM⟩)
                · subst h;simp[bu] at hM;subst hM;exact⟨_,by rw[aW,if_pos rfl]⟩)
            exact qh l _ σ' _ h S2
          · cases h
        · cases h
      · exact qh l σ σ' g h S
      · cases h
    · cases h

theorem bY.adopt0 (S : bY P nt B w0 h0 g σ a w) {t : Nat} {o' : AO} {g' : Gh} (ht : lk σ.aC t = none) (hh : g'.h = g.h) (hs : ∀ M, M ≠ t → gQ g g' M)
    (hv:∀ k,¬ fF g' t o' k) (hr:Jt P g' w B t o') (hlab:dJ o'=[]):bY P nt B w0 h0 g' { σ with aC:=(t,o') :: σ.aC } a w:=by
  have hne:∀ L o,lk σ.aC L=some o->L ≠ t:=λ L o h e=>by subst e;rw[ht] at h;cases h
  have hsame:∀ L o,lk σ.aC L=some o->gQ g g' L:=λ L o h=>hs L (hne L o h);have hle:iV g.h g'.h:=by rw[hh];exact λ _ _ h=>h
  have hlk:∀ L o,lk ((t,o') :: σ.aC) L=some o->(L=t/\o=o')\/(L ≠ t/\lk σ.aC L=some o):=by
    intro L o h;rw[aW] at h;split at h
    · rename_i e;simp only[bP] at h;exact .inl ⟨e.symm,h.symm⟩
    · rename_i e;exact .inr ⟨λ e'=>e e'.symm,h⟩
  refine S.change (g':=g') hsame hle (by rw[hh];exact S.hw) (λ b o h=>.inl (by rw[hh] at h;exact h)) (.refl _ B w) ?_ ?_ ?_ ?_ ?_
  · intro L o ho;rcases hlk L o ho with ⟨rfl,rfl⟩ | ⟨_,ho⟩
    · exact hr
    · exact iQ (S.obj L o ho) (hsame L o ho) (λ M hM=>by obtain⟨o',ho'⟩:=S.clO L o ho M hM;exact hsame M o' ho') hle λ _ _=>rfl
  · intro L o k ho hk;rcases hlk L o ho with ⟨rfl,rfl⟩ | ⟨_,ho⟩
    · exact (hv k hk).elim
    · rw[fB (hsame L o ho)] at hk;rw[hh];exact S.own L o k ho hk
  · intro L o k L' o2 ho ho' hk hk';rcases hlk L o ho with ⟨rfl,rfl⟩ | ⟨_,ho2⟩ <;> rcases hlk L' o2 ho' with ⟨rfl,rfl⟩ | ⟨_,kN⟩
    · rfl
    · exact (hv k hk).elim
    · exact (hv k hk').elim
    · rw [fB (hsame L o ho2)] at hk; rw [fB (hsame L' o2 kN)] at hk';exact S.sep L o k L' o2 ho2 kN hk hk'
  · intro L o ho;refine⟨o,?_⟩;rw[aW,if_neg (λ e=>hne L o ho e.symm)];exact ho
  · intro L o ho M hM;rcases hlk L o ho with ⟨rfl,rfl⟩ | ⟨_,ho⟩
    · rw[hlab] at hM;simp at hM
    · obtain ⟨o2, ho2⟩ := S.clO L o ho M hM;exact⟨o2,by rw[aW,if_neg (λ e=>hne M o2 ho2 e.symm)];exact ho2⟩

theorem qi : ∀ (l : List (Nat × Nat × Nat × Nat × Nat)) (σ σ' : St) (g : Gh), jW P l σ = some σ' → bY P nt B w0 h0 g σ a w → ∃ g', bY P nt B w0 h0 g' σ' a w
  | [],σ,σ',g,h,S=>by simp[jW] at h;subst h;exact⟨g,S⟩
  | (bx,k,L,te,e) :: l,σ,σ',g,h,S=>by
    simp only[jW] at h;split at h
    · rename_i ty cs hbx;split at h
      · rename_i hk;split at h
        · rename_i it zt hL hit hzt;split at h
          · rename_i ie z hi hz;split at h
            · rename_i hp;simp only[fA] at hp;have hs1:=jk hp.1;have hpos:0 < ie.size:=Nat.lt_of_succ_le (Nat.le_of_ble_eq_true hp.2);obtain⟨zv,hzv,hzs⟩:=gU hz hi;obtain⟨tv,htv,hts⟩:=gU hzt hit;let g':=g.setVv L (.slice none 0 0) (λ _=>.slice none 0 0);have hsv:g'.sv L=.slice none 0 0:=by simp[g',Gh.setVv]
              have S1 := S.adopt0 (t := L) (o' := .vv te it.bytes e ie.size ie.bytes 0 (fun _ => 0) (fun _ _ => yG P e)) (g' := g') hL rfl Ud
                (fun k hk => by rcases hk with hk | ⟨i, hi, _⟩
                                · rw[hsv] at hk;cases hk
                                · omega)
                ⟨⟨λ _ _ _ _=>Ed,hpos⟩,⟨it,tv,hit,hs1,rfl,htv,by rw[hts,hs1]⟩,⟨ie,zv,hi,rfl,rfl,hzv,hzs⟩,by rw[hsv];exact World.ownsRow_nil w B te 1,λ i hi=>absurd hi (by omega),λ i k hi=>absurd hi (by omega)⟩ rfl
              have hne:L ≠ bx:=λ e=>by subst e;rw[hL] at hbx;cases hbx
              have F7:lk ({ σ with aC:=(L,AO.vv te it.bytes e ie.size ie.bytes 0 (λ _=>0) (λ _ _=>yG P e)) :: σ.aC } : St).aC bx=some (.box ty cs):=by
                show lk ((L,AO.vv te it.bytes e ie.size ie.bytes 0 (λ _=>0) (λ _ _=>yG P e)) :: σ.aC) bx=_;rw[aW,if_neg hne];exact hbx
              obtain⟨C,hC,hr⟩:=S1.obj bx _ F7;obtain⟨v,hv,hkv⟩:=hr.get k _ hk;have hv0:v=.slice none 0 0:=F6 hkv;subst hv0;have Qo:C.toList.set k (.slice none 0 0)=C.toList:=by
                apply List.ext_getElem?;intro j;by_cases hj:j=k
                · subst hj;have hlt:=(xy.1 hv).1;rw[List.getElem?_set_self hlt,hv]
                · rw[List.getElem?_set_ne (λ e=>hj e.symm)]
              have S2 := S1.write (o' := .box ty (cs.set k (.vec L))) (w' := w) F7 (fun b hb => hb) (.refl B w) (fun _ _ => rfl)
                ⟨C,hC,by rw[<- Qo];exact hr.set k ⟨hsv.symm,rfl⟩⟩
                (λ M hM=>by
                  simp only[dJ,jA] at hM;obtain⟨c,hc,hM⟩:=hM;rcases List.mem_or_eq_of_mem_set hc with h | h
                  · exact S1.clO bx _ F7 M (jA.2 ⟨c,h,hM⟩)
                  · subst h;simp[bu] at hM;subst hM;exact⟨_,by rw[aW,if_pos rfl]⟩)
              exact qi l _ σ' _ h S2
            · cases h
          · cases h
        · cases h
      · exact qi l σ σ' g h S
      · cases h
    · cases h

theorem yY {ob : Nat → Option AO} : ∀ {ks : List Nat} {x : Nat × AO}, x ∈ AA ob ks → ∃ ty cells l, ob x.1 = some (.box ty cells) ∧ x.2 = .fbox l ∧ iG ob cells = some (l, [])
  | [],x,h=>by simp[AA] at h
  | k :: ks,x,h=>by
    simp only[AA] at h;split at h
    · rename_i ty cells hk;split at h
      · rename_i l hl;rcases jm.1 h with rfl | h
        · exact⟨ty,cells,l,hk,rfl,hl⟩
        · exact yY h
      · exact yY h
    · exact yY h
theorem Qp {ob:Nat->Option AO}{ks:List Nat} : dY ob (AA ob ks):=λ x hx=>by
 obtain⟨ty,cells,l,h1,h2,h3⟩:=yY hx;exact .inr (.inl ⟨ty,cells,l,[],h1,h2,LY h3,λ y hy=>by simp at hy⟩)
theorem F8 {ob : Nat → Option AO} : ∀ {ks : List Nat}, dY ob (Jy ob ks)
  | []=>dY.nil ob
  | L :: r=>λ x hx=>by
    simp only[Jy] at hx;split at hx
    · rename_i e s b n get hL;rcases jm.1 hx with rfl | hx
      · exact .inl ⟨_,_,_,_,_,hL,rfl⟩
      · exact (F8 x hx).mono λ y hy=>by simp only[Jy,hL];exact jc _ hy
    · rename_i hn;refine (F8 x hx).mono λ y hy=>?_;show y∈Jy ob (L :: r);unfold Jy;split
      · exact jc _ hy
      · exact hy
theorem ql : ∀ (l : List Nat) (σ σ' : St) (g : Gh), jX l σ = some σ' → bY P nt B w0 h0 g σ a w → ∃ g', bY P nt B w0 h0 g' σ' a w
  | [],σ,σ',g,h,S=>by simp[jX] at h;subst h;exact⟨g,S⟩
  | t :: r,σ,σ',g,h,S=>by
    unfold jX at h;split at h
    · rename_i x hx;have hv:=S.env t _ hx;split at h
      · exact ql r _ σ' g h S
      · split at h
        · rename_i v u hf;obtain⟨h',S1,F⟩:=S.freeze (Ue hf);have hr:=F.rep hf (λ y hy=>hy) hv;exact ql r _ σ' _ h (S1.env' (t:=t) (d:=.p v) hr (λ L hL=>by simp[cu,cZ,bu] at hL))
        · cases h
    · cases h
theorem Xk {P:Program}{e:Nat}{g:Gh}{x:Cl}{v:Value}(r:gX g x v):gX g (AB P e x) v:=by
 unfold AB;split
 ·split
  ·exact Rep.up (.nil _ _ (EQ Ed)) r
  ·exact r
 ·exact r
theorem Qq {P:Program}{e:Nat}{x:Cl} : bu (AB P e x)=bu x:=by
 unfold AB;split
 ·split <;> rfl
 ·rfl
theorem zc3 {P:Program}{e b:Nat}{g:Gh}{cs:List Cl}{vs:List Value}(r:RL (gX g) cs vs):RL (gX g) (Po b (AB P e) cs) vs:=by
 unfold Po;split
 ·rename_i x hx;obtain⟨v,hv,hxv⟩:=r.get b _ hx;have:=r.set b (a:=AB P e x) (b:=v) (Xk hxv);have e:vs.set b v=vs:=by
   obtain⟨hlt,hv⟩:=xy.1 hv;rw[<- hv,List.set_getElem_self]
  rwa[e] at this
 ·exact r
theorem Qr {P:Program}{e b:Nat}{cs:List Cl}{M:Nat}(h:M∈(Po b (AB P e) cs).flatMap bu):M∈cs.flatMap bu:=by
 unfold Po at h;split at h
 ·rename_i x hx;obtain⟨c,hc,hM⟩:=jA.1 h;rcases List.mem_or_eq_of_mem_set hc with hc | rfl
  ·exact jA.2 ⟨c,hc,hM⟩
  ·rw [Qq] at hM;exact jA.2 ⟨x,Ez hx,hM⟩
 ·exact h
theorem yZ {α : Type} {k : Nat} {x : α} : ∀ {l : List (Nat × α)}, (∃ y, lk l k = some y) → ∀ n, lk (TW k x l) n = lk ((k, x) :: l) n
  | [],⟨_,h⟩,_=>by cases h
  | (j,y) :: r,h,n=>by
    unfold TW;cases hb:Nat.beq j k with
    | true =>
      have:=jk hb;subst this;simp only[aW];split <;> rfl
    | false =>
      have hne:=Nat.ne_of_beq_eq_false hb;obtain⟨z,hz⟩:=h;rw[aW,if_neg hne] at hz;have ih:=yZ (x:=x) ⟨z,hz⟩ n;simp only[aW] at ih ⊢;by_cases h1:j=n
      · rw[if_pos h1,if_neg (λ e=>hne (h1.trans e.symm)),if_pos h1]
      · rw[if_neg h1,ih,if_neg h1]
theorem bY.lk_congr (S:bY P nt B w0 h0 g σ a w){τ:St}(h1:∀ L,lk τ.env L=lk σ.env L) (h2:∀ L,lk τ.aC L=lk σ.aC L):bY P nt B w0 h0 g τ a w :=
 ⟨S.dfr,S.size,λ t d ht=>S.env t d (by rw[<- h1];exact ht),λ L o ho=>S.obj L o (by rw[<- h2];exact ho),λ L o b ho=>S.own L o b (by rw[<- h2];exact ho),
  λ L o b L' o' ho ho'=>S.sep L o b L' o' (by rw[<- h2];exact ho) (by rw[<- h2];exact ho'),S.hw,S.le0,S.hn,S.below,S.bs,
  λ t d ht L hL=>by rw[h2];exact S.clE t d (by rw[<- h1];exact ht) L hL,λ L o ho M hM=>by rw[h2];exact S.clO L o (by rw[<- h2];exact ho) M hM⟩
theorem Zm {k b e L:Nat}(S:bY P nt B w0 h0 g σ a w):bY P nt B w0 h0 g (nf1 P k L b e σ) a w:=by
 unfold nf1;split
 ·split
  ·rename_i x hx;exact (S.env' (d:=.one (.c (AB P e x))) (Xk (S.env L _ hx)) λ M hM=>S.clE L _ hx M (by simpa [cu,cZ,Qq] using hM)).lk_congr (yZ ⟨_,hx⟩) λ _=>rfl
  ·rename_i cs hx;obtain⟨vs,hv,hr⟩:=S.env L _ hx;exact (S.env' (d:=.one (.agg (Po b (AB P e) cs))) ⟨vs,hv,zc3 hr⟩ λ M hM=>S.clE L _ hx M (Qr hM)).lk_congr (yZ ⟨_,hx⟩) λ _=>rfl
  ·exact S
 ·split
  ·rename_i ty cs hL;obtain⟨D,hD,hr⟩:=S.obj L _ hL;exact (S.write2 (w':=w) (o':=.box ty (Po b (AB P e) cs)) hL (λ _ h=>h) (.refl B w) (λ _ _ _=>rfl) ⟨D,hD,zc3 hr⟩ λ M hM=>S.clO L _ hL M (Qr hM)).lk_congr (λ _=>rfl) (yZ ⟨_,hL⟩)
  ·exact S
theorem xg : ∀ {l : List (Nat × Nat × Nat × Nat)} {σ : St}, bY P nt B w0 h0 g σ a w → bY P nt B w0 h0 g (DZ P l σ) a w
  | [],_,S=>S
  | (_,_,_,_) :: l,_,S=>xg (l:=l) (Zm S)
theorem MF {k:Keep}{s:St}{g:Gh}{σ:St}(h:uM P k σ=some s) (S:bY P nt B w0 h0 g σ a w):∃ g',bY P nt B w0 h0 g' s a w:=by
 unfold uM at h;split at h
 ·cases h
 ·rename_i σ1 h1;obtain⟨g1,S1⟩:=qg k.coT σ σ1 g h1 S;split at h
  ·cases h
  ·rename_i σ2 h2;obtain⟨g2',S2'⟩:=qh k.coB σ1 σ2 g1 h2 S1;split at h
   ·cases h
   rename_i σ3 h3;obtain⟨g2,S2⟩:=qi k.coV σ2 σ3 g2' h3 S2';simp only[] at h;split at h
   ·rename_i hcl;simp only[bP] at h;subst h;simp only[fA,List.all_eq_true] at hcl;obtain⟨hc1,hc2⟩:=hcl;have hin:∀ {gZ l:List Nat},TV gZ l=true->∀ L∈l,L∈gZ:=by
     intro gZ l h L hL;have:=List.all_eq_true.1 h L hL;simpa using this
    refine⟨g2,S2.dfr,S2.size,?_,?_,?_,?_,S2.hw,S2.le0,S2.hn,S2.below,S2.bs,?_,?_⟩
    ·intro t d ht;obtain⟨y,h1,rfl,_⟩:=jr ht;exact zc2 (S2.env t y h1)
    ·intro L o ho;obtain⟨y,h1,rfl,_⟩:=jr ho;exact Zl (S2.obj L y h1)
    ·intro L o b ho hb;obtain⟨y,h1,rfl,_⟩:=jr ho;rw[CW] at hb;exact S2.own L y b h1 hb
    ·intro L o b L' o' ho ho' hb hb';obtain⟨y,h1,rfl,_⟩:=jr ho;obtain⟨y',h1',rfl,_⟩:=jr ho';rw[CW] at hb hb';exact S2.sep L y b L' y' h1 h1' hb hb'
    ·intro t d ht L hL;have hm:=hin (hc1 (t,d) (eu ht)) L hL;obtain⟨y,h1,rfl,_⟩:=jr ht;obtain⟨o,ho⟩:=S2.clE t y h1 L (Uu L hL);exact⟨_,mZ ho hm⟩
    ·intro L o ho M hM;have hm:=hin (hc2 (L,o) (eu ho)) M hM;obtain⟨y,h1,rfl,_⟩:=jr ho;obtain⟨o',ho'⟩:=S2.clO L y h1 M (Qn M hM);exact⟨_,mZ ho' hm⟩
   ·cases h
theorem Uw {n:Nat}(S:bY P nt B w0 h0 g σ a w):∃ g',bY P nt B w0 h0 g' (YY σ n) a w:=by
  unfold YY;generalize (n - 1000000) / 64=bx;generalize (n - 1000000) % 64=kx;split
  · exact⟨g,S⟩
  · split
    · rename_i ty cs hbx;split
      · rename_i L hk;split
        · rename_i e s b len get hL;obtain⟨h',S1,F⟩:=S.freeze (u:=[(L,.fvec s len get)]) (λ x hx=>by
            simp only[jQ] at hx;subst hx;exact .inl ⟨_,_,_,_,_,hL,rfl⟩)
          have hne:L ≠ bx:=λ e=>by subst e;rw[hL] at hbx;cases hbx
          have F7:lk ([(L,AO.fvec s len get)] ++ σ.aC) (bx)=some (.box ty cs):=by
            show lk ((L,AO.fvec s len get) :: σ.aC) _=_;rw[aW,if_neg hne];exact hbx
          obtain⟨C,hC,hr⟩:=S1.obj _ _ F7;obtain⟨v,hv,hkv⟩:=hr.get _ _ hk;have hrep:Rep h' (.sl len s get) v:=by
            have hkv:v=g.sv L/\_:=hkv;rw[hkv.1];exact F.vec L e s b len get hL (by simp)
          have Qo:C.toList.set kx v=C.toList:=by
            apply List.ext_getElem?;intro j;by_cases hj:j=kx
            · subst hj;have hlt:=(xy.1 hv).1;rw[List.getElem?_set_self hlt,hv]
            · rw[List.getElem?_set_ne (λ e=>hj e.symm)]
          have S2 := S1.write (o' := .box ty (cs.set kx (.p (.sl len s get)))) (w' := w) F7 (fun b hb => hb) (.refl B w) (fun _ _ => rfl)
            ⟨C,hC,by rw[<- Qo];exact hr.set _ hrep⟩
            (λ M hM=>by
              simp only[dJ,jA] at hM;obtain⟨c,hc,hM⟩:=hM;rcases List.mem_or_eq_of_mem_set hc with h | h
              · exact S1.clO _ _ F7 M (jA.2 ⟨c,h,hM⟩)
              · subst h;simp[bu] at hM)
          exact⟨_,S2⟩
        · exact⟨g,S⟩
      · exact⟨g,S⟩
    · exact⟨g,S⟩
theorem KO : ∀ (l : List Nat) (σ : St) (g : Gh), bY P nt B w0 h0 g σ a w → ∃ g', bY P nt B w0 h0 g' (coP l σ) a w
  | [],σ,g,S=>⟨g,S⟩
  | n :: r,σ,g,S=>by
    obtain⟨g1,S1⟩:=Uw (n:=n) S;exact KO r _ g1 S1
theorem dR {k:Keep}{s:St}(h:canon P k σ=some s) (S:bY P nt B w0 h0 g σ a w):∃ g',bY P nt B w0 h0 g' s a w:=by
 obtain⟨h',S1,_⟩:=S.freeze ((Qp (ob:=lk σ.aC) (ks:=k.coF)).append (F8 (ob:=lk σ.aC) (ks:=k.coF)));unfold canon at h;split at h
 ·rename_i s1 h1;obtain⟨g0,S0⟩:=KO k.coF (YX k.coF σ) _ S1;obtain⟨g1,S2⟩:=ql k.coZ (coP k.coF (YX k.coF σ)) s1 _ h1 S0;split at h
  ·rename_i s2 h2;obtain⟨g2,S3⟩:=MF h2 S2;cases h;exact⟨g2,xg S3⟩
  ·cases h
 ·cases h
end
end Go.Pm
namespace Go.Pm
variable [aJ]
open Go.RowKit (Below)

section
variable {P:Program}{Γ:bf}{nt B:Nat}{w0:World}{h0:Fz}{g:Gh}{σ:St}{a:Act}{w:World}{r:Option Nat}{n i:Nat}{Q:Exit->Act->World->Prop}

theorem MG {o:Oper}{R R':Act->World->Prop}(h:o.wpIn (FR r) n P a w R Q) (hR:∀ a w,R a w->R' a w):o.wpIn (FR r) n P a w R' Q:=by
 refine⟨h.1,?_⟩;have h2:=h.2;generalize (o.semAt (FR r).round a.eval).run P w=res at h2 ⊢
 match res,h2 with
 | .ok (.value v) w',h2=>exact hR _ _ h2
 | .ok .skip w',h2=>exact hR _ _ h2
 | .ok (.defer d) w',h2=>exact hR _ _ h2
 | .ok (.enter f args) w',h2 =>
  refine⟨h2.1,h2.2.mono ?_⟩;intro e w'' he;cases e with
  | returned v=>exact hR _ _ he
  | panicked ch=>exact he
  | outgrown=>exact he
 | .ok (.row row args) w',h2=>exact⟨h2.1,h2.2.mono λ v w'' hv=>hR _ _ hv⟩
 | .ok (.round l f tmps x y) w',h2 =>
  refine⟨h2.1,h2.2.mono ?_⟩;intro e w'' he;cases e with
  | returned v=>exact hR _ _ he
  | panicked ch=>exact he
  | outgrown=>exact he
 | .halt (.panic v) w',h2=>exact h2

theorem Ux {o:Oper}{R:Act->World->Prop}(h:o.wpIn (FR r) n P a w R Q):o.wpIn (FR r) n P a w (λ a' w'=>R a' w'/\∃ v ds,a'=({ a with defers:=ds } : Act).put o.dst v) Q:=by
 refine⟨h.1,?_⟩;have h2:=h.2;generalize (o.semAt (FR r).round a.eval).run P w=res at h2 ⊢
 match res,h2 with
 | .ok (.value v) w',h2=>exact⟨h2,v,a.defers,rfl⟩
 | .ok .skip w',h2=>exact⟨h2,undef,a.defers,rfl⟩
 | .ok (.defer d) w',h2=>exact⟨h2,undef,d :: a.defers,rfl⟩
 | .ok (.enter f args) w',h2 =>
  refine⟨h2.1,h2.2.mono ?_⟩;intro e w'' he;cases e with
  | returned v=>exact⟨he,v,a.defers,rfl⟩
  | panicked ch=>exact he
  | outgrown=>exact he
 | .ok (.row row args) w',h2=>exact⟨h2.1,h2.2.mono λ v w'' hv=>⟨hv,v,a.defers,rfl⟩⟩
 | .ok (.round l f tmps x y) w',h2 =>
  refine⟨h2.1,h2.2.mono ?_⟩;intro e w'' he;cases e with
  | returned v=>exact⟨he,v,a.defers,rfl⟩
  | panicked ch=>exact he
  | outgrown=>exact he
 | .halt (.panic v) w',h2=>exact h2

def Kp (D:List Nat) (a a':Act):Prop:=(∀ t,t ∉ D->a'.tmps.getD t undef=a.tmps.getD t undef)/\a'.tmps.size=a.tmps.size/\(rfS ∉ D->a'.defers=a.defers)
theorem Kp.refl (D:List Nat) (a:Act):Kp D a a:=⟨λ _ _=>rfl,rfl,λ _=>rfl⟩
theorem Kp.put {D:List Nat}{a0 a:Act}(h:Kp D a0 a){dst:Option Nat}(hd:∀ t,dst=some t->t∈D) (v:Value) (ds:List Deferred) (hds:ds=a.defers):Kp D a0 (({ a with defers:=ds } : Act).put dst v):=by
 subst hds;cases dst with
 | none=>exact h
 | some t =>
  refine⟨λ u hu=>?_,by simp[Act.put,h.2.1],λ hr=>h.2.2 hr⟩;have hne:t ≠ u:=λ e=>hu (e ▸ hd t rfl);rw[<- h.1 u hu];simp[Act.put,rW,Array.getElem?_setIfInBounds_ne hne]

theorem sK {ops:Array Oper}{tmps:Array Value}{j g:Nat}{b:Bool}(hg:(ops[j]?).bind (·.dst)=some g) (hv:tmps.getD g undef=.bool b):yielded ops tmps j=some b:=by
 unfold yielded;rw[hg];simp only[Option.bind_some];rw[rW] at hv;cases h:tmps[g]? with
 | none=>rw[h] at hv;simp[undef] at hv
 | some v=>rw[h] at hv;simp only[Option.getD_some] at hv;subst hv;rfl
theorem qm {ops:Array Oper}{tmps:Array Value}{j g:Nat}(hg:(ops[j]?).bind (·.dst)=some g) (hv:tmps.getD g undef=undef):yielded ops tmps j=none:=by
 unfold yielded;rw[hg];simp only[Option.bind_some];rw[rW] at hv;cases h:tmps[g]? with
 | none=>rfl
 | some v=>rw[h] at hv;simp only[Option.getD_some] at hv;subst hv;rfl

theorem bY.skip (S:bY P nt B w0 h0 g σ a w){dst:Option Nat}(hd:dG nt dst=true):bY P nt B w0 h0 g (σ.skip dst) (a.put dst undef) w:=by
 have:=S.put (d:=.cl .undef) (v:=undef) hd rfl (λ L hL=>by simp[cu,cZ,bu] at hL) σ.log;cases dst <;> exact this

theorem Qs (hok : iL P Γ) {ops : Array Oper} {K : St → Prop} {D : List Nat} {a0 : Act} {ad : List Deferred} (hD : ∀ (j : Nat) (o : Oper), ops[j]? = some o → ∀ t, o.dst = some t → t ∈ D)
    (hQ:∀ σ',K σ'->∀ g' a' w',bY P nt B w0 h0 g' σ' a' w'->Kp D a0 a'->a'.defers=ad->Q .normal a' w') :
    ∀ (l:List Oper) (i:Nat) (σ:St) (g:Gh) (a:Act) (w:World),(∀ j,l[j]? = ops[i+j]?)->iP P Γ nt ops i l K σ->bY P nt B w0 h0 g σ a w->Kp D a0 a->a.defers=ad ->
      wpOpsIn (FR r) n P ops Q (List.range' i l.length) a w:=by
  intro l
  induction l with
  | nil=>intro i σ g a w _ h S hk had;exact hQ σ h g a w S hk had
  | cons o l ih =>
    intro i σ g a w hl h S hkp had;have ho:ops[i]? = some o:=by have:=hl 0;simpa using this.symm
    have hl':∀ j,l[j]? = ops[i+1+j]?:=λ j=>by have:=hl (j+1);rw[TR] at this;rw[this];congr 1;omega
    simp only[Ey,List.range'_succ,wpOpsIn,ho];simp only[iP] at h;split at h
    · exact h.elim
    · rename_i hd;have run:∀ (σ:St),bY P nt B w0 h0 g σ a w->kQ (act P Γ o (eY σ.env) (lk σ.aC)) (lV σ i o) i o.dst (iP P Γ nt ops (i+1) l K) σ->o.wpIn (FR r) n P a w (wpOpsIn (FR r) n P ops Q (List.range' (i+1) l.length)) Q:=by
        intro σ S h;obtain⟨hs,hk⟩:=AP.1 h;refine MG (Ux (A7 (i:=i) (Q:=Q) (r:=r) (n:=n) hok S hd rfl hs)) ?_;rintro a' w' ⟨⟨hdf,g',σ',hst,S'⟩,v,ds,rfl⟩;exact ih (i+1) _ g' _ w' hl' (hk σ' hst) (S'.log _) (hkp.put (hD i o ho) v ds ((put_defers _ _ _).symm.trans hdf)) (hdf.trans had)
      have skp:∀ (σ:St),bY P nt B w0 h0 g σ a w->iP P Γ nt ops (i+1) l K (σ.skip o.dst)->wpOpsIn (FR r) n P ops Q (List.range' (i+1) l.length) (a.put o.dst undef) w:=by
        intro σ S h;exact ih (i+1) _ g _ w hl' h (S.skip hd) (hkp.put (hD i o ho) undef a.defers rfl) ((put_defers _ _ _).trans had)
      split at h
      · rename_i hg;rw[if_pos (by simp[Region.wanted,hg])];exact run σ S h
      · rename_i j want hg;split at h
        · exact h.elim
        · rename_i gt hgt;split at h
          · rename_i b hb;have hv:a.tmps.getD gt undef=.bool b:=by
              have:=S.env gt _ hb;generalize a.tmps.getD gt undef=v at this;cases this;rfl
            have hy:=sK hgt hv;have S1:∀ c,b=c->bY P nt B w0 h0 g (σ.setT gt (.bool c)) a w:=by
              intro c hc;refine S.env' (t:=gt) (d:=.bool c) ?_ (jb _);rw[hv,hc];exact .bool c
            have h2:=nG.1 h;cases b with
            | true =>
              have h3:=h2.1 rfl;cases want with
              | true=>rw[if_pos (by simp[Region.wanted,hg,hy])];exact run _ (S1 true rfl) h3
              | false=>rw[if_neg (by simp[Region.wanted,hg,hy])];exact⟨λ _ _=>trivial,skp _ (S1 true rfl) h3⟩
            | false =>
              have h3:=h2.2 rfl;cases want with
              | true=>rw[if_neg (by simp[Region.wanted,hg,hy])];exact⟨λ _ _=>trivial,skp _ (S1 false rfl) h3⟩
              | false=>rw[if_pos (by simp[Region.wanted,hg,hy])];exact run _ (S1 false rfl) h3
          · rename_i hb;have hv:a.tmps.getD gt undef=undef:=S.env gt _ hb;have hy:=qm hgt hv;rw[if_neg (by simp[Region.wanted,hg,hy])];exact⟨λ _ _=>trivial,skp _ S h⟩
          · exact h.elim

theorem CX (hok : iL P Γ) {ops : Array Oper} {K : St → Prop} {D : List Nat} {a0 : Act} (hD : ∀ (j : Nat) (o : Oper), ops[j]? = some o → ∀ t, o.dst = some t → t ∈ D)
    (h:iP P Γ nt ops 0 ops.toList K σ) (S:bY P nt B w0 h0 g σ a w) (hkp:Kp D a0 a)
    (hQ:∀ σ',K σ'->∀ g' a' w',bY P nt B w0 h0 g' σ' a' w'->Kp D a0 a'->a'.defers=a.defers->Q .normal a' w'):wpOpsIn (FR r) n P ops Q (List.range ops.size) a w:=by
  have:=Qs (r:=r) (n:=n) hok hD hQ ops.toList 0 σ g a w (λ j=>by simp) h S hkp rfl;rw[List.range_eq_range'];simpa using this

end
end Go.Pm
namespace Go.Pm
variable [aJ]

def aH.fp : aH → List (Nat × Bool)
  | .no=>[]
  | .val fp _ _ _=>fp
  | .chk fp _ _ _ _=>fp
def aH.u : aH → List (Nat × AO)
  | .no=>[]
  | .val _ _ u _=>u
  | .chk _ _ _ u _=>u
def aH.kl : aH → List Nat
  | .no=>[]
  | .val _ _ _ k=>k
  | .chk _ _ _ _ k=>k
def aH.gives : aH → DV → Prop
  | .no,_=>False
  | .val _ d _ _,d'=>d'=d
  | .chk _ _ d _ _,d'=>d'=d

def Men (o:Oper) (ev:Operand->DV) (ob:Nat->Option AO) (fp:List (Nat×Bool)) (L:Nat):Prop :=
 (∃ x∈o.op.operands.toList,L∈jI (ev x))\/∃ y∈fp,∃ o',ob y.1=some o'/\L∈mg o'

structure bZ (P : Program) (Γ : bf) (o : Oper) (ev : Operand → DV) (ob : Nat → Option AO) (A : aH) : Prop where
  wr:∀ x∈A.u,(x.1,true)∈A.fp
  kl:A.kl=[]\/∃ L,A.kl=[L]/\(L,true)∈A.fp
  labu:∀ x∈A.u,∀ L∈mg x.2,Men o ev ob A.fp L
  labd:∀ d,A.gives d->∀ L∈jI d,Men o ev ob A.fp L\/(L,true)∈A.fp
  congr:∀ ev' ob',(∀ x∈o.op.operands.toList,ev' x=ev x)->(∀ y∈A.fp,ob' y.1=ob y.1)->act P Γ o ev' ob'=A

section
variable {P:Program}{Γ:bf}{o:Oper}{ev:Operand->DV}{ob:Nat->Option AO}{A:aH}

theorem bZ.pure {fp : List (Nat × Bool)} {d : DV} (hd : ∀ L ∈ jI d, Men o ev ob fp L ∨ (L, true) ∈ fp)
    (hc:∀ ev' ob',(∀ x∈o.op.operands.toList,ev' x=ev x)->(∀ y∈fp,ob' y.1=ob y.1)->act P Γ o ev' ob'=.val fp d [] []):bZ P Γ o ev ob (.val fp d [] []) :=
  ⟨λ x hx=>by simp[aH.u] at hx,.inl rfl,λ x hx=>by simp[aH.u] at hx,λ d' h=>by simp only[aH.gives] at h;subst h;exact hd,hc⟩
theorem bZ.pchk {fp : List (Nat × Bool)} {s : CP} {d : DV} (hd : ∀ L ∈ jI d, Men o ev ob fp L ∨ (L, true) ∈ fp)
    (hc:∀ ev' ob',(∀ x∈o.op.operands.toList,ev' x=ev x)->(∀ y∈fp,ob' y.1=ob y.1)->act P Γ o ev' ob'=.chk fp s d [] []):bZ P Γ o ev ob (.chk fp s d [] []) :=
  ⟨λ x hx=>by simp[aH.u] at hx,.inl rfl,λ x hx=>by simp[aH.u] at hx,λ d' h=>by simp only[aH.gives] at h;subst h;exact hd,hc⟩
theorem gI {fp:List (Nat×Bool)}(v:PV):∀ L∈jI (.p v),Men o ev ob fp L\/(L,true)∈fp:=λ L hL=>by simp[jI,pR,kK] at hL
theorem nY {fp:List (Nat×Bool)}{x:Operand}{d:DV}(hx:x∈o.op.operands.toList) (h:∀ L∈jI d,L∈jI (ev x)):∀ L∈jI d,Men o ev ob fp L\/(L,true)∈fp :=
 λ L hL=>.inl (.inl ⟨x,hx,h L hL⟩)

theorem MH {c:Cl} : ∀ L∈kK c,L∈bu c:=by cases c <;> simp[kK,bu]

theorem MI {ag:Bool}{m off:Nat}{cells:List Cl}{d:D1}(hr:kW ag m cells off=some d):∀ L∈pR d,L∈cells.flatMap kK:=by
 cases ag with
 | true =>
  simp only[kW] at hr;split at hr
  ·simp only [bP] at hr; subst hr;intro L hL;simp only[pR,jA] at hL ⊢;obtain⟨c,hc,hL⟩:=hL;exact⟨c,List.mem_of_mem_drop (List.mem_of_mem_take hc),hL⟩
  ·cases hr
 | false =>
  simp only[kW] at hr;split at hr
  ·rename_i x hx;simp only[bP] at hr;subst hr;intro L hL;simp only[pR] at hL;exact jA.2 ⟨x,Ez hx,hL⟩
  ·cases hr
theorem Qu (cells:List PV):(cells.map Cl.p).flatMap kK=[]:=by
 induction cells with
 | nil=>rfl
 | cons c r ih=>simp[kK,ih]
theorem Ee {ag:Bool}{m off:Nat}{cells:List PV}{d:D1}(hr:kW ag m (cells.map .p) off=some d):pR d=[]:=by
 have:=MI hr;rw[Qu] at this;cases hd:pR d with
 | nil=>rfl
 | cons x l=>have:=this x (by rw[hd];exact jS);simp at this

theorem xK {ob':Nat->Option AO}{c:Cl}(h:∀ L∈bu c,ob' L=ob L):wM ob' c=wM ob c:=by
 cases c <;> first | rfl | (simp only[wM];rw[h _ (by simp[bu])])
theorem ve {ob' : Nat → Option AO} : ∀ {cs : List Cl}, (∀ L ∈ cs.flatMap bu, ob' L = ob L) → iG ob' cs = iG ob cs
  | [],_=>rfl
  | c :: cs,h=>by
    simp only[iG];rw[xK (λ L hL=>h L (by simp[hL])),ve (λ L hL=>h L (by simp only[lT,dL];exact .inr hL))]
theorem Uy {ob':Nat->Option AO}{c:Cl}(h:∀ L∈bu c,ob' L=ob L/\∀ o',ob L=some o'->∀ M∈dJ o',ob' M=ob M):Jv ob' c=Jv ob c:=by
 cases c with
 | ptr L off =>
  obtain⟨h1,h2⟩:=h L (by simp[bu]);simp only[Jv];rw[h1];cases hL:ob L with
  | none=>rfl
  | some o' =>
   cases o' with
   | box ty cells=>simp only[];rw[ve (λ M hM=>h2 _ hL M hM)]
   | _=>rfl
 | _=>exact xK λ L hL=>(h L hL).1
theorem CY {ob' : Nat → Option AO} : ∀ {cs : List Cl}, (∀ L ∈ cs.flatMap bu, ob' L = ob L ∧ ∀ o', ob L = some o' → ∀ M ∈ dJ o', ob' M = ob M) → kP ob' cs = kP ob cs
  | [],_=>rfl
  | c :: cs,h=>by
    simp only[kP];rw[Uy (λ L hL=>h L (by simp[hL])),CY (λ L hL=>h L (by simp only[lT,dL];exact .inr hL))]
def DC (ob ob':Nat->Option AO) (L:Nat):Prop:=ob' L=ob L/\∀ o',ob L=some o'->∀ M∈dJ o',ob' M=ob M/\∀ o2,ob M=some o2->∀ N∈dJ o2,ob' N=ob N
theorem F9 {ob':Nat->Option AO}{c:Cl}(h:∀ L∈bu c,DC ob ob' L):EC ob' c=EC ob c:=by
 cases c with
 | ptr L off =>
  obtain⟨h1,h2⟩:=h L (by simp[bu]);simp only[EC];rw[h1];cases hL:ob L with
  | none=>rfl
  | some o' =>
   cases o' with
   | box ty cells=>simp only[];rw[CY (λ M hM=>h2 _ hL M hM)]
   | _=>rfl
 | _=>exact xK λ L hL=>(h L hL).1
theorem CZ {ob' : Nat → Option AO} : ∀ {cs : List Cl}, (∀ L ∈ cs.flatMap bu, DC ob ob' L) → o7 ob' cs = o7 ob cs
  | [],_=>rfl
  | c :: cs,h=>by
    simp only[o7];rw[F9 (λ L hL=>h L (by simp[hL])),CZ (λ L hL=>h L (by simp only[lT,dL];exact .inr hL))]
theorem zf : ∀ caps : List pM, (caps.map YV).flatMap bu = jB caps
  | []=>rfl
  | .v _ :: r=>by simp only[nR,lT,YV,bu,List.nil_append,jB];exact zf r
  | .b L :: r=>by simp only[nR,lT,YV,bu,jB,List.cons_append,List.nil_append];rw[zf r]
theorem KP {ob':Nat->Option AO}{c:Cl}(h:∀ L∈bu c,DC ob ob' L):frz ob' c=frz ob c:=by
 cases c with
 | clo f caps =>
  simp only[frz];rw[CZ (ob:=ob) (ob':=ob') (cs:=caps.map YV) (λ L hL=>h L (by rw[zf] at hL;exact hL))]
 | _=>exact F9 h
theorem xM {ob' : Nat → Option AO} : ∀ {cs : List Cl}, (∀ L ∈ cs.flatMap bu, DC ob ob' L) → pO ob' cs = pO ob cs
  | [],_=>rfl
  | c :: cs,h=>by
    simp only[pO];rw[KP (λ L hL=>h L (by simp[hL])),xM (λ L hL=>h L (by simp only[lT,dL];exact .inr hL))]
theorem ku {ob:Nat->Option AO}{d:DV}{k:Nat} : k∈bH ob d↔∃ L∈cu d,k=L\/∃ o,ob L=some o/\∃ M∈dJ o,k=M\/∃ o2,ob M=some o2/\k∈dJ o2:=by
 unfold bH;rw[jA];refine exists_congr λ L=>and_congr_right λ _=>?_;rw[jm];refine or_congr_right ?_;cases ob L with
 | none=>simp
 | some o =>
  simp only[bP,exists_eq_left',jA,jm];refine exists_congr λ M=>and_congr_right λ _=>or_congr_right ?_;cases ob M with
  | none=>simp
  | some o2=>simp
theorem Gf {ob':Nat->Option AO}{d:DV}(h:∀ L∈bH ob d,ob' L=ob L):wO ob' d=wO ob d:=by
 have key:∀ L∈cu d,DC ob ob' L:=λ L hL =>
  ⟨h L (ku.2 ⟨L,hL,.inl rfl⟩),λ o' ho' M hM=>⟨h M (ku.2 ⟨L,hL,.inr ⟨o',ho',M,hM,.inl rfl⟩⟩),λ o2 ho2 N hN=>h N (ku.2 ⟨L,hL,.inr ⟨o',ho',M,hM,.inr ⟨o2,ho2,hN⟩⟩⟩)⟩⟩
 cases d with
 | one d =>
  cases d with
  | c c=>simp only[wO];rw[KP key]
  | agg cs=>simp only[wO];rw[xM key]
 | tup ds=>rfl
theorem jL {ob' : Nat → Option AO} : ∀ {ds : List DV}, (∀ L ∈ ds.flatMap (bH ob), ob' L = ob L) → gm ob' ds = gm ob ds
  | [],_=>rfl
  | d :: ds,h=>by
    simp only[gm];rw[Gf (λ L hL=>h L (by simp[hL])),jL (λ L hL=>h L (by simp only[lT,dL];exact .inr hL))]
theorem iw {ob':Nat->Option AO}{d:DV}(h:∀ L∈bH ob d,ob' L=ob L):bH ob' d=bH ob d:=by
 have fm:∀ (l:List Nat) (f f':Nat->List Nat),(∀ L∈l,f' L=f L)->l.flatMap f'=l.flatMap f:=by
  intro l f f'
  induction l with
  | nil=>intro _;rfl
  | cons L l ih =>
   intro h;simp only[lT];rw[h L (by simp),ih (λ M hM=>h M (jc _ hM))]
 unfold bH;refine fm _ _ _ λ L hL=>?_;rw[h L (ku.2 ⟨L,hL,.inl rfl⟩)];cases hL2:ob L with
 | none=>rfl
 | some o =>
  refine congrArg (L :: ·) (fm _ _ _ λ M hM=>?_);rw[h M (ku.2 ⟨L,hL,.inr ⟨o,hL2,M,hM,.inl rfl⟩⟩)]

theorem nJ {c:Cl}{v:PV}{u:jY}(h:wM ob c=some (v,u)):∀ x∈u,x.1∈bu c/\mg x.2=[]:=by
 unfold wM at h;split at h
 ·simp only[bP,eQ] at h;rw[<- h.2];intro x hx;simp at hx
 ·split at h
  ·simp only[bP,eQ] at h;rw[<- h.2];intro x hx;simp at hx;subst hx;exact⟨by simp[bu],rfl⟩
  ·simp only[bP,eQ] at h;rw[<- h.2];intro x hx;simp at hx
  ·simp only[bP,eQ] at h;rw[<- h.2];intro x hx;simp only[jQ] at hx;subst hx;exact⟨by simp[bu],rfl⟩
  ·cases h
 ·cases h
theorem nZ : ∀ {cs : List Cl} {l : List PV} {u : jY}, iG ob cs = some (l, u) → ∀ x ∈ u, x.1 ∈ cs.flatMap bu ∧ mg x.2 = []
  | [],l,u,h=>by simp[iG] at h;rw[h.2];intro x hx;simp at hx
  | c :: cs,l,u,h=>by
    simp only[iG] at h;split at h
    · rename_i v u1 l2 u2 h1 h2;simp only[bP,eQ] at h;rw[<- h.2];intro x hx;simp only[lT,dL];rcases dL.1 hx with hx | hx
      · exact⟨.inl (nJ h1 x hx).1,(nJ h1 x hx).2⟩
      · exact⟨.inr (nZ h2 x hx).1,(nZ h2 x hx).2⟩
    · cases h
theorem Zn {c:Cl}{v:PV}{u:jY}(h:Jv ob c=some (v,u)):∀ x∈u,(x.1∈bu c\/∃ L∈bu c,∃ o',ob L=some o'/\x.1∈dJ o')/\mg x.2=[]:=by
 unfold Jv at h;split at h
 ·split at h
  ·rename_i L off _x ty cells hL;split at h
   ·rename_i l us hl;simp only[bP,eQ] at h;rw[<- h.2];intro x hx;rcases dL.1 hx with hx | hx
    ·exact⟨.inr ⟨L,by simp[bu],_,hL,(nZ hl x hx).1⟩,(nZ hl x hx).2⟩
    ·simp at hx;subst hx;exact⟨.inl (by simp[bu]),rfl⟩
   ·cases h
  ·simp only[bP,eQ] at h;rw[<- h.2];intro x hx;simp at hx
  ·cases h
 ·intro x hx;exact⟨.inl (nJ h x hx).1,(nJ h x hx).2⟩
theorem Gg : ∀ {cs : List Cl} {l : List PV} {u : jY}, kP ob cs = some (l, u) → ∀ x ∈ u, (x.1 ∈ cs.flatMap bu ∨ ∃ L ∈ cs.flatMap bu, ∃ o', ob L = some o' ∧ x.1 ∈ dJ o') ∧ mg x.2 = []
  | [],l,u,h=>by simp[kP] at h;rw[h.2];intro x hx;simp at hx
  | c :: cs,l,u,h=>by
    simp only[kP] at h;split at h
    · rename_i v u1 l2 u2 h1 h2;simp only[bP,eQ] at h;rw[<- h.2];intro x hx;simp only[lT,dL];rcases dL.1 hx with hx | hx
      · obtain ⟨h3, h4⟩ := Zn h1 x hx;refine⟨?_,h4⟩;rcases h3 with h3 | ⟨L,hL,o',h5,h6⟩
        · exact .inl (.inl h3)
        · exact .inr ⟨L,.inl hL,o',h5,h6⟩
      · obtain ⟨h3, h4⟩ := Gg h2 x hx;refine⟨?_,h4⟩;rcases h3 with h3 | ⟨L,hL,o',h5,h6⟩
        · exact .inl (.inr h3)
        · exact .inr ⟨L,.inr hL,o',h5,h6⟩
    · cases h
def RC (ob:Nat->Option AO) (k:Nat) (l:List Nat):Prop:=∃ L∈l,k=L\/∃ o,ob L=some o/\∃ M∈dJ o,k=M\/∃ o2,ob M=some o2/\k∈dJ o2
theorem RC.mono {ob:Nat->Option AO}{k:Nat}{l m:List Nat}(h:RC ob k l) (hl:∀ x∈l,x∈m):RC ob k m:=by
 obtain⟨L,h1,h2⟩:=h;exact⟨L,hl L h1,h2⟩
theorem A8 {c:Cl}{v:PV}{u:jY}(h:EC ob c=some (v,u)):∀ x∈u,RC ob x.1 (bu c)/\mg x.2=[]:=by
 unfold EC at h;split at h
 ·split at h
  ·rename_i L off _x ty cells hL;split at h
   ·rename_i l us hl;simp only[bP,eQ] at h;rw[<- h.2];intro x hx;rcases dL.1 hx with hx | hx
    ·obtain ⟨h3, h4⟩ := Gg hl x hx;refine⟨⟨L,by simp[bu],.inr ⟨_,hL,?_⟩⟩,h4⟩;rcases h3 with h3 | ⟨M,hM,o2,h5,h6⟩
     ·exact⟨x.1,h3,.inl rfl⟩
     ·exact⟨M,hM,.inr ⟨o2,h5,h6⟩⟩
    ·simp at hx;subst hx;exact⟨⟨L,by simp[bu],.inl rfl⟩,rfl⟩
   ·cases h
  ·simp only[bP,eQ] at h;rw[<- h.2];intro x hx;simp at hx
  ·cases h
 ·intro x hx;exact⟨⟨x.1,(nJ h x hx).1,.inl rfl⟩,(nJ h x hx).2⟩
theorem xN : ∀ {cs : List Cl} {l : List PV} {u : jY}, o7 ob cs = some (l, u) → ∀ x ∈ u, RC ob x.1 (cs.flatMap bu) ∧ mg x.2 = []
  | [],l,u,h=>by simp[o7] at h;rw[h.2];intro x hx;simp at hx
  | c :: cs,l,u,h=>by
    simp only[o7] at h;split at h
    · rename_i v u1 l2 u2 h1 h2;simp only[bP,eQ] at h;rw[<- h.2];intro x hx;simp only[lT];rcases dL.1 hx with hx | hx
      · exact⟨(A8 h1 x hx).1.mono λ y hy=>dL.2 (.inl hy),(A8 h1 x hx).2⟩
      · exact⟨(xN h2 x hx).1.mono λ y hy=>dL.2 (.inr hy),(xN h2 x hx).2⟩
    · cases h
theorem Gi {c:Cl}{v:PV}{u:jY}(h:frz ob c=some (v,u)):∀ x∈u,RC ob x.1 (bu c)/\mg x.2=[]:=by
 unfold frz at h;split at h
 ·rename_i f caps;split at h
  ·rename_i l us hl;simp only[bP,eQ] at h;obtain⟨rfl,rfl⟩:=h;have:=xN hl;rw[zf] at this;exact this
  ·cases h
 ·exact A8 h
theorem wu : ∀ {cs : List Cl} {l : List PV} {u : jY}, pO ob cs = some (l, u) → ∀ x ∈ u, RC ob x.1 (cs.flatMap bu) ∧ mg x.2 = []
  | [],l,u,h=>by simp[pO] at h;rw[h.2];intro x hx;simp at hx
  | c :: cs,l,u,h=>by
    simp only[pO] at h;split at h
    · rename_i v u1 l2 u2 h1 h2;simp only[bP,eQ] at h;rw[<- h.2];intro x hx;simp only[lT];rcases dL.1 hx with hx | hx
      · exact⟨(Gi h1 x hx).1.mono λ y hy=>dL.2 (.inl hy),(Gi h1 x hx).2⟩
      · exact⟨(wu h2 x hx).1.mono λ y hy=>dL.2 (.inr hy),(wu h2 x hx).2⟩
    · cases h
theorem KQ {d:DV}{v:PA}{u:jY}(h:wO ob d=some (v,u)):∀ x∈u,x.1∈bH ob d/\mg x.2=[]:=by
 have deep:∀ k,RC ob k (cu d)->k∈bH ob d:=λ k hk=>ku.2 hk;unfold wO at h;split at h
 ·split at h
  ·rename_i v' u' h1;simp only[bP,eQ] at h;rw[<- h.2];intro x hx;obtain⟨h3,h4⟩:=Gi h1 x hx;exact⟨deep _ h3,h4⟩
  ·cases h
 ·split at h
  ·rename_i v' u' h1;simp only[bP,eQ] at h;rw[<- h.2];intro x hx;obtain⟨h3,h4⟩:=wu h1 x hx;exact⟨deep _ h3,h4⟩
  ·cases h
 ·cases h
theorem xO : ∀ {ds : List DV} {l : List PA} {u : jY}, gm ob ds = some (l, u) → ∀ x ∈ u, x.1 ∈ ds.flatMap (bH ob) ∧ mg x.2 = []
  | [],l,u,h=>by simp[gm] at h;rw[h.2];intro x hx;simp at hx
  | d :: ds,l,u,h=>by
    simp only[gm] at h;split at h
    · rename_i v u1 l2 u2 h1 h2;simp only[bP,eQ] at h;rw[<- h.2];intro x hx;simp only[lT,dL];rcases dL.1 hx with hx | hx
      · exact⟨.inl (KQ h1 x hx).1,(KQ h1 x hx).2⟩
      · exact⟨.inr (xO h2 x hx).1,(xO h2 x hx).2⟩
    · cases h
end
end Go.Pm
namespace Go.Pm
variable [aJ]

section
variable {P:Program}{Γ:bf}{o:Oper}{ev:Operand->DV}{ob:Nat->Option AO}{A:aH}

theorem Xl {α β : Type} {f h : α → List β} : ∀ {l : List α}, (∀ x ∈ l, f x = h x) → l.flatMap f = l.flatMap h
  | [],_=>rfl
  | x :: l,hf=>by simp only[lT];rw[hf x jS,Xl λ y hy=>hf y (jc _ hy)]

theorem Xm {x:Operand}(hop:o.op=.move x\/o.op=.assign x):bZ P Γ o ev ob (.val [] (ev x) [] []):=by
 have hx:x∈o.op.operands.toList:=by rcases hop with h | h <;> simp[h,Op.operands]
 refine bZ.pure (nY hx λ L hL=>hL) λ ev' ob' he _=>?_;rcases hop with h | h <;> simp only[act,h,he x hx]

theorem zh4 {b:Bool}{x y:DV} : ∀ L∈jI (wY b x y),L∈jI x\/L∈jI y:=by
 unfold wY;split
 ·intro L hL;simp[jI,pR,kK] at hL
 ·cases b with
  | true=>exact λ L hL=>.inl hL
  | false=>exact λ L hL=>.inr hL

theorem zh5 {c x y:Operand}{t:Bool}(hop:o.op=.pick c x y) (hc:ev c=.one (.c (.p (.bool t)))):bZ P Γ o ev ob (.val [] (wY t (ev x) (ev y)) [] []):=by
 have hcm:c∈o.op.operands.toList:=by simp[hop,Op.operands]
 have hx:x∈o.op.operands.toList:=by simp[hop,Op.operands]
 have hy:y∈o.op.operands.toList:=by simp[hop,Op.operands]
 refine bZ.pure (λ L hL=>?_) λ ev' ob' he _=>?_
 ·rcases zh4 L hL with h | h
  ·exact .inl (.inl ⟨x,hx,h⟩)
  ·exact .inl (.inl ⟨y,hy,h⟩)
 ·simp only[act,aPk,hop,he c hcm,he x hx,he y hy,hc]

theorem MJ {ao : AO} {d : Nat → DV} (hlo : ∀ L ∈ mg ao, Men o ev ob [] L) (hld : ∀ t, ∀ L ∈ jI (d t), L = t)
    (hc:∀ ev' ob',(∀ x∈o.op.operands.toList,ev' x=ev x)->act P Γ o ev' ob'=Aw ob' o.dst ao d) (hA:Aw ob o.dst ao d=A) (hs:A.safe):bZ P Γ o ev ob A:=by
  have hA':=hA;unfold Aw at hA;split at hA
  · rename_i t ht;split at hA
    · rename_i hn;subst hA;have men:∀ L,Men o ev ob [] L->Men o ev ob [(t,true)] L:=λ L h=>h.imp_right λ ⟨y,hy,_⟩=>by simp at hy
      refine⟨λ x hx=>?_,.inl rfl,λ x hx L hL=>?_,λ d' hd' L hL=>?_,λ ev' ob' he hob=>?_⟩
      · simp only[aH.u,jQ] at hx;subst hx;simp[aH.fp]
      · simp only[aH.u,jQ] at hx;subst hx;exact men L (hlo L hL)
      · simp only[aH.gives] at hd';subst hd';rw[hld t L hL];exact .inr (by simp[aH.fp])
      · rw [hc ev' ob' he];have:=hob (t,true) (by simp[aH.fp]);simp only at this;simp only[Aw,ht,this,hn]
    · subst hA;exact hs.elim
  · subst hA;exact hs.elim

theorem Xn {t:TypeId}{z:List Cl}(h:fE P t=some z):z.flatMap kK=[]:=by
 have h1:=Ko h;cases hz:z.flatMap kK with
 | nil=>rfl
 | cons L l =>
  have:L∈z.flatMap kK:=by rw[hz];exact jS
  obtain⟨c,hc,hL⟩:=jA.1 this;have:L∈z.flatMap bu:=jA.2 ⟨c,hc,MH L hL⟩;rw[h1] at this;simp at this

theorem ML (d:D1):d.cells.flatMap kK=pR d:=by cases d <;> simp[D1.cells,pR]

theorem Qv {t : TypeId} : ∀ (parts : List (Nat × Operand)) (z l : List Cl), gq P t ev z parts = some l → ∀ L ∈ l.flatMap kK, L ∈ z.flatMap kK ∨ ∃ x ∈ parts, L ∈ jI (ev x.2)
  | [],z,l,h=>by simp[gq] at h;subst h;exact λ L hL=>.inl hL
  | (i,x) :: r,z,l,h=>by
    simp only[gq] at h;split at h
    · rename_i d hd;have zFf:∀ (l' l:List Cl) (off:Nat),∀ L∈(spl l off l').flatMap kK,L∈l.flatMap kK\/L∈l'.flatMap kK:=by
        intro l'
        induction l' with
        | nil=>intro l off L hL;exact .inl hL
        | cons c l' ih =>
          intro l off L hL;simp only[spl] at hL;rcases ih _ _ L hL with h | h
          · obtain ⟨c', hc', hL'⟩ := jA.1 h;rcases List.mem_or_eq_of_mem_set hc' with h2 | h2
            · exact .inl (jA.2 ⟨c',h2,hL'⟩)
            · subst h2;exact .inr (jA.2 ⟨c',jS,hL'⟩)
          · exact .inr (by simp only[lT,dL];exact .inr h)
      have step:∀ off,gq P t ev (spl z off d.cells) r=some l->∀ L∈l.flatMap kK,L∈z.flatMap kK\/∃ y∈(i,x) :: r,L∈jI (ev y.2):=by
        intro off hb L hL;rcases Qv r _ l hb L hL with h | ⟨y,hy,hL⟩
        · rcases zFf _ _ _ L h with h | h
          · exact .inl h
          · refine .inr ⟨(i, x), jS, ?_⟩;simp only[hd,jI];rw[<- ML];exact h
        · exact .inr ⟨y,jc _ hy,hL⟩
      split at h
      · split at h
        · split at h
          · split at h
            · exact step _ h
            · cases h
          · cases h
        · cases h
      · split at h
        · split at h
          · exact step _ h
          · cases h
        · cases h
      · cases h
    · cases h

theorem zg {ev' : Operand → DV} {t : TypeId} : ∀ (parts : List (Nat × Operand)) (z : List Cl), (∀ x ∈ parts, ev' x.2 = ev x.2) → gq P t ev' z parts = gq P t ev z parts
  | [],z,_=>rfl
  | (i,x) :: r,z,h=>by
    have hx:ev' x=ev x:=h (i,x) jS;have ih:∀ z,gq P t ev' z r=gq P t ev z r:=λ z=>zg r z λ y hy=>h y (jc _ hy);simp only[gq,hx,ih]

theorem xh {ev':Operand->DV}{ob':Nat->Option AO}{s:Nat} : ∀ (parts:List (Nat×Operand)) (i:Nat) (ls:List (List PV)) (u:jY) (gZ:List Nat),iD ob ev s i parts=some (ls,u,gZ) ->
  (∀ x∈parts,ev' x.2=ev x.2)->(∀ L∈gZ,ob' L=ob L)->iD ob' ev' s i parts=some (ls,u,gZ)
 | [],i,ls,u,gZ,h,_,_=>by simpa [iD] using h
 | (j,x) :: r,i,ls,u,gZ,h,he,hob=>by
  have hx:ev' x=ev x:=he (j,x) jS;simp only[iD] at h ⊢;rw[hx];split at h
  ·rename_i hij;split at h
   ·rename_i d hd;split at h
    ·rename_i l u1 ls' us zmI h1 h2;split at h
     ·rename_i hlen;simp only[bP,eQ] at h;obtain⟨rfl,rfl,rfl⟩:=h;have e1:iG ob' d.cells=some (l,u1):=by
       rw[<- h1];refine ve λ L hL=>hob L (dL.2 (.inl ?_));cases d <;> simpa [D1.cells,cZ] using hL
      have e2:=xh r (i+1) ls' us zmI h2 (λ y hy=>he y (jc _ hy)) (λ L hL=>hob L (dL.2 (.inr hL)));simp only[e1,e2,hlen]
     ·cases h
    ·cases h
   ·cases h
  ·cases h
theorem sN {s : Nat} : ∀ (parts : List (Nat × Operand)) (i : Nat) (ls : List (List PV)) (u : jY) (gZ : List Nat), iD ob ev s i parts = some (ls, u, gZ) → ∀ x ∈ u, x.1 ∈ gZ ∧ mg x.2 = []
  | [],i,ls,u,gZ,h=>by simp[iD] at h;rw[h.2.1];intro x hx;simp at hx
  | (j,x) :: r,i,ls,u,gZ,h=>by
    simp only[iD] at h;split at h
    · split at h
      · rename_i d hd;split at h
        · rename_i l u1 ls' us zmI h1 h2;split at h
          · simp only [bP, eQ] at h;obtain⟨rfl,rfl,rfl⟩:=h;intro y hy;rcases dL.1 hy with hy | hy
            · obtain ⟨h3, h4⟩ := nZ h1 y hy;refine⟨dL.2 (.inl ?_),h4⟩;cases d <;> simpa [D1.cells,cZ] using h3
            · obtain ⟨h3, h4⟩ := sN r _ _ _ _ h2 y hy;exact⟨dL.2 (.inr h3),h4⟩
          · cases h
        · cases h
      · cases h
    · cases h

theorem zc4 {t : TypeId} {parts : Array (Nat × Operand)} {z l : List Cl} (hop : o.op = .build t parts) (hf : uI P t = true) (hz : fE P t = some z) (hl : gq P t ev z parts.toList = some l) :
  bZ P Γ o ev ob (.val [] (.one (.agg l)) [] []):=by
 have hm:∀ x∈parts.toList,x.2∈o.op.operands.toList:=λ x hx=>by
  simp only[hop,Op.operands];exact uF.2 ⟨x,hx,rfl⟩
 refine bZ.pure (λ L hL=>?_) λ ev' ob' he _=>?_
 ·rcases Qv _ _ _ hl L hL with h | ⟨x, hx, h⟩
  ·rw[Xn hz] at h;simp at h
  ·exact .inl (.inl ⟨x.2,hm x hx,h⟩)
 ·simp only[act,aBd,hop,hf,hz,zg parts.toList z (λ x hx=>he x.2 (hm x hx)),hl]

theorem Gj {l:List Nat}{L:Nat}(h:L∈l):(L,true)∈wr l:=uF.2 ⟨L,h,rfl⟩

theorem JC {t:TypeId}{n:Nat}{parts:Array (Nat×Operand)}(hop:o.op=.buildSlice t n parts) (hA:act P Γ o ev ob=A) (hs:A.safe):bZ P Γ o ev ob A:=by
 have hm:∀ x∈parts.toList,x.2∈o.op.operands.toList:=λ x hx=>by
  simp only[hop,Op.operands];exact uF.2 ⟨x,hx,rfl⟩
 simp only[act,aBs,hop] at hA;split at hA
 ·rename_i e hu;split at hA
  ·rename_i ie hie;split at hA
   ·rename_i ls u gZ hp;split at hA
    ·rename_i z dst hb hz hd;split at hA
     ·rename_i hn;subst hA;refine⟨λ x hx=>?_,.inl rfl,λ x hx L hL=>?_,λ d' hd' L hL=>?_,λ ev' ob' he hob=>?_⟩
      ·simp only [aH.u, jm] at hx;simp only[aH.fp,dL];rcases hx with rfl | hx
       ·exact .inr (by simp)
       ·exact .inl (Gj (sN _ _ _ _ _ hp x hx).1)
      ·simp only [aH.u, jm] at hx;rcases hx with rfl | hx
       ·simp[mg] at hL
       ·rw[(sN _ _ _ _ _ hp x hx).2] at hL;simp at hL
      ·simp only [aH.gives] at hd'; subst hd';simp only[jI,pR,kK,jQ] at hL;subst hL;exact .inr (by simp[aH.fp])
      ·have e1 := xh (ev' := ev') (ob' := ob') _ _ _ _ _ hp (fun x hx => he x.2 (hm x hx)) (fun L hL => hob (L, true) (dL.2 (.inl (Gj hL))));have e2:=hob (dst,true) (dL.2 (.inr (by simp)));simp only at e2;simp only[act,aBs,hop,hu,hie,e1,hb,hz,hd,e2,hn]
     ·subst hA;exact hs.elim
    ·subst hA;exact hs.elim
   ·subst hA;exact hs.elim
  ·subst hA;exact hs.elim
 ·subst hA;exact hs.elim

theorem zo1 {L:Nat}{ao:AO}{w:Bool}{d:D1}(hL:ob L=some ao) (h:∀ M∈pR d,M∈mg ao):∀ M∈jI (.one d),Men o ev ob [(L,w)] M\/(M,true)∈[(L,w)] :=
 λ M hM=>.inl (.inr ⟨(L,w),by simp,ao,hL,h M hM⟩)

theorem zh6 {t:TypeId}{x:Operand}(hop:o.op=.load t x) (hA:act P Γ o ev ob=A) (hs:A.safe):bZ P Γ o ev ob A:=by
 have hm:x∈o.op.operands.toList:=by simp[hop,Op.operands]
 simp only[act,aLd,hop] at hA;split at hA
 ·rename_i ag n hag hn;split at hA
  ·rename_i L off hx;split at hA
   ·rename_i ty cells hL;split at hA
    ·rename_i d hr;subst hA;refine bZ.pure (zo1 hL (MI hr)) λ ev' ob' he hob=>?_;have e:=hob (L,false) (by simp);simp only at e;simp only[act,aLd,hop,hag,hn,he x hm,hx,e,hL,hr]
    ·subst hA;exact hs.elim
   ·rename_i cells hL;split at hA
    ·rename_i d hr;subst hA;refine bZ.pure (λ M hM=>?_) λ ev' ob' he hob=>?_
     ·simp only[jI] at hM;rw[Ee hr] at hM;simp at hM
     have e:=hob (L,false) (by simp);simp only at e;simp only[act,aLd,hop,hag,hn,he x hm,hx,e,hL,hr]
    ·subst hA;exact hs.elim
   ·subst hA;exact hs.elim
  ·rename_i cells off hx;split at hA
   ·rename_i d hr;subst hA;refine bZ.pure (λ M hM=>?_) λ ev' ob' he hob=>?_
    ·simp only[jI] at hM;rw[Ee hr] at hM;simp at hM
    simp only[act,aLd,hop,hag,hn,he x hm,hx,hr]
   ·subst hA;exact hs.elim
  ·rename_i L s i k hx;split at hA
   ·rename_i e s' b len get hL;split at hA
    ·rename_i d hss hr;subst hA;refine bZ.pchk (λ M hM=>?_) λ ev' ob' he hob=>?_
     ·simp only[jI] at hM;rw[Ee hr] at hM;simp at hM
     have e:=hob (L,false) (by simp);simp only at e;simp only[act,aLd,hop,hag,hn,he x hm,hx,e,hL,hss,hr]
    ·subst hA;exact hs.elim
   ·rename_i s' len get hL;split at hA
    ·rename_i d hss hr;subst hA;refine bZ.pchk (λ M hM=>?_) λ ev' ob' he hob=>?_
     ·simp only[jI] at hM;rw[Ee hr] at hM;simp at hM
     have e:=hob (L,false) (by simp);simp only at e;simp only[act,aLd,hop,hag,hn,he x hm,hx,e,hL,hss,hr]
    ·subst hA;exact hs.elim
   ·rename_i hL0;split at hA
    ·rename_i hss;split at hA
     ·rename_i dst hdst;split at hA
      ·rename_i hfresh hL;subst hA;refine⟨λ x hx=>?_,.inl rfl,λ x hx L hL=>?_,λ d' hd' L hL=>?_,λ ev' ob' he hob=>?_⟩
       ·simp only [aH.u, jm, List.not_mem_nil, or_false] at hx;rcases hx with rfl | rfl <;> simp[aH.fp]
       ·simp only [aH.u, jm, List.not_mem_nil, or_false] at hx;rcases hx with rfl | rfl <;> simp[mg] at hL
       ·simp only [aH.gives] at hd'; subst hd';simp only[jI,pR,kK,jQ] at hL;subst hL;exact .inr (by simp[aH.fp])
       ·have e1 := hob (L, true) (by simp [aH.fp]);have e2:=hob (dst,true) (by simp[aH.fp]);simp only at e1 e2;simp only[act,aLd,hop,hag,hn,he x hm,hx,e1,e2,hL,hss,hdst,hfresh]
      ·subst hA;exact hs.elim
     ·subst hA;exact hs.elim
    ·subst hA;exact hs.elim
   ·subst hA;exact hs.elim
  ·subst hA;exact hs.elim
 ·subst hA;exact hs.elim

theorem zxA:∀ (l' l:List Cl) (off:Nat),∀ L∈(spl l off l').flatMap kK,L∈l.flatMap kK\/L∈l'.flatMap kK:=by
 intro l'
 induction l' with
 | nil=>intro l off L hL;exact .inl hL
 | cons c l' ih =>
  intro l off L hL;simp only[spl] at hL;rcases ih _ _ L hL with h | h
  ·obtain ⟨c', hc', hL'⟩ := jA.1 h;rcases List.mem_or_eq_of_mem_set hc' with h2 | h2
   ·exact .inl (jA.2 ⟨c',h2,hL'⟩)
   ·subst h2;exact .inr (jA.2 ⟨c',jS,hL'⟩)
  ·exact .inr (by simp only[lT,dL];exact .inr h)

theorem zc5 {t:TypeId}{x y:Operand}(hop:o.op=.store t x y) (hA:act P Γ o ev ob=A) (hs:A.safe):bZ P Γ o ev ob A:=by
 have hx:x∈o.op.operands.toList:=by simp[hop,Op.operands]
 have hy:y∈o.op.operands.toList:=by simp[hop,Op.operands]
 simp only[act,aSt,hop] at hA;split at hA
 ·rename_i n L off d hn hex TL;split at hA
  ·rename_i ty cells hL;split at hA
   ·rename_i hb;subst hA;refine⟨λ z hz=>?_,.inl rfl,λ z hz M hM=>?_,λ d' hd' M hM=>?_,λ ev' ob' he hob=>?_⟩
    ·simp only[aH.u,jQ] at hz;subst hz;simp[aH.fp]
    ·simp only [aH.u, jQ] at hz; subst hz;simp only[mg] at hM;rcases zxA _ _ _ M hM with h | h
     ·exact .inr ⟨(L,true),by simp[aH.fp],_,hL,h⟩
     ·refine .inl ⟨y, hy, ?_⟩;rw[TL];simp only[jI];rw[<- ML];exact h
    ·simp only[aH.gives] at hd';subst hd';simp[jI,pR,kK] at hM
    ·have e := hob (L, true) (by simp [aH.fp]); simp only at e;simp only[act,aSt,hop,hn,he x hx,he y hy,hex,TL,e,hL,hb]
   ·subst hA;exact hs.elim
  ·subst hA;exact hs.elim
 ·rename_i n L s i k d hn hex TL;split at hA
  ·rename_i e s' b len get hL;split at hA
   ·rename_i l hl;split at hA
    ·rename_i hb;subst hA;refine⟨λ z hz=>?_,.inl rfl,λ z hz M hM=>?_,λ d' hd' M hM=>?_,λ ev' ob' he hob=>?_⟩
     ·simp only[aH.u,jQ] at hz;subst hz;simp[aH.fp]
     ·simp only[aH.u,jQ] at hz;subst hz;simp[mg] at hM
     ·simp only[aH.gives] at hd';subst hd';simp[jI,pR,kK] at hM
     ·have e := hob (L, true) (by simp [aH.fp]); simp only at e;simp only[act,aSt,hop,hn,he x hx,he y hy,hex,TL,e,hL,hl,hb]
    ·subst hA;exact hs.elim
   ·subst hA;exact hs.elim
  ·rename_i te bb e s' by' len ln get hL;split at hA
   ·rename_i M';split at hA
    ·rename_i e2 s2 b2 mm jD hM';split at hA
     ·rename_i hb;split at hA
      ·rename_i hq;subst hA;refine⟨λ z hz=>?_,.inl rfl,λ z hz M hM=>?_,λ d' hd' M hM=>?_,λ ev' ob' he hob=>?_⟩
       ·simp only [aH.u, jm, List.not_mem_nil, or_false] at hz;rcases hz with rfl | rfl <;> simp[aH.fp]
       ·simp only [aH.u, jm, List.not_mem_nil, or_false] at hz;rcases hz with rfl | rfl <;> simp[mg] at hM
       ·simp only[aH.gives] at hd';subst hd';simp[jI,pR,kK] at hM
       ·have e := hob (L, true) (by simp [aH.fp]); simp only at e;have e2:=hob (M',true) (by simp[aH.fp]);simp only at e2;simp only[act,aSt,hop,hn,he x hx,he y hy,hex,TL,e,hL,e2,hM',hb];rw[if_pos hq]
      ·subst hA;exact hs.elim
     ·subst hA;exact hs.elim
    ·subst hA;exact hs.elim
   ·subst hA;exact hs.elim
  ·subst hA;exact hs.elim
 ·subst hA;exact hs.elim

theorem Qw {x:Operand}(hop:o.op=.nilCheck x) (hA:act P Γ o ev ob=A) (hs:A.safe):bZ P Γ o ev ob A:=by
 have hx:x∈o.op.operands.toList:=by simp[hop,Op.operands]
 simp only[act,aNc,hop] at hA;split at hA
 ·rename_i L off h; subst hA;exact bZ.pure (nY hx λ L hL=>by rw[h];exact hL) λ ev' ob' he _=>by simp only[act,aNc,hop,he x hx,h]
 ·rename_i L off h; subst hA;exact bZ.pure (nY hx λ L hL=>by rw[h];exact hL) λ ev' ob' he _=>by simp only[act,aNc,hop,he x hx,h]
 ·rename_i L s i k h; subst hA;exact bZ.pure (nY hx λ L hL=>by rw[h];exact hL) λ ev' ob' he _=>by simp only[act,aNc,hop,he x hx,h]
 ·subst hA;exact hs.elim

theorem zc6 {op : BinOp} {k : IntKind} {p q : Int} (hs : (Ph op k p q).safe)
    (hc:∀ ev' ob',(∀ x∈o.op.operands.toList,ev' x=ev x)->act P Γ o ev' ob'=Ph op k p q):bZ P Γ o ev ob (Ph op k p q):=by
  cases op <;> first
    | exact hs.elim
    | exact bZ.pure (gI _) λ ev' ob' he _=>hc ev' ob' he
    | exact bZ.pchk (gI _) λ ev' ob' he _=>hc ev' ob' he

theorem zc7 {op:BinOp}{t t':TypeId}{x y:Operand}(hop:o.op=.binOp op t x y t') (hA:act P Γ o ev ob=A) (hs:A.safe):bZ P Γ o ev ob A:=by
 have hx:x∈o.op.operands.toList:=by simp[hop,Op.operands]
 have hy:y∈o.op.operands.toList:=by simp[hop,Op.operands]
 simp only[act,aBn,hop] at hA;split at hA
 ·rename_i k p k' q hex TL;split at hA
  ·rename_i hk;subst hA;exact zc6 hs λ ev' ob' he=>by simp only[act,aBn,hop,he x hx,he y hy,hex,TL,hk,if_true]
  ·rename_i hk;subst hA;have hc:∀ ev' ob',(∀ x∈o.op.operands.toList,ev' x=ev x)->act P Γ o ev' ob'=zci op k p q:=λ ev' ob' he=>by simp only[act,aBn,hop,he x hx,he y hy,hex,TL,hk,if_false]
   cases op <;> first
    | exact hs.elim
    | exact bZ.pchk (gI _) λ ev' ob' he _=>hc ev' ob' he
 ·rename_i p q hex TL;split at hA
  ·rename_i hu; subst hA;exact bZ.pure (gI _) λ ev' ob' he _=>by simp only[act,aBn,hop,he x hx,he y hy,hex,TL,hu]
  ·rename_i hu; subst hA;exact bZ.pure (gI _) λ ev' ob' he _=>by simp only[act,aBn,hop,he x hx,he y hy,hex,TL,hu]
  ·subst hA;exact hs.elim
 ·rename_i cs ds hex TL;have hc:∀ ev' ob',(∀ x∈o.op.operands.toList,ev' x=ev x)->act P Γ o ev' ob'=A:=λ ev' ob' he=>by
   simp only[act,aBn,hop,he x hx,he y hy,hex,TL];exact hA
  unfold WE at hA;split at hA
  ·split at hA
   ·subst hA;exact bZ.pure (gI _) λ ev' ob' he _=>hc ev' ob' he
   ·subst hA;exact bZ.pure (gI _) λ ev' ob' he _=>hc ev' ob' he
   ·subst hA;exact hs.elim
  ·subst hA;exact hs.elim
 ·subst hA;exact hs.elim

theorem zc8 {t:TypeId}{x y:Operand}(hop:o.op=.index t x y) (hA:act P Γ o ev ob=A) (hs:A.safe):bZ P Γ o ev ob A:=by
 have hx:x∈o.op.operands.toList:=by simp[hop,Op.operands]
 have hy:y∈o.op.operands.toList:=by simp[hop,Op.operands]
 have hc:∀ ev' ob',(∀ x∈o.op.operands.toList,ev' x=ev x)->act P Γ o ev' ob'=A:=λ ev' ob' he=>by
  rw[<- hA];simp only[act,hop,he x hx,he y hy]
 simp only[act,hop,EE] at hA;split at hA
 ·split at hA
  ·rename_i cs k j _ _ hex TL;split at hA
   ·rename_i d _ hr;subst hA;refine bZ.pure (nY hx λ L hL=>?_) λ ev' ob' he _=>hc ev' ob' he;rw[hex];exact MI hr L hL
   ·subst hA;exact hs.elim
  ·subst hA;exact hs.elim
 ·subst hA;exact hs.elim

theorem zc9 {t:TypeId}{x:Operand}{f:Nat}(hop:o.op=.field t x f) (hA:act P Γ o ev ob=A) (hs:A.safe):bZ P Γ o ev ob A:=by
 have hx:x∈o.op.operands.toList:=by simp[hop,Op.operands]
 have hc:∀ ev' ob',(∀ x∈o.op.operands.toList,ev' x=ev x)->act P Γ o ev' ob'=A:=λ ev' ob' he=>by
  rw[<- hA];simp only[act,hop,he x hx]
 simp only[act,hop,EF] at hA;split at hA
 ·split at hA
  ·split at hA
   ·rename_i hex;split at hA
    ·rename_i d hr;subst hA;refine bZ.pure (nY hx λ L hL=>?_) λ ev' ob' he _=>hc ev' ob' he;rw[hex];exact MI hr L hL
    ·subst hA;exact hs.elim
   ·subst hA;exact hs.elim
  ·subst hA;exact hs.elim
 ·subst hA;exact hs.elim

theorem ok_slice {t:TypeId}{x:Operand}{lo hi:Option Operand}(hop:o.op=.slice t x lo hi none) (hA:act P Γ o ev ob=A) (hs:A.safe):bZ P Γ o ev ob A:=by
 have hx:x∈o.op.operands.toList:=by simp[hop,Op.operands]
 have hlo:∀ y,lo=some y->y∈o.op.operands.toList:=λ y e=>by subst e;simp[hop,Op.operands]
 have hhi:∀ y,hi=some y->y∈o.op.operands.toList:=λ y e=>by subst e;simp[hop,Op.operands]
 have hc:∀ ev' ob',(∀ x∈o.op.operands.toList,ev' x=ev x)->act P Γ o ev' ob'=A:=λ ev' ob' he=>by
  have e1:Au ev' lo=Au ev lo:=by
   cases lo with
   | none=>rfl
   | some y=>simp only[Au,he y (hlo y rfl)]
  have e2:Au ev' hi=Au ev hi:=by
   cases hi with
   | none=>rfl
   | some y=>simp only[Au,he y (hhi y rfl)]
  rw[<- hA];simp only[act,hop,he x hx,e1,e2]
 simp only[act,hop,yH] at hA;split at hA
 ·split at hA
  ·split at hA
   ·subst hA;exact bZ.pchk (λ L hL=>by simp[jI,pR,kK] at hL) λ ev' ob' he _=>hc ev' ob' he
   ·subst hA;exact hs.elim
  ·subst hA;exact hs.elim
 ·subst hA;exact hs.elim

theorem zh7 {d:D1} : ∀ L,L∈pR d->L∈cZ d:=by
 intro L hL;cases d with
 | c y=>exact MH L hL
 | agg cs =>
  obtain⟨c,hc,hL⟩:=jA.1 hL;exact jA.2 ⟨c,hc,MH L hL⟩

theorem Zo {q:MQ}{kd:DV}{ok:Bool}{F:List Int->Option (List Int)}{fin:DV->aH}(hA:found q kd ok F fin=A) (hs:A.safe):∃ d,(∀ M∈jI d,False)/\fin d=A:=by
 unfold found at hA;split at hA
 ·split at hA
  ·rename_i d hdv;have hV:∀ M,M∈pR d->False:=λ M hM=>by have:=zh7 M hM;rw[P7 hdv] at this;simp at this
   cases ok with
   | true =>
    refine⟨_,λ M hM=>?_,hA⟩;simp only[jI,lT,List.flatMap_nil,List.append_nil,dL] at hM;rcases hM with hM | hM
    ·exact hV M hM
    ·simp[pR,kK] at hM
   | false=>exact⟨.one d,λ M hM=>hV M hM,hA⟩
  ·subst hA;exact hs.elim
 ·subst hA;exact hs.elim

theorem Zp {t:TypeId}{x y:Operand}{k:Bool}(hop:o.op=.lookup t x y k) (hA:act P Γ o ev ob=A) (hs:A.safe):bZ P Γ o ev ob A:=by
 have hx:x∈o.op.operands.toList:=by simp[hop,Op.operands]
 have hy:y∈o.op.operands.toList:=by simp[hop,Op.operands]
 have hc1:∀ ev' ob',(∀ x∈o.op.operands.toList,ev' x=ev x)->act P Γ o ev' ob'=EI P t (ev x) (ev y) k ob':=λ ev' ob' he=>by simp only[act,hop,he x hx,he y hy]
 rw[hc1 ev ob (λ _ _=>rfl)] at hA;unfold EI at hA hc1;split at hA
 ·rename_i kt vt L hu hex;split at hA
  ·rename_i q kt' vt' q' n F hE hL;split at hA
   ·rename_i hcond;obtain⟨d,hd,e⟩:=Zo hA hs;subst e;refine bZ.pure (λ M hM=>(hd M hM).elim) λ ev' ob' he hob=>?_;rw[hc1 ev' ob' he];have:=hob (L,false) (by simp);simp only at this;simp only[hu,hex,this,hL,hE,if_pos hcond];exact hA
   ·subst hA;exact hs.elim
  ·subst hA;exact hs.elim
 ·subst hA;exact hs.elim

theorem MM {t:TypeId}{x y z:Operand}(hop:o.op=.mapUpdate t x y z) (hA:act P Γ o ev ob=A) (hs:A.safe):bZ P Γ o ev ob A:=by
 have hx:x∈o.op.operands.toList:=by simp[hop,Op.operands]
 have hy:y∈o.op.operands.toList:=by simp[hop,Op.operands]
 have hz:z∈o.op.operands.toList:=by simp[hop,Op.operands]
 have hc1:∀ ev' ob',(∀ x∈o.op.operands.toList,ev' x=ev x)->act P Γ o ev' ob'=Pi P t (ev x) (ev y) (ev z) ob':=λ ev' ob' he=>by simp only[act,hop,he x hx,he y hy,he z hz]
 rw[hc1 ev ob (λ _ _=>rfl)] at hA;unfold Pi at hA hc1;split at hA
 ·rename_i kt vt L hu hex;split at hA
  ·rename_i q kt' vt' q' n F hE hL;split at hA
   ·rename_i c dv hck hez;split at hA
    ·rename_i l hl;split at hA
     ·rename_i hcond;have hcc:∀ ev' ob',(∀ x∈o.op.operands.toList,ev' x=ev x)->(∀ y∈[(L,true)],ob' y.1=ob y.1)->act P Γ o ev' ob'=A:=λ ev' ob' he hob=>by
       rw[hc1 ev' ob' he];have:=hob (L,true) (by simp);simp only at this;simp only[hu,hex,this,hL,hE,hck,hez,hl,if_pos hcond];exact hA
      subst hA;refine⟨λ x hx=>?_,.inl rfl,λ x hx M hM=>?_,λ d' hd' M hM=>?_,λ ev' ob' he hob=>hcc ev' ob' he hob⟩
      ·simp only[aH.u,jQ] at hx;subst hx;simp[aH.fp]
      ·simp only[aH.u,jQ] at hx;subst hx;simp[mg] at hM
      ·simp only[aH.gives] at hd';subst hd';simp[jI,pR,kK] at hM
     ·subst hA;exact hs.elim
    ·subst hA;exact hs.elim
   ·subst hA;exact hs.elim
  ·subst hA;exact hs.elim
 ·subst hA;exact hs.elim

theorem Uz {t:TypeId}(hop:o.op=.makeMap t none) (hA:act P Γ o ev ob=A) (hs:A.safe):bZ P Γ o ev ob A:=by
 cases hv:zox Γ o.dst with
 | true =>
  simp only[act,aMm,hop,hv] at hA;split at hA
  ·rename_i kt vt hu;split at hA
   ·rename_i q hE;exact MJ (ao:=.mo kt vt q 0 (λ _=>none)) (d:=λ t=>.cl (.mo t)) (λ L hL=>by simp[mg] at hL) (λ t L hL=>by simpa [jI,pR,kK] using hL) (λ ev' ob' _=>by simp only[act,aMm,hop,hv,hu,hE]) hA hs
   ·subst hA;exact hs.elim
  ·subst hA;exact hs.elim
 | false =>
  simp only[act,aMm,hop,hv] at hA;subst hA;exact hs.elim

theorem zh8 {op:UnOp}{t:TypeId}{x:Operand}(hop:o.op=.unOp op t x) (hA:act P Γ o ev ob=A) (hs:A.safe):bZ P Γ o ev ob A:=by
 have hx:x∈o.op.operands.toList:=by simp[hop,Op.operands]
 simp only[act,aUn,hop] at hA;split at hA
 ·rename_i h; subst hA;exact bZ.pure (gI _) λ ev' ob' he _=>by simp only[act,aUn,hop,he x hx,h]
 ·rename_i h; subst hA;exact bZ.pure (gI _) λ ev' ob' he _=>by simp only[act,aUn,hop,he x hx,h]
 ·subst hA;exact hs.elim

theorem UA {t1 t2:TypeId}{x:Operand}(hop:o.op=.convert t1 t2 x) (hA:act P Γ o ev ob=A) (hs:A.safe):bZ P Γ o ev ob A:=by
 have hx:x∈o.op.operands.toList:=by simp[hop,Op.operands]
 simp only[act,aCv,hop] at hA;split at hA
 ·rename_i h1 h2 h; subst hA;exact bZ.pure (gI _) λ ev' ob' he _=>by simp only[act,aCv,hop,he x hx,h,h1,h2]
 ·subst hA;exact hs.elim

theorem MN {t:TypeId}{x:Operand}{f:Nat}(hop:o.op=.fieldAddr t x f) (hA:act P Γ o ev ob=A) (hs:A.safe):bZ P Γ o ev ob A:=by
 have hx:x∈o.op.operands.toList:=by simp[hop,Op.operands]
 simp only[act,aFa,hop] at hA;split at hA
 ·rename_i off hf;split at hA
  ·rename_i h; subst hA;exact bZ.pure (nY hx λ L hL=>by rw[h];exact hL) λ ev' ob' he _=>by simp only[act,aFa,hop,he x hx,h,hf]
  ·rename_i h; subst hA;exact bZ.pure (nY hx λ L hL=>by rw[h];exact hL) λ ev' ob' he _=>by simp only[act,aFa,hop,he x hx,h,hf]
  ·rename_i h; subst hA;exact bZ.pure (nY hx λ L hL=>by rw[h];exact hL) λ ev' ob' he _=>by simp only[act,aFa,hop,he x hx,h,hf]
  ·subst hA;exact hs.elim
 ·subst hA;exact hs.elim

theorem MO {t:TypeId}{x y:Operand}(hop:o.op=.indexAddr t x y) (hA:act P Γ o ev ob=A) (hs:A.safe):bZ P Γ o ev ob A:=by
 have hx:x∈o.op.operands.toList:=by simp[hop,Op.operands]
 have hy:y∈o.op.operands.toList:=by simp[hop,Op.operands]
 simp only[act,aIa,hop] at hA;split at hA
 ·rename_i e hu;split at hA
  ·rename_i n k j hn hj;split at hA
   ·rename_i len s get hex;split at hA
    ·rename_i hs'; subst hA;exact bZ.pchk (gI _) λ ev' ob' he _=>by simp only[act,aIa,hop,he x hx,he y hy,hex,hu,hn,hj,hs',if_true]
    ·subst hA;exact hs.elim
   ·rename_i L hex;split at hA
    ·rename_i e' s b len get hL;split at hA
     ·rename_i hs'; subst hA;refine bZ.pchk (λ M hM=>.inl (.inl ⟨x,hx,?_⟩)) λ ev' ob' he hob=>?_
      ·rw[hex];exact hM
      have e:=hob (L,false) (by simp);simp only at e;simp only[act,aIa,hop,he x hx,he y hy,hex,hu,hn,hj,e,hL,hs',if_true]
     ·subst hA;exact hs.elim
    ·rename_i s len get hL;split at hA
     ·rename_i hs'; subst hA;refine bZ.pchk (gI _) λ ev' ob' he hob=>?_;have e:=hob (L,false) (by simp);simp only at e;simp only[act,aIa,hop,he x hx,he y hy,hex,hu,hn,hj,e,hL,hs',if_true]
     ·subst hA;exact hs.elim
    ·rename_i hL;split at hA
     ·rename_i hs'; subst hA;refine bZ.pchk (λ M hM=>.inl (.inl ⟨x,hx,?_⟩)) λ ev' ob' he hob=>?_
      ·rw[hex];exact hM
      have e:=hob (L,false) (by simp);simp only at e;simp only[act,aIa,hop,he x hx,he y hy,hex,hu,hn,hj,e,hL,hs',if_true]
     ·subst hA;exact hs.elim
    ·rename_i hL;split at hA
     ·rename_i hs'; subst hA;refine bZ.pchk (λ M hM=>.inl (.inl ⟨x,hx,?_⟩)) λ ev' ob' he hob=>?_
      ·rw[hex];exact hM
      have e:=hob (L,false) (by simp);simp only at e;simp only[act,aIa,hop,he x hx,he y hy,hex,hu,hn,hj,e,hL,hs',if_true]
     ·subst hA;exact hs.elim
    ·subst hA;exact hs.elim
   ·subst hA;exact hs.elim
  ·subst hA;exact hs.elim
 ·rename_i m e hu;have hc:∀ ev' ob',(∀ x∈o.op.operands.toList,ev' x=ev x)->act P Γ o ev' ob'=A:=λ ev' ob' he=>by
   simp only[act,aIa,hop,hu,he x hx,he y hy];exact hA
  unfold yF at hA;split at hA
  ·split at hA
   ·split at hA
    ·rename_i h;subst hA;exact bZ.pure (nY hx λ L hL=>by simp[jI,pR,kK] at hL) λ ev' ob' he _=>hc ev' ob' he
    ·rename_i h;subst hA;exact bZ.pure (gI _) λ ev' ob' he _=>hc ev' ob' he
    ·subst hA;exact hs.elim
   ·subst hA;exact hs.elim
  ·subst hA;exact hs.elim
 ·subst hA;exact hs.elim

theorem UB {x:Operand}{k:Nat}(hop:o.op=.extract x k) (hA:act P Γ o ev ob=A) (hs:A.safe):bZ P Γ o ev ob A:=by
 have hx:x∈o.op.operands.toList:=by simp[hop,Op.operands]
 simp only[act,aEx,hop] at hA;split at hA
 ·rename_i ds h;split at hA
  ·rename_i d hd; subst hA;refine bZ.pure (nY hx λ L hL=>?_) λ ev' ob' he _=>by simp only[act,aEx,hop,he x hx,h,hd]
   rw[h];exact jA.2 ⟨d,Ez hd,hL⟩
  ·subst hA;exact hs.elim
 ·subst hA;exact hs.elim

theorem vg {c:Callee}{args:Array Operand}{ts:Array TypeId}(hop:o.op=.call { callee:=c,args,argTypes:=ts }):∀ x∈args.toList,x∈o.op.operands.toList:=by
 intro x hx;simp only[hop,Op.operands];cases c <;> simp[Call.operands] <;> simp at hx <;> first | exact hx | exact .inr hx

theorem zmJ {b:Builtin}{args:Array Operand}{ts:Array TypeId}(hb:b=.max\/b=.min) (hop:o.op=.call { callee:=.builtin b,args,argTypes:=ts }) (hA:act P Γ o ev ob=A) (hs:A.safe):bZ P Γ o ev ob A:=by
 have hm:=vg hop;have hmap:∀ ev':Operand->DV,(∀ x∈o.op.operands.toList,ev' x=ev x)->args.toList.map ev'=args.toList.map ev:=λ ev' he=>List.map_congr_left λ x hx=>he x (hm x hx);rcases hb with rfl | rfl <;> simp only[act,aMx,aMi,hop] at hA <;> split at hA
 ·rename_i h;subst hA;exact bZ.pure (gI _) λ ev' ob' he _=>by simp only[act,aMx,aMi,hop,hmap ev' he,h]
 ·subst hA;exact hs.elim
 ·rename_i h;subst hA;exact bZ.pure (gI _) λ ev' ob' he _=>by simp only[act,aMx,aMi,hop,hmap ev' he,h]
 ·subst hA;exact hs.elim

theorem zo2 {args:Array Operand}{ts:Array TypeId}(hop:o.op=.call { callee:=.builtin .len,args,argTypes:=ts }) (hA:act P Γ o ev ob=A) (hs:A.safe):bZ P Γ o ev ob A:=by
 have hm:=vg hop;simp only[act,aLn,hop] at hA;split at hA
 ·rename_i x t hargs ht;have hx:x∈o.op.operands.toList:=hm x (by rw[hargs];simp);split at hA
  ·rename_i e hu;split at hA
   ·rename_i h;subst hA;exact bZ.pure (gI _) λ ev' ob' he _=>by simp only[act,aLn,hop,hargs,ht,hu,he x hx,h]
   ·rename_i h;subst hA;exact bZ.pure (gI _) λ ev' ob' he _=>by simp only[act,aLn,hop,hargs,ht,hu,he x hx,h]
   ·rename_i L h;split at hA
    ·rename_i hL; subst hA;refine bZ.pure (gI _) λ ev' ob' he hob=>?_;have e:=hob (L,false) (by simp);simp only at e;simp only[act,aLn,hop,hargs,ht,hu,he x hx,h,e,hL]
    ·rename_i hL; subst hA;refine bZ.pure (gI _) λ ev' ob' he hob=>?_;have e:=hob (L,false) (by simp);simp only at e;simp only[act,aLn,hop,hargs,ht,hu,he x hx,h,e,hL]
    ·rename_i hL; subst hA;refine bZ.pure (gI _) λ ev' ob' he hob=>?_;have e:=hob (L,false) (by simp);simp only at e;simp only[act,aLn,hop,hargs,ht,hu,he x hx,h,e,hL]
    ·subst hA;exact hs.elim
   ·subst hA;exact hs.elim
  ·rename_i kt vt hu;split at hA
   ·rename_i L h;split at hA
    ·rename_i hL; subst hA;refine bZ.pure (gI _) λ ev' ob' he hob=>?_;have e:=hob (L,false) (by simp);simp only at e;simp only[act,aLn,hop,hargs,ht,hu,he x hx,h,e,hL]
    ·subst hA;exact hs.elim
   ·subst hA;exact hs.elim
  ·subst hA;exact hs.elim
 ·subst hA;exact hs.elim

theorem MP {d : DV} {ob' : Nat → Option AO} {m sz : Nat} {new : Nat → List PV} {YW : List (Nat × Bool)} (h : Az d ob = some (m, sz, new, YW)) (hob : ∀ y ∈ YW, ob' y.1 = ob y.1) :
  Az d ob'=some (m,sz,new,YW):=by
 unfold Az at h ⊢;split at h
 ·exact h
 ·rename_i M;split at h
  ·rename_i hM;have h':=h;simp only[bP,eQ] at h;have e:=hob (M,false) (by rw[<- h.2.2.2];simp);simp only at e;rw[e,hM];exact h'
  ·rename_i hM;have h':=h;simp only[bP,eQ] at h;have e:=hob (M,false) (by rw[<- h.2.2.2];simp);simp only at e;rw[e,hM];exact h'
  ·cases h
 ·cases h

theorem Zq {args:Array Operand}{ts:Array TypeId}(hop:o.op=.call { callee:=.builtin .append,args,argTypes:=ts }) (hA:act P Γ o ev ob=A) (hs:A.safe):bZ P Γ o ev ob A:=by
 have hm:=vg hop;have hA0:=hA;simp only[act,aAp,hop] at hA;split at hA
 ·rename_i s x t t' hargs ht;have hsm:s∈o.op.operands.toList:=hm s (by rw[hargs];simp);have hx:x∈o.op.operands.toList:=hm x (by rw[hargs];simp);split at hA
  ·rename_i e dst hu htt hd;split at hA
   ·rename_i ie z hie hz;have hcut:∀ (ev':Operand->DV) (ob':Nat->Option AO),act P Γ o ev' ob'=LM e ie dst (ev' x) (ev' s) ob':=λ ev' ob'=>by
     simp only[act,aAp,hop,hargs,ht,hu,htt,hd,hie,hz]
    unfold LM at hA hcut;split at hA
    ·rename_i m sz new YW hsrc
     -- the source looks only at what YW names
     have src':∀ (ev':Operand->DV) (ob':Nat->Option AO),(∀ x∈o.op.operands.toList,ev' x=ev x)->(∀ y∈YW,ob' y.1=ob y.1) ->
       Az (ev' x) ob'=some (m,sz,new,YW):=by
      intro ev' ob' he hob;rw[he x hx];exact MP hsrc hob
     split at hA
     ·rename_i L hes;split at hA
      ·rename_i e' s' b' n' get' hL;split at hA
       ·rename_i hif;subst hA;refine⟨λ z hz=>?_,.inr ⟨L,rfl,by simp[aH.fp]⟩,λ z hz M hM=>?_,λ d' hd' M hM=>?_,λ ev' ob' he hob=>?_⟩
        ·simp only[aH.u,jQ] at hz;subst hz;simp[aH.fp]
        ·simp only[aH.u,jQ] at hz;subst hz;simp[mg] at hM
        ·simp only [aH.gives] at hd'; subst hd';simp only[jI,pR,kK,jQ] at hM;subst hM;exact .inr (by simp[aH.fp])
        ·have e1 := src' ev' ob' he (fun y hy => hob y (jc _ hy));have e2:=hob (L,true) (by simp[aH.fp]);simp only at e2;rw[hcut,e1];simp only[he s hsm,he x hx,hes,e2,hL];rw[if_pos hif]
       ·subst hA;exact hs.elim
      ·subst hA;exact hs.elim
     ·rename_i hes;split at hA
      ·rename_i hn;split at hA
       ·rename_i hif;subst hA;refine⟨λ z hz=>?_,.inl rfl,λ z hz M hM=>?_,λ d' hd' M hM=>?_,λ ev' ob' he hob=>?_⟩
        ·simp only[aH.u,jQ] at hz;subst hz;simp[aH.fp]
        ·simp only[aH.u,jQ] at hz;subst hz;simp[mg] at hM
        ·simp only [aH.gives] at hd'; subst hd';simp only[jI,pR,kK,jQ] at hM;subst hM;exact .inr (by simp[aH.fp])
        ·have e1 := src' ev' ob' he (fun y hy => hob y (jc _ hy));have e2:=hob (dst,true) (by simp[aH.fp]);simp only at e2;rw[hcut,e1];simp only[he s hsm,hes,e2,hn];rw[if_pos hif]
       ·subst hA;exact hs.elim
      ·subst hA;exact hs.elim
     ·subst hA;exact hs.elim
    ·subst hA;exact hs.elim
   ·subst hA;exact hs.elim
  ·subst hA;exact hs.elim
 ·subst hA;exact hs.elim

theorem zmK (x:PA):pR (DX x)=[]:=by
 cases x with
 | one p=>rfl
 | agg cs=>exact Qu cs
theorem UC (rs:List PA):jI (resD rs)=[]:=by
 have tup:∀ l:List PA,jI (.tup (l.map DX))=[]:=by
  intro l
  induction l with
  | nil=>rfl
  | cons x l ih=>simp only[nR,jI,lT,zmK,List.nil_append] at ih ⊢;exact ih
 match rs with
 | []=>exact tup _
 | [x]=>exact zmK x
 | x :: y :: l=>exact tup _

theorem zo3 {k : Ar} {args : Array Operand} {c : Callee} {ts : Array TypeId} (hop : o.op = .call { callee := c, args, argTypes := ts })
    (hc:∀ ev' ob',(∀ x∈o.op.operands.toList,ev' x=ev x)->act P Γ o ev' ob'=ja P Γ o k (args.toList.map ev') ob') (hA:ja P Γ o k (args.toList.map ev) ob=A) (hs:A.safe):bZ P Γ o ev ob A:=by
  have hm:=vg hop;have hmap:∀ ev':Operand->DV,(∀ x∈o.op.operands.toList,ev' x=ev x)->args.toList.map ev'=args.toList.map ev:=λ ev' he=>List.map_congr_left λ x hx=>he x (hm x hx);unfold ja at hA;split at hA
  · subst hA;exact hs.elim
  · split at hA
    · rename_i L hf caps hargs;split at hA
      · rename_i hL hag;split at hA
        · rename_i hif;subst hA;refine⟨λ z hz=>?_,.inl rfl,λ z hz M hM=>?_,λ d' hd' M hM=>?_,λ ev' ob' he hob=>?_⟩
          · simp only[aH.u,jQ] at hz;subst hz;simp[aH.fp]
          · simp only[aH.u,jQ] at hz;subst hz;simp[mg] at hM
          · simp only[aH.gives] at hd';subst hd';simp[jI] at hM
          · have e2 := hob (L, true) (by simp [aH.fp]); simp only at e2;rw[hc ev' ob' he,hmap ev' he];simp only[ja,hargs,e2,hL,hag];rw[if_pos hif]
        · subst hA;exact hs.elim
      · subst hA;exact hs.elim
    · subst hA;exact hs.elim
  · split at hA
    · rename_i dst hargs hd;split at hA
      · rename_i hn hi hz;split at hA
        · rename_i hif;subst hA;refine⟨λ z hz=>?_,.inl rfl,λ z hz M hM=>?_,λ d' hd' M hM=>?_,λ ev' ob' he hob=>?_⟩
          · simp only[aH.u,jQ] at hz;subst hz;simp[aH.fp]
          · simp only[aH.u,jQ] at hz;subst hz;simp[mg] at hM
          · simp only [aH.gives] at hd'; subst hd';simp only[jI,pR,kK,jQ] at hM;subst hM;exact .inr (by simp[aH.fp])
          · have e2 := hob (dst, true) (by simp [aH.fp]); simp only at e2;rw[hc ev' ob' he,hmap ev' he];simp only[ja,hargs,hd,e2,hn,hi,hz];rw[if_pos hif]
        · subst hA;exact hs.elim
      · subst hA;exact hs.elim
    · subst hA;exact hs.elim
  · split at hA
    · rename_i az u dst has hd;split at hA
      · rename_i n get rs ie z hF hfresh hi hz;split at hA
        · rename_i hif;subst hA;refine⟨λ z hz=>?_,.inl rfl,λ z hz M hM=>?_,λ d' hd' M hM=>?_,λ ev' ob' he hob=>?_⟩
          · simp only[aH.u,jQ] at hz;subst hz;simp[aH.fp]
          · simp only[aH.u,jQ] at hz;subst hz;simp[mg] at hM
          · simp only [aH.gives] at hd'; subst hd';cases rs with
            | nil =>
              simp only[jI,pR,kK,jQ] at hM;subst hM;exact .inr (by simp[aH.fp])
            | cons x l =>
              have hM2:M=dst:=by
                simp only[jI,lT,dL,pR,kK,jQ,jA,uF] at hM;rcases hM with hM | ⟨d1,⟨v,_,rfl⟩,hM⟩
                · exact hM
                · simp[pR,kK] at hM
              subst hM2;exact .inr (by simp[aH.fp])
          · have hl : ∀ L ∈ (args.toList.map ev).flatMap (bH ob), ob' L = ob L := fun L hL => hob (L, false) (jc _ (uF.2 ⟨L, hL, rfl⟩));have e2:=hob (dst,true) (by simp[aH.fp]);simp only at e2;have e3:gm ob' (args.toList.map ev)=some (az,u):=(jL hl).trans has;have e4:(args.toList.map ev).flatMap (bH ob')=(args.toList.map ev).flatMap (bH ob):=Xl λ d hd=>iw λ L hL=>hl L (jA.2 ⟨d,hd,hL⟩);rw[hc ev' ob' he,hmap ev' he];simp only[ja,hd,e2,hF,hfresh,hi,hz,e3,e4];rw[if_pos hif]
        · subst hA;exact hs.elim
      · subst hA;exact hs.elim
    · subst hA;exact hs.elim
  · split at hA
    · rename_i ds L hlast;split at hA
      · rename_i az e' s' b' n get has hL;split at hA
        · rename_i m get' hF;split at hA
          · rename_i hif;subst hA;refine⟨λ z hz=>?_,.inr ⟨L,rfl,by simp[aH.fp]⟩,λ z hz M hM=>?_,λ d' hd' M hM=>?_,λ ev' ob' he hob=>?_⟩
            · simp only[aH.u,jQ] at hz;subst hz;simp[aH.fp]
            · simp only[aH.u,jQ] at hz;subst hz;simp[mg] at hM
            · simp only [aH.gives] at hd'; subst hd';simp only[jI,pR,kK,jQ] at hM;subst hM;exact .inr (by simp[aH.fp])
            · have hl : ∀ M ∈ ds.flatMap (bH ob), ob' M = ob M := fun M hM => hob (M, false) (jc _ (uF.2 ⟨M, hM, rfl⟩));have e2:=hob (L,true) (by simp[aH.fp]);simp only at e2;have e3:gm ob' ds=some (az,[]):=(jL hl).trans has;have e4:ds.flatMap (bH ob')=ds.flatMap (bH ob):=Xl λ d hd=>iw λ L hL=>hl L (jA.2 ⟨d,hd,hL⟩);rw[hc ev' ob' he,hmap ev' he];simp only[ja,hlast,e3,e2,hL,hF,e4];rw[if_pos hif]
          · subst hA;exact hs.elim
        · subst hA;exact hs.elim
      · subst hA;exact hs.elim
    · rename_i ds hlast;split at hA
      · rename_i az dst has hd;split at hA
        · rename_i ie z hfresh hi hz;split at hA
          · rename_i l hzl;split at hA
            · rename_i m get' hF;split at hA
              · rename_i hif;subst hA;refine⟨λ z hz=>?_,.inl rfl,λ z hz M hM=>?_,λ d' hd' M hM=>?_,λ ev' ob' he hob=>?_⟩
                · simp only[aH.u,jQ] at hz;subst hz;simp[aH.fp]
                · simp only[aH.u,jQ] at hz;subst hz;simp[mg] at hM
                · simp only [aH.gives] at hd'; subst hd';simp only[jI,pR,kK,jQ] at hM;subst hM;exact .inr (by simp[aH.fp])
                · have hl : ∀ M ∈ ds.flatMap (bH ob), ob' M = ob M := fun M hM => hob (M, false) (jc _ (uF.2 ⟨M, hM, rfl⟩));have e2:=hob (dst,true) (by simp[aH.fp]);simp only at e2;have e3:gm ob' ds=some (az,[]):=(jL hl).trans has;have e4:ds.flatMap (bH ob')=ds.flatMap (bH ob):=Xl λ d hd=>iw λ L hL=>hl L (jA.2 ⟨d,hd,hL⟩);rw[hc ev' ob' he,hmap ev' he];simp only[ja,hlast,e3,hd,e2,hfresh,hi,hz,hzl,hF,e4];rw[if_pos hif]
              · subst hA;exact hs.elim
            · subst hA;exact hs.elim
          · subst hA;exact hs.elim
        · subst hA;exact hs.elim
      · subst hA;exact hs.elim
    · subst hA;exact hs.elim

theorem zh {sf:jC}{ob:Nat->Option AO} : ∀ {cells l:List Cl}{ys cs:List XC}{u:List (Nat×AO)}{ms:List Nat},fM cells ys=some (l,u)->gz sf ob cells=some (cs,ms) ->
  u.map (·.1)=ms/\(∀ x∈u,mg x.2=[])/\∀ L∈l.flatMap kK,L∈cells.flatMap kK
 | [],l,[],cs,u,ms,h,h2=>by
  simp only[fM,bP,eQ] at h;obtain⟨rfl,rfl⟩:=h;simp only[gz,bP,eQ] at h2;rw[<- h2.2];exact⟨rfl,λ x hx=>by simp at hx,λ L hL=>hL⟩
 | [],l,_ :: _,cs,u,ms,h,h2=>by simp[fM] at h
 | c :: cells,l,[],cs,u,ms,h,h2=>by simp[fM] at h
 | c :: cells,l,y :: ys,cs,u,ms,h,h2=>by
  unfold fM at h;split at h
  ·rename_i e;simp at e
  ·rename_i e1 e2;simp only[Cf] at e1 e2;obtain⟨rfl,rfl⟩:=e1;obtain⟨rfl,rfl⟩:=e2;split at h
   ·rename_i hp;simp only[bP,eQ] at h;obtain⟨rfl,rfl⟩:=h;simp only[gz] at h2;split at h2
    ·rename_i hc;simp only[bP,eQ] at h2;rw[<- h2.2];obtain⟨i1,i2,i3⟩:=zh hp hc;exact⟨i1,i2,λ L hL=>by simp only[lT,kK,List.nil_append] at hL ⊢;exact i3 L hL⟩
    ·cases h2
   ·cases h
  ·rename_i e1 e2;simp only[Cf] at e1 e2;obtain⟨rfl,rfl⟩:=e1;obtain⟨rfl,rfl⟩:=e2;split at h
   ·rename_i hp;simp only[bP,eQ] at h;obtain⟨rfl,rfl⟩:=h;simp only[gz] at h2;split at h2
    ·rename_i hc;split at h2
     ·simp only [bP, eQ] at h2; rw [← h2.2];obtain⟨i1,i2,i3⟩:=zh hp hc;refine⟨by simp[i1],λ x hx=>?_,λ L hL=>?_⟩
      ·rcases jm.1 hx with e | hx
       ·subst e;rfl
       ·exact i2 x hx
      ·simp only [lT, dL] at hL ⊢;exact hL.imp_right (i3 L)
     ·cases h2
    ·cases h2
   ·cases h
  ·rename_i e1 e2;simp only[Cf] at e1 e2;obtain⟨rfl,rfl⟩:=e1;obtain⟨rfl,rfl⟩:=e2;split at h
   ·rename_i hp;simp only[bP,eQ] at h;obtain⟨rfl,rfl⟩:=h;simp only[gz] at h2;split at h2
    ·rename_i hc;split at h2
     ·simp only [bP, eQ] at h2; rw [← h2.2];obtain⟨i1,i2,i3⟩:=zh hp hc;refine⟨by simp[i1],λ x hx=>?_,λ L hL=>?_⟩
      ·rcases jm.1 hx with e | hx
       ·subst e;rfl
       ·exact i2 x hx
      ·simp only [lT, dL] at hL ⊢;exact hL.imp_right (i3 L)
     ·cases h2
    ·cases h2
   ·cases h
  ·rename_i e1 e2;simp only[Cf] at e1 e2;obtain⟨rfl,rfl⟩:=e1;obtain⟨rfl,rfl⟩:=e2;split at h
   ·rename_i hp;simp only[bP,eQ] at h;obtain⟨rfl,rfl⟩:=h;simp only[gz] at h2;split at h2
    ·rename_i hc;split at h2
     ·simp only [bP, eQ] at h2; rw [← h2.2];obtain⟨i1,i2,i3⟩:=zh hp hc;exact⟨i1,i2,λ L hL=>by simp only[lT,dL] at hL ⊢;exact hL.imp_right (i3 L)⟩
     ·cases h2
    ·cases h2
   ·cases h
  ·cases h
theorem zo4 {sf : jC} {ob : Nat → Option AO} {d : DV} {x y : XA} {u : List (Nat × AO)} {ls ms : List Nat} (h : DI ob d y = some u) (h2 : wQ sf ob d = some (x, ls, ms)) :
  u.map (·.1)=ls/\∀ x∈u,∀ L∈mg x.2,∃ o',ob x.1=some o'/\L∈mg o':=by
 have data:o5 ob d=some (x,ls,ms)->ls=[]:=by
  intro h;unfold o5 at h;split at h
  ·simp only[bP,eQ] at h;exact h.2.1.symm
  ·cases h
 unfold DI at h;split at h
 ·rename_i L;split at h
  ·rename_i ty' cells hL;rw[lY,hL] at h2;dsimp only at h2;split at h2
   ·rename_i cs ms' hc;simp only[bP,eQ] at h2;obtain⟨rfl,rfl,rfl⟩:=h2;split at h
    ·split at h
     ·rename_i l u' hty hp;simp only[bP] at h;subst h;obtain⟨i1,i2,i3⟩:=zh hp hc;refine⟨by simp[i1],λ x hx K hK=>?_⟩;rcases jm.1 hx with e | hx
      ·subst e;exact⟨_,hL,i3 K hK⟩
      ·rw[i2 x hx] at hK;simp at hK
     ·cases h
    ·cases h
   ·cases h2
  ·rename_i hno;have hx:o5 ob (.one (.c (.ptr L 0)))=some (x,ls,ms):=by
    rw[lY] at h2;cases hL:ob L with
    | none=>rw[hL] at h2;exact h2
    | some o =>
     rw[hL] at h2;cases o with
     | box ty cells=>exact absurd hL (hno _ _)
     | _=>exact h2
   rw[data hx];split at h
   ·simp only[bP] at h;subst h;exact⟨rfl,λ x hx=>by simp at hx⟩
   ·cases h
 ·rename_i hno;have hx:o5 ob d=some (x,ls,ms):=by
   unfold wQ at h2;split at h2
   ·exact (hno _ rfl).elim
   ·exact h2
  rw[data hx];split at h
  ·simp only[bP] at h;subst h;exact⟨rfl,λ x hx=>by simp at hx⟩
  ·cases h
theorem Xo {sf:jC}{ob:Nat->Option AO} : ∀ {ds:List DV}{xs ys:List XA}{u:List (Nat×AO)}{ls ms:List Nat},iO ob ds ys=some u->jo sf ob ds=some (xs,ls,ms) ->
  u.map (·.1)=ls/\∀ x∈u,∀ L∈mg x.2,∃ o',ob x.1=some o'/\L∈mg o'
 | [],xs,[],u,ls,ms,h,h2=>by
  simp only[iO,bP] at h;subst h;simp only[jo,bP,eQ] at h2;rw[<- h2.2.1];exact⟨rfl,λ x hx=>by simp at hx⟩
 | [],_,_ :: _,_,_,_,h,_=>by simp[iO] at h
 | _ :: _,_,[],_,_,_,h,_=>by simp[iO] at h
 | d :: ds,xs,y :: ys,u,ls,ms,h,h2=>by
  simp only[iO] at h;split at h
  ·rename_i u1 u2 e1 e2;simp only[bP] at h;subst h;simp only[jo] at h2;split at h2
   ·rename_i x bl m1 xs' bls m2 h3 h4;simp only[bP,eQ] at h2;rw[<- h2.2.1];obtain⟨i1,i2⟩:=Xo e2 h4;obtain⟨j1,j2⟩:=zo4 e1 h3;exact⟨by simp[i1,j1],λ x hx=>(dL.1 hx).elim (j2 x) (i2 x)⟩
   ·cases h2
  ·cases h
theorem C9 {sf : jC} {ob ob' : Nat → Option AO} : ∀ {cells : List Cl}, (∀ L ∈ cells.flatMap bu, ob' L = ob L) → gz sf ob' cells = gz sf ob cells
  | [],_=>rfl
  | c :: cells,h=>by
    have ih:gz sf ob' cells=gz sf ob cells:=C9 λ L hL=>h L (by simp only[lT,dL];exact .inr hL);cases c with
    | vec M=>simp only[gz,ih,h M (by simp[bu])]
    | mo M=>simp only[gz,ih,h M (by simp[bu])]
    | _=>simp only[gz,ih]
theorem Zr {sf:jC}{ob ob':Nat->Option AO}{d:DV}(h:∀ L∈bH ob d,ob' L=ob L):wQ sf ob' d=wQ sf ob d/\∀ y,DI ob' d y=DI ob d y:=by
 have hx:o5 ob' d=o5 ob d:=by simp only[o5,Gf h]
 by_cases hd:∃ L,d=.one (.c (.ptr L 0))
 ·obtain ⟨L, rfl⟩ := hd;have hL:ob' L=ob L:=h L (ku.2 ⟨L,by simp[cu,cZ,bu],.inl rfl⟩);refine⟨?_,λ y=>by simp only[DI,hL]⟩;rw[lY,lY,hL,hx];cases ho:ob L with
  | none=>rfl
  | some o =>
   cases o with
   | box ty cells =>
    have:gz sf ob' cells=gz sf ob cells:=C9 λ M hM=>h M (ku.2 ⟨L,by simp[cu,cZ,bu],.inr ⟨_,ho,M,hM,.inl rfl⟩⟩);simp only[this]
   | _=>rfl
 ·refine ⟨?_, fun y => ?_⟩
  ·unfold wQ;split
   ·exact (hd ⟨_,rfl⟩).elim
   ·exact hx
  ·unfold DI;split
   ·exact (hd ⟨_,rfl⟩).elim
   ·rfl
theorem Gl {sf : jC} {ob ob' : Nat → Option AO} : ∀ {ds : List DV}, (∀ L ∈ ds.flatMap (bH ob), ob' L = ob L) → jo sf ob' ds = jo sf ob ds ∧ ∀ ys, iO ob' ds ys = iO ob ds ys
  | [],_=>⟨rfl,λ ys=>by cases ys <;> rfl⟩
  | d :: ds,h=>by
    obtain⟨i1,i2⟩:=Gl (sf:=sf) (ds:=ds) (ob':=ob') λ L hL=>h L (by simp only[lT,dL];exact .inr hL);obtain⟨j1,j2⟩:=Zr (sf:=sf) (ob':=ob') (d:=d) λ L hL=>h L (by simp only[lT,dL];exact .inl hL);refine⟨by simp only[jo,i1,j1],λ ys=>?_⟩;cases ys with
    | nil=>rfl
    | cons y ys=>simp only[iO,i2,j2]
theorem zda {sf:jC}{C:MK}{ds:List DV}(hk:∀ ev' ob',(∀ x∈o.op.operands.toList,ev' x=ev x)->act P Γ o ev' ob'=pV C sf ds ob') (hA:pV C sf ds ob=A) (hs:A.safe):bZ P Γ o ev ob A:=by
 unfold pV at hA;split at hA
 ·rename_i xs ls ms has;split at hA
  ·rename_i s rs ys hCx;split at hA
   ·rename_i u hput;split at hA
    ·rename_i hcond;subst hA;have zo5:=hcond;simp only[fA,Nat.ble_eq] at hcond;obtain⟨h1,h2⟩:=Xo hput has;have hw:∀ L∈(u.filter λ x=>!jJ x.2).map (·.1),(L,true)∈wr ((u.filter λ x=>!jJ x.2).map (·.1)) ++ rd (ds.flatMap (bH ob)):=λ L hL=>dL.2 (.inl (Gj hL));have hul:∀ x∈u.filter λ x=>!jJ x.2,x.1∈(u.filter λ x=>!jJ x.2).map (·.1):=λ x hx=>uF.2 ⟨x,hx,rfl⟩;refine⟨λ x hx=>hw _ (hul x hx),?_,λ x hx L hL=>?_,λ d hd L hL=>(by simp only[aH.gives] at hd;subst hd;rw[UC] at hL;simp at hL),λ ev' ob' he hob=>?_⟩
     ·match ms,hcond.1.2,hcond.2 with
      | [],_,_=>exact .inl rfl
      | [x],_,hc=>exact .inr ⟨x,rfl,hw x (by simpa using hc)⟩
      | _ :: _ :: _,h,_=>simp at h
     ·obtain ⟨o', ho, hL⟩ := h2 x (List.mem_filter.1 hx).1 L hL;exact .inr ⟨(x.1,true),hw _ (hul x hx),o',ho,hL⟩
     ·have hl : ∀ L ∈ ds.flatMap (bH ob), ob' L = ob L := fun L hL => hob (L, false) (dL.2 (.inr (uF.2 ⟨L, hL, rfl⟩)));have e1:=Gl (sf:=sf) hl;have e2:ds.flatMap (bH ob')=ds.flatMap (bH ob):=Xl λ d hd=>iw λ L hL=>hl L (jA.2 ⟨d,hd,hL⟩);rw[hk ev' ob' he];simp only[pV,e1.1,has,hCx,e1.2,hput,zo5,e2]
    ·subst hA;exact hs.elim
   ·subst hA;exact hs.elim
  ·subst hA;exact hs.elim
 ·subst hA;exact hs.elim
theorem Dc {ev' : Operand → DV} : ∀ {l : List Operand}, (∀ x ∈ l, ev' x = ev x) → yI ev' l = yI ev l
  | [],_=>rfl
  | x :: l,h=>by simp only[yI,h x jS,Dc λ y hy=>h y (jc _ hy)]

theorem Xp {rs : List PA} {args : Array Operand} {c : Callee} {ts : Array TypeId} {az : List PA} {u : jY} (hop : o.op = .call { callee := c, args, argTypes := ts })
    (has:gm ob (args.toList.map ev)=some (az,u))
    (key:∀ (ev':Operand->DV) (ob':Nat->Option AO),(∀ x∈o.op.operands.toList,ev' x=ev x)->(∀ L∈args.toList.flatMap λ x=>bH ob (ev x),ob' L=ob L) ->
      act P Γ o ev' ob'=jv (args.toList.flatMap λ x=>bH ob (ev x)) u rs) (hA:jv (args.toList.flatMap λ x=>bH ob (ev x)) u rs=A):bZ P Γ o ev ob A:=by
  have hwrT:∀ L,L∈(args.toList.flatMap λ x=>bH ob (ev x))->(L,true)∈wr (args.toList.flatMap λ x=>bH ob (ev x)):=λ L hL=>uF.2 ⟨L,hL,rfl⟩;have zxB:∀ L,L∈(args.toList.flatMap λ x=>bH ob (ev x))->(L,false)∈rd (args.toList.flatMap λ x=>bH ob (ev x)):=λ L hL=>uF.2 ⟨L,hL,rfl⟩;have hk:∀ x∈u,(x.1,true)∈wr (args.toList.flatMap λ x=>bH ob (ev x))/\mg x.2=[]:=λ x hx=>by
    obtain⟨h1,h2⟩:=xO has x hx;refine⟨hwrT _ ?_,h2⟩;rw[List.flatMap_map] at h1;exact h1
  generalize (args.toList.flatMap λ x=>bH ob (ev x))=gZ at hA key hk hwrT zxB;cases hl:O9 rs || Pg u rs with
  | true =>
    simp only[jv,hl] at hA key;subst hA;exact⟨λ x hx=>by simp[aH.u] at hx,.inl rfl,λ x hx=>by simp[aH.u] at hx,λ d hd L hL=>(by cases hd;rw[UC] at hL;simp at hL),λ ev' ob' he hob=>key ev' ob' he λ L hL=>hob _ (zxB L hL)⟩
  | false =>
    simp only[jv,hl] at hA key;subst hA;exact⟨λ x hx=>(hk x hx).1,.inl rfl,λ x hx L hL=>(by rw[(hk x hx).2] at hL;simp at hL),λ d hd L hL=>(by cases hd;rw[UC] at hL;simp at hL),λ ev' ob' he hob=>key ev' ob' he λ L hL=>hob _ (hwrT L hL)⟩
theorem zh9 {f:Operand}{args:Array Operand}{ts:Array TypeId}(hop:o.op=.call { callee:=.value f,args,argTypes:=ts }) (hA:act P Γ o ev ob=A) (hs:A.safe):bZ P Γ o ev ob A:=by
 have hm:=vg hop;have hf:f∈o.op.operands.toList:=by simp[hop,Op.operands,Call.operands]
 simp only[act,aCl,hop] at hA;have e0:∀ ev':Operand->DV,(∀ x∈o.op.operands.toList,ev' x=ev x)->args.toList.map ev'=args.toList.map ev:=λ ev' he=>List.map_congr_left λ x hx=>he x (hm x hx);split at hA
 ·rename_i gf caps hef;split at hA
  ·rename_i C hC;exact zda (λ ev' ob' he=>by simp only[act,aCl,hop,he f hf,hef,hC,e0 ev' he]) hA hs
  ·subst hA;exact hs.elim
 ·rename_i gf first caps hef
  split at hA
  ·rename_i C hC;exact zda (λ ev' ob' he=>by simp only[act,aCl,hop,he f hf,hef,hC,e0 ev' he]) hA hs
  rename_i hC;split at hA
  ·rename_i hk;split at hA
   ·exact zo3 (k:=Γ.own gf) hop (λ ev' ob' he=>by simp only[act,aCl,hop,he f hf,hef,hC,hk]) hA hs
   ·subst hA;exact hs.elim
  rename_i hko;split at hA
  ·rename_i az u has;split at hA
   case h_2=>subst hA;exact hs.elim
   rename_i rs hrs
   have key:∀ (ev':Operand->DV) (ob':Nat->Option AO),(∀ x∈o.op.operands.toList,ev' x=ev x)->(∀ L∈args.toList.flatMap λ x=>bH ob (ev x),ob' L=ob L) ->
     act P Γ o ev' ob'=jv (args.toList.flatMap λ x=>bH ob (ev x)) u rs:=by
    intro ev' ob' he hl;have e0:args.toList.map ev'=args.toList.map ev:=List.map_congr_left λ x hx=>he x (hm x hx);have e1:gm ob' (args.toList.map ev)=gm ob (args.toList.map ev):=jL λ L hL=>hl L (by rw[List.flatMap_map] at hL;exact hL);have e2:(args.toList.flatMap λ x=>bH ob' (ev' x))=args.toList.flatMap λ x=>bH ob (ev x):=by
     refine Xl λ x hx=>?_;rw[he x (hm x hx)];exact iw λ L hL=>hl L (jA.2 ⟨x,hx,hL⟩)
    simp only[act,aCl,hop,he f hf,hef,hC,hko,e0,e1,has,e2,hrs]
   exact Xp hop has key hA
  ·subst hA;exact hs.elim
 ·rename_i gf cells hef;split at hA
  ·rename_i az u has;split at hA
   case h_2=>subst hA;exact hs.elim
   rename_i rs hrs
   have key:∀ (ev':Operand->DV) (ob':Nat->Option AO),(∀ x∈o.op.operands.toList,ev' x=ev x)->(∀ L∈args.toList.flatMap λ x=>bH ob (ev x),ob' L=ob L) ->
     act P Γ o ev' ob'=jv (args.toList.flatMap λ x=>bH ob (ev x)) u rs:=by
    intro ev' ob' he hl;have e0:args.toList.map ev'=args.toList.map ev:=List.map_congr_left λ x hx=>he x (hm x hx);have e1:gm ob' (args.toList.map ev)=gm ob (args.toList.map ev):=jL λ L hL=>hl L (by rw[List.flatMap_map] at hL;exact hL);have e2:(args.toList.flatMap λ x=>bH ob' (ev' x))=args.toList.flatMap λ x=>bH ob (ev x):=by
     refine Xl λ x hx=>?_;rw[he x (hm x hx)];exact iw λ L hL=>hl L (jA.2 ⟨x,hx,hL⟩)
    simp only[act,aCl,hop,he f hf,hef,e0,e1,has,e2,hrs]
   exact Xp hop has key hA
  ·subst hA;exact hs.elim
 ·subst hA;exact hs.elim

theorem Qx {f:FuncId}{first caps:Array Operand}(hop:o.op=.makeFunc (.func f) first caps) (hA:act P Γ o ev ob=A) (hs:A.safe):bZ P Γ o ev ob A:=by
 have hm:∀ x∈first.toList ++ caps.toList,x∈o.op.operands.toList:=λ x hx=>by simp only[hop,Op.operands];simpa using hx
 simp only[act,aMf,hop] at hA;split at hA
 ·rename_i hmt;split at hA
  ·rename_i cs hf hc;subst hA;refine bZ.pure (λ L hL=>by simp[jI,pR,kK] at hL) λ ev' ob' he _=>?_;have e1:yI ev' caps.toList=some cs:=(Dc λ x hx=>he x (hm x (dL.2 (.inr hx)))).trans hc;simp only[act,aMf,hop,hmt,hf,e1]
  ·subst hA;exact hs.elim
 rename_i hmt;have hbc:∀ ev':Operand->DV,(∀ x∈o.op.operands.toList,ev' x=ev x)->JU ev' first.toList caps.toList=JU ev first.toList caps.toList:=λ ev' he=>by
  unfold JU;cases hf:first.toList with
  | nil=>rfl
  | cons x r =>
   cases r with
   | cons y r=>rfl
   | nil =>
    cases hc:caps.toList with
    | cons y r=>rfl
    | nil=>simp only[];rw[he x (hm x (by rw[hf];simp))]
 split at hA
 ·rename_i l hb;subst hA;exact bZ.pure (gI _) λ ev' ob' he _=>by simp only[act,aMf,hop,hmt,hbc ev' he,hb]
 rename_i hbn;split at hA
 ·rename_i l u l' u' h1 h2;subst hA;have zxC:∀ (x:Operand) (c:Cl),ev x=.one (.c c)->∀ k,RC ob k (bu c)->k∈bH ob (ev x):=λ x c h k hk=>by
   rw[h];exact ku.2 hk
  have clm:∀ (xs:List Operand),∀ L∈(xs.flatMap λ x=>match ev x with | .one (.c c)=>[c] | _=>[.junk]).flatMap bu,∃ x∈xs,∃ c,ev x=.one (.c c)/\L∈bu c:=by
   intro xs L hL;obtain⟨c,hc,hL⟩:=jA.1 hL;obtain⟨x,hx,hc⟩:=jA.1 hc;refine⟨x,hx,?_⟩;split at hc
   ·rename_i c' h;simp at hc;subst hc;exact⟨_,h,hL⟩
   ·simp at hc;subst hc;simp[bu] at hL
  have keys:∀ (xs:List Operand) (l:List PV) (u:jY),pO ob (xs.flatMap λ x=>match ev x with | .one (.c c)=>[c] | _=>[.junk])=some (l,u) ->
    ∀ x∈u,x.1∈xs.flatMap (λ x=>bH ob (ev x))/\mg x.2=[]:=by
   intro xs l u h y hy;obtain⟨h3,h4⟩:=wu h y hy;refine⟨?_,h4⟩;obtain⟨L,hL,h3⟩:=h3;obtain⟨x,hx,c,hc,hL⟩:=clm xs _ hL;exact jA.2 ⟨x,hx,zxC x c hc _ ⟨L,hL,h3⟩⟩
  have zxD:∀ (xs:List Operand) (ev':Operand->DV) (ob':Nat->Option AO),(∀ x∈xs,ev' x=ev x)->(∀ L∈xs.flatMap (λ x=>bH ob (ev x)),ob' L=ob L) ->
    pO ob' (xs.flatMap λ x=>match ev' x with | .one (.c c)=>[c] | _=>[.junk])=pO ob (xs.flatMap λ x=>match ev x with | .one (.c c)=>[c] | _=>[.junk]):=by
   intro xs ev' ob' he hob;have e0:(xs.flatMap λ x=>match ev' x with | .one (.c c)=>[c] | _=>[.junk])=xs.flatMap λ x=>match ev x with | .one (.c c)=>[c] | _=>[.junk] :=
    Xl λ x hx=>by rw[he x hx]
   rw[e0];refine xM λ L hL=>?_;obtain⟨x,hx,c,hc,hL⟩:=clm xs _ hL;have hd:∀ k,RC ob k (bu c)->ob' k=ob k:=λ k hk=>hob k (jA.2 ⟨x,hx,zxC x c hc _ hk⟩);exact⟨hd L ⟨L,hL,.inl rfl⟩,λ o' ho' M hM=>⟨hd M ⟨L,hL,.inr ⟨o',ho',M,hM,.inl rfl⟩⟩,λ o2 ho2 N hN=>hd N ⟨L,hL,.inr ⟨o',ho',M,hM,.inr ⟨o2,ho2,hN⟩⟩⟩⟩⟩
  refine⟨λ x hx=>?_,.inl rfl,λ x hx L hL=>?_,λ d' hd' L hL=>?_,λ ev' ob' he hob=>?_⟩
  ·simp only [aH.u] at hx;refine Gj ?_;rw[List.flatMap_append];rcases dL.1 hx with hx | hx
   ·exact dL.2 (.inl (keys _ _ _ h1 x hx).1)
   ·exact dL.2 (.inr (keys _ _ _ h2 x hx).1)
  ·simp only [aH.u] at hx;rcases dL.1 hx with hx | hx
   ·rw[(keys _ _ _ h1 x hx).2] at hL;simp at hL
   ·rw[(keys _ _ _ h2 x hx).2] at hL;simp at hL
  ·simp only[aH.gives] at hd';subst hd';simp[jI,pR,kK] at hL
  ·have hl : ∀ L ∈ (first.toList ++ caps.toList).flatMap fun x => bH ob (ev x), ob' L = ob L := fun L hL => hob (L, true) (Gj hL);have e1:=zxD first.toList ev' ob' (λ x hx=>he x (hm x (dL.2 (.inl hx)))) (λ L hL=>hl L (by rw[List.flatMap_append];exact dL.2 (.inl hL)));have e2:=zxD caps.toList ev' ob' (λ x hx=>he x (hm x (dL.2 (.inr hx)))) (λ L hL=>hl L (by rw[List.flatMap_append];exact dL.2 (.inr hL)));have e3:((first.toList ++ caps.toList).flatMap λ x=>bH ob' (ev' x))=(first.toList ++ caps.toList).flatMap λ x=>bH ob (ev x):=by
    refine Xl λ x hx=>?_;rw[he x (hm x hx)];exact iw λ L hL=>hl L (jA.2 ⟨x,hx,hL⟩)
   simp only[act,aMf,hop,hmt,e3,hbc ev' he,hbn];split
   ·rename_i l2 u2 l3 u3 h3 h4;have a1:some (l2,u2)=some (l,u):=h3.symm.trans (e1.trans h1);have a2:some (l3,u3)=some (l',u'):=h4.symm.trans (e2.trans h2);simp only[bP,eQ] at a1 a2;obtain⟨rfl,rfl⟩:=a1;obtain⟨rfl,rfl⟩:=a2;rfl
   ·rename_i hno;exact (hno l u l' u' (e1.trans h1) (e2.trans h2)).elim
 ·subst hA;exact hs.elim

theorem MR {t:TypeId}{x y:Operand}(hop:o.op=.makeSlice t x y) (hA:act P Γ o ev ob=A) (hs:A.safe):bZ P Γ o ev ob A:=by
 have hx:x∈o.op.operands.toList:=by simp[hop,Op.operands]
 have hy:y∈o.op.operands.toList:=by simp[hop,Op.operands]
 have hc0:∀ ev' ob',(∀ x∈o.op.operands.toList,ev' x=ev x)->act P Γ o ev' ob'=o8 P Γ t (ev x) (ev y) o.dst ob':=λ ev' ob' he=>by simp only[act,hop,he x hx,he y hy]
 have hA0:=hA;rw[hc0 ev ob (λ _ _=>rfl)] at hA;unfold o8 at hA;split at hA
 ·rename_i e k1 j k2 j2 dst hu hex TL hdst;split at hA
  ·rename_i ie z hi hz hfresh;have fin:∀ (s:CP) (ao:AO),mg ao=[]->aH.chk [(dst,true)] s (.cl (.vec dst)) [(dst,ao)] []=A->(∀ ob':Nat->Option AO,ob' dst=none->o8 P Γ t (ev x) (ev y) o.dst ob'=A)->bZ P Γ o ev ob A:=by
    intro s ao hao e hcc;subst e;refine⟨λ z hz=>?_,.inl rfl,λ z hz M hM=>?_,λ d' hd' M hM=>?_,λ ev' ob' he hob=>?_⟩
    ·simp only[aH.u,jQ] at hz;subst hz;simp[aH.fp]
    ·simp only[aH.u,jQ] at hz;subst hz;rw[hao] at hM;simp at hM
    ·simp only [aH.gives] at hd'; subst hd';simp only[jI,pR,kK,jQ] at hM;subst hM;exact .inr (by simp[aH.fp])
    ·have e2 := hob (dst, true) (by simp [aH.fp]); simp only at e2;rw[hc0 ev' ob' he];exact hcc ob' (e2.trans hfresh)
   have hcc:∀ ob':Nat->Option AO,ob' dst=none->o8 P Γ t (ev x) (ev y) o.dst ob'=A:=λ ob' h=>by
    have:act P Γ o ev ob=A:=hA0;rw[hc0 ev ob (λ _ _=>rfl)] at this;rw[<- this];unfold o8;simp only[hu,hex,TL,hdst,hi,hz,hfresh,h]
   split at hA
   ·split at hA
    ·split at hA
     ·split at hA
      ·exact fin _ _ rfl hA hcc
      ·subst hA;exact hs.elim
     ·subst hA;exact hs.elim
    ·subst hA;exact hs.elim
   ·split at hA
    ·split at hA
     ·exact fin _ _ rfl hA hcc
     ·subst hA;exact hs.elim
    ·subst hA;exact hs.elim
  ·subst hA;exact hs.elim
 ·subst hA;exact hs.elim

theorem zxE (hA:act P Γ o ev ob=A) (hs:A.safe):bZ P Γ o ev ob A:=by
 have hA':=hA;cases hop:o.op with
 | move x=>simp only[act,hop] at hA;subst hA;exact Xm (.inl hop)
 | assign x=>simp only[act,hop] at hA;subst hA;exact Xm (.inr hop)
 | pick c x y =>
  simp only[act,aPk,hop] at hA;split at hA
  ·rename_i t hc;subst hA;exact zh5 hop hc
  ·subst hA;exact hs.elim
 | alloc e =>
  simp only[act,aAl,hop] at hA;split at hA
  ·rename_i z hz;refine MJ (ao:=.box e z) (d:=λ t=>.cl (.ptr t 0)) (λ L hL=>?_) (λ t L hL=>by simp[jI,pR,kK] at hL) (λ ev' ob' _=>by simp only[act,aAl,hop,hz]) hA hs;simp only[mg] at hL;rw[Xn hz] at hL;simp at hL
  ·subst hA;exact hs.elim
 | box e x =>
  have hx:x∈o.op.operands.toList:=by simp[hop,Op.operands]
  simp only[act,aBx,hop] at hA;split at hA
  ·rename_i d m hex hm;split at hA
   ·rename_i hcond;refine MJ (ao:=.box e d.cells) (d:=λ t=>.cl (.ptr t 0)) (λ L hL=>?_) (λ t L hL=>by simp[jI,pR,kK] at hL) (λ ev' ob' he=>by simp only[act,aBx,hop,he x hx,hex,hm,hcond]) hA hs;simp only[mg] at hL;rw[ML] at hL;exact .inl ⟨x,hx,by rw[hex];exact hL⟩
   ·subst hA;exact hs.elim
  ·subst hA;exact hs.elim
 | build t parts =>
  simp only[act,aBd,hop] at hA;split at hA
  ·rename_i z hf hz;split at hA
   ·rename_i l hl;subst hA;exact zc4 hop hf hz hl
   ·subst hA;exact hs.elim
  ·subst hA;exact hs.elim
 | buildSlice t m parts=>exact JC hop hA' hs
 | load t x=>exact zh6 hop hA' hs
 | store t x y=>exact zc5 hop hA' hs
 | nilCheck x=>exact Qw hop hA' hs
 | binOp op t x y t'=>exact zc7 hop hA' hs
 | unOp op t x=>exact zh8 hop hA' hs
 | convert t1 t2 x=>exact UA hop hA' hs
 | fieldAddr t x f=>exact MN hop hA' hs
 | indexAddr t x y=>exact MO hop hA' hs
 | extract x k=>exact UB hop hA' hs
 | index t x y=>exact zc8 hop hA' hs
 | field t x f=>exact zc9 hop hA' hs
 | slice t x lo hi mx =>
  cases mx with
  | none=>exact ok_slice hop hA' hs
  | some m=>simp only[act,hop] at hA;subst hA;exact hs.elim
 | lookup t x y k=>exact Zp hop hA' hs
 | mapUpdate t x y z=>exact MM hop hA' hs
 | makeMap t x =>
  cases x with
  | none=>exact Uz hop hA' hs
  | some x=>simp only[act,hop] at hA;subst hA;exact hs.elim
 | makeSlice t x y=>exact MR hop hA' hs
 | makeFunc fn first caps =>
  cases fn with
  | func f=>exact Qx hop hA' hs
  | _=>simp only[act,hop] at hA;subst hA;exact hs.elim
 | call c =>
  obtain⟨callee,args,ts⟩:=c;cases callee with
  | value f=>exact zh9 hop hA' hs
  | invoke x m=>simp only[act,hop] at hA;subst hA;exact hs.elim
  | builtin b =>
   cases b with
   | len=>exact zo2 hop hA' hs
   | max=>exact zmJ (.inl rfl) hop hA' hs
   | min=>exact zmJ (.inr rfl) hop hA' hs
   | append=>exact Zq hop hA' hs
   | _=>simp only[act,hop] at hA;subst hA;exact hs.elim
 | _=>simp only[act,hop] at hA;subst hA;exact hs.elim
end
end Go.Pm
namespace Go.Pm
variable [aJ]

structure xP (σ τ : St) : Prop where
  env:∀ t,lk σ.env t=lk τ.env t
  aC:∀ L,lk σ.aC L=lk τ.aC L
  log:∀ x,x∈σ.log↔x∈τ.log

theorem xP.refl (σ:St):xP σ σ:=⟨λ _=>rfl,λ _=>rfl,λ _=>Iff.rfl⟩
theorem xP.symm {σ τ:St}(h:xP σ τ):xP τ σ:=⟨λ t=>(h.env t).symm,λ t=>(h.aC t).symm,λ x=>(h.log x).symm⟩

theorem Ba {e e':List (Nat×DV)}{x:Operand}(h:∀ t∈TT x,lk e t=lk e' t):eY e x=eY e' x:=by
 cases x with
 | tmp t=>simp only[eY];rw[h t (by simp[TT])]
 | _=>rfl

theorem Bd (x:Cl):eU [] x=x:=by cases x <;> rfl
theorem Gn (x:D1):eF [] x=x:=by
 cases x with
 | c x=>simp[eF,Bd]
 | agg cs=>simp only[eF];rw[show eU []=id from funext Bd,List.map_id]
theorem Zt (x:DV):fO [] x=x:=by
 cases x with
 | one x=>simp[fO,Gn]
 | tup cs=>simp only[fO];rw[show eF []=id from funext Gn,List.map_id]
theorem Zu (x:AO):dX [] x=x:=by
 cases x with
 | box ty cs=>simp only[dX];rw[show eU []=id from funext Bd,List.map_id]
 | _=>rfl

theorem Gp {l:List Nat}{x:Cl}(h:∀ L∈kK x,L ∉ l):eU l x=x:=by
 cases x with
 | vec L =>
  have h1:l.contains L=false:=by simpa using h L (by simp[kK])
  simp only[eU,h1]
 | vptr L s i k =>
  have h1:l.contains L=false:=by simpa using h L (by simp[kK])
  simp only[eU,h1]
 | mo L =>
  have h1:l.contains L=false:=by simpa using h L (by simp[kK])
  simp only[eU,h1]
 | _=>rfl
theorem ww {α : Type} {f : α → α} : ∀ {l : List α}, (∀ x ∈ l, f x = x) → l.map f = l
  | [],_=>rfl
  | x :: l,h=>by rw[nR,h x jS,ww λ y hy=>h y (jc _ hy)]
theorem KR {l:List Nat}{x:D1}(h:∀ L∈pR x,L ∉ l):eF l x=x:=by
 cases x with
 | c x=>simp only[eF];rw[Gp h]
 | agg cs=>simp only[eF];rw[ww λ x hx=>Gp λ L hL=>h L (jA.2 ⟨x,hx,hL⟩)]
theorem Gq {l:List Nat}{x:DV}(h:∀ L∈jI x,L ∉ l):fO l x=x:=by
 cases x with
 | one x=>simp only[fO];rw[KR h]
 | tup cs=>simp only[fO];rw[ww λ x hx=>KR λ L hL=>h L (jA.2 ⟨x,hx,hL⟩)]
theorem Gs {l:List Nat}{x:AO}(h:∀ L∈mg x,L ∉ l):dX l x=x:=by
 cases x with
 | box ty cs=>simp only[dX];rw[ww λ x hx=>Gp λ L hL=>h L (jA.2 ⟨x,hx,hL⟩)]
 | _=>rfl

theorem MS {l:List Nat}{x:Cl} : kK (eU l x)=kK x:=by
 cases x with
 | vec L=>simp only[eU];split <;> rfl
 | vptr L s i k=>simp only[eU];split <;> rfl
 | mo L=>simp only[eU];split <;> rfl
 | _=>rfl
theorem Qy {l:List Nat}{x:D1} : pR (eF l x)=pR x:=by
 cases x with
 | c x=>exact MS
 | agg cs=>simp only[eF,pR,List.flatMap_map];exact Xl λ x _=>MS
theorem zia {l:List Nat}{x:DV} : jI (fO l x)=jI x:=by
 cases x with
 | one x=>exact Qy
 | tup cs=>simp only[fO,jI,List.flatMap_map];exact Xl λ x _=>Qy
theorem MV {l:List Nat}{x:AO} : mg (dX l x)=mg x:=by
 cases x with
 | box ty cs=>simp only[dX,mg,List.flatMap_map];exact Xl λ x _=>MS
 | _=>rfl

theorem xQ {l m:List Nat}(x:Cl):eU l (eU m x)=eU m (eU l x):=by
 cases x with
 | vec L=>simp only[eU];cases hl:l.contains L <;> cases hm:m.contains L <;> simp only[hl,hm]
 | vptr L s i k=>simp only[eU];cases hl:l.contains L <;> cases hm:m.contains L <;> simp only[hl,hm]
 | mo L=>simp only[eU];cases hl:l.contains L <;> cases hm:m.contains L <;> simp only[hl,hm]
 | _=>rfl
theorem Dh {l m:List Nat}(x:D1):eF l (eF m x)=eF m (eF l x):=by
 cases x with
 | c x=>simp only[eF];rw[xQ]
 | agg cs=>simp only[eF,List.map_map];rw[show eU l ∘ eU m=eU m ∘ eU l from funext xQ]
theorem UD {l m:List Nat}(x:DV):fO l (fO m x)=fO m (fO l x):=by
 cases x with
 | one x=>simp only[fO];rw[Dh]
 | tup cs=>simp only[fO,List.map_map];rw[show eF l ∘ eF m=eF m ∘ eF l from funext Dh]
theorem UE {l m:List Nat}(x:AO):dX l (dX m x)=dX m (dX l x):=by
 cases x with
 | box ty cs=>simp only[dX,List.map_map];rw[show eU l ∘ eU m=eU m ∘ eU l from funext xQ]
 | _=>rfl

theorem Xq {α : Type} {f : α → α} : ∀ {l : List (Nat × α)} {t : Nat}, lk (kills f l) t = (lk l t).map f
  | [],_=>rfl
  | (k,a) :: r,t=>by
    simp only[kills];rw[aW,aW];split
    · rfl
    · exact Xq

theorem zib {σ : St} {i : Nat} {dst : Option Nat} {fp : List (Nat × Bool)} {d : DV} {u : List (Nat × AO)} {kl : List Nat} (t : Nat) :
  lk (σ.upd i dst fp d u kl).env t=if dst=some t then some d else (lk σ.env t).map (fO kl):=by
 cases kl with
 | nil =>
  have e:(lk σ.env t).map (fO [])=lk σ.env t:=by cases lk σ.env t <;> simp[Zt]
  rw[e];cases dst with
  | none=>rfl
  | some s=>simp only[St.upd,aW,bP]
 | cons K r =>
  cases dst with
  | none=>simp only[St.upd,Xq];rw[if_neg (by simp)]
  | some s=>simp only[St.upd,aW,Xq,bP]
theorem zdb {σ : St} {i : Nat} {dst : Option Nat} {fp : List (Nat × Bool)} {d : DV} {u : List (Nat × AO)} {kl : List Nat} (L : Nat) :
  lk (σ.upd i dst fp d u kl).aC L=match lk u L with | some o=>some o | none=>(lk σ.aC L).map (dX kl):=by
 cases kl with
 | nil =>
  have e:(lk σ.aC L).map (dX [])=lk σ.aC L:=by cases lk σ.aC L <;> simp[Zu]
  rw[e];change lk (u ++ σ.aC) L=_;rw[fG];cases lk u L <;> rfl
 | cons K r =>
  simp only[St.upd,fG,Xq];cases lk u L <;> rfl
theorem zic {σ:St}{i:Nat}{dst:Option Nat}{fp:List (Nat×Bool)}{d:DV}{u:List (Nat×AO)}{kl:List Nat} : (σ.upd i dst fp d u kl).log=σ.log:=by
 cases kl <;> rfl

abbrev aH.may:aH->DV->Prop:=aH.gives
theorem aH.may_gives {A:aH}{d:DV}(h:A.may d):A.gives d:=h
theorem aH.may_of_safe {A:aH}(h:A.safe):∃ d,A.may d:=by
 cases A with
 | no=>exact h.elim
 | val fp d u kl=>exact⟨d,rfl⟩
 | chk fp s d u kl=>exact⟨d,rfl⟩

def nx (A:aH) (lg:List (Nat×Bool)->List Nat->List (Nat×Nat×Nat)) (i:Nat) (dst:Option Nat) (σ:St) (d:DV):St :=
 (σ.upd i dst A.fp d A.u A.kl).relog (lg A.fp A.kl)

theorem jM {A : aH} {lg : List (Nat × Bool) → List Nat → List (Nat × Nat × Nat)} {i : Nat} {dst : Option Nat} {K : St → Prop} {σ : St} :
  kQ A lg i dst K σ↔A.safe/\∀ d,A.may d->K (nx A lg i dst σ d):=by
 cases A with
 | no=>simp[kQ,aH.safe]
 | val fp d u kl=>simp[kQ,aH.safe,aH.may,aH.gives,nx,aH.fp,aH.u,aH.kl]
 | chk fp s d u kl=>simp[kQ,aH.safe,aH.may,aH.gives,nx,aH.fp,aH.u,aH.kl]
section
variable (P:Program) (Γ:bf) (nt:Nat) (ops:Array Oper)

def kT (env:List (Nat×DV)) (o:Oper):Option Bool :=
 match o.guard with
 | none=>some true
 | some (j,want) =>
  match (ops[j]?).bind (·.dst) with
  | none=>none
  | some g =>
   match lk env g with
   | some (.one (.c (.p (.bool b))))=>some (b == want)
   | some (.one (.c .undef))=>some false
   | _=>none

def qV (σ:St) (o:Oper):aH :=
 match dG nt o.dst,kT ops σ.env o with
 | true,some true=>act P Γ o (eY σ.env) (lk σ.aC)
 | true,some false=>.val [] (.cl .undef) [] []
 | _,_=>.no

def nK (σ:St) (i:Nat) (o:Oper) (fp:List (Nat×Bool)) (kl:List Nat):List (Nat×Nat×Nat) :=
 match kT ops σ.env o with
 | some true=>lV σ i o fp kl
 | _=>[]

def uA : List Nat → (St → Prop) → St → Prop
  | [],K,σ=>K σ
  | i :: r,K,σ=>match ops[i]? with
    | none=>uA r K σ
    | some o=>kQ (qV P Γ nt ops σ o) (nK ops σ i o) i o.dst (uA r K) σ

def looks (σ:St) (o:Oper):List Nat :=
 match kT ops σ.env o with
 | some true=>qc ops o
 | _=>gdT ops o

end

section
variable {P:Program}{Γ:bf}{nt:Nat}{ops:Array Oper}{σ τ:St}{o:Oper}{i:Nat}{A:aH}

theorem vk {L k:Nat}{r:List Nat} : k∈Jw σ (L :: r)↔∃ o,lk σ.aC k=some o/\L∈mg o:=by
 simp only[Jw,List.mem_filter,uF];constructor
 ·rintro ⟨_, h⟩;split at h
  ·rename_i o ho;exact⟨o,ho,by simpa using h⟩
  ·cases h
 ·rintro ⟨o, ho, hL⟩;refine⟨⟨(k,o),eu ho,rfl⟩,?_⟩;rw[ho];simpa using hL

theorem KT:∀ t∈looks ops σ o,t∈qc ops o:=by
 unfold looks;split
 ·exact λ _ h=>h
 ·exact λ t h=>dL.2 (.inr h)
theorem KU:∀ t∈gdT ops o,t∈looks ops σ o:=by
 unfold looks;split
 ·exact λ t h=>dL.2 (.inr h)
 ·exact λ t h=>h

theorem pz {env env':List (Nat×DV)}(h:∀ t∈gdT ops o,lk env' t=lk env t):kT ops env' o=kT ops env o:=by
 unfold kT;split
 ·rfl
 ·rename_i j want hg;split
  ·rfl
  ·rename_i g hgt;rw[h g (by simp[gdT,hg,hgt])]

theorem Xr {b:Bool}(h:kT ops σ.env o=some b):∀ t∈gdT ops o,∀ v,lk σ.env t=some v->jI v=[]:=by
 intro t ht v hv;unfold gdT at ht;split at ht
 ·rename_i j want hg;split at ht
  ·rename_i g hgt;simp only[jQ] at ht;subst ht;unfold kT at h;rw[hg] at h;simp only[hgt] at h;rw[hv] at h;split at h
   ·rename_i e;simp only[bP] at e;subst e;rfl
   ·rename_i e;simp only[bP] at e;subst e;rfl
   ·cases h
  ·simp at ht
 ·simp at ht

structure Loc (P : Program) (Γ : bf) (nt : Nat) (ops : Array Oper) (σ : St) (i : Nat) (o : Oper) (A : aH) (lg : List (Nat × Nat × Nat)) : Prop where
  fst:∀ x∈lg,x.1=i
  wr:∀ x∈A.u,(i,x.1,1)∈lg
  kl:A.kl=[]\/∃ L,A.kl=[L]
  kl3:∀ L∈A.kl,(i,L,3)∈lg
  kl1:∀ L∈A.kl,(i,L,1)∈lg
  kb:∀ L∈A.kl,∀ k o',lk σ.aC k=some o'->L∈mg o'->(i,k,1)∈lg
  labu:∀ x∈A.u,∀ L∈mg x.2,(i,L,2)∈lg
  labd:∀ d,A.may d->∀ L∈jI d,(i,L,2)∈lg\/(i,L,1)∈lg
  see:∀ t∈looks ops σ o,∀ v,lk σ.env t=some v->∀ L∈jI v,(i,L,2)∈lg
  fpm:∀ y∈A.fp,∀ o',lk σ.aC y.1=some o'->∀ L∈mg o',(i,L,2)∈lg
  fpt:∀ y∈A.fp,(i,y.1,0)∈lg\/(i,y.1,1)∈lg
  wfp:∀ x∈A.u,(x.1,true)∈A.fp
  congr:∀ τ,(∀ t∈looks ops σ o,lk τ.env t=lk σ.env t)->(∀ y∈A.fp,lk τ.aC y.1=lk σ.aC y.1)->qV P Γ nt ops τ o=A
  logc:∀ τ,(∀ t∈looks ops σ o,lk τ.env t=lk σ.env t)->(∀ y∈A.fp,lk τ.aC y.1=lk σ.aC y.1) ->
    (∀ L∈A.kl,∀ k,(∃ o',lk τ.aC k=some o'/\L∈mg o')↔∃ o',lk σ.aC k=some o'/\L∈mg o')->∀ x,x∈nK ops τ i o A.fp A.kl↔x∈lg

theorem iI {fp : List (Nat × Bool)} {kl : List Nat} {x : Nat × Nat × Nat} : x ∈ lV σ i o fp kl ↔
    (∃ y∈fp,x=(i,y.1,match y.2 with | true=>1 | false=>0))\/(∃ L∈ES σ o fp,x=(i,L,2))\/(∃ L∈kl,x=(i,L,3))\/∃ k∈Jw σ kl,x=(i,k,1):=by
  simp only[lV,dL,uF,or_assoc];constructor
  · rintro (⟨y, h1, h2⟩ | ⟨y, h1, h2⟩ | ⟨y, h1, h2⟩ | ⟨y, h1, h2⟩)
    · exact .inl ⟨y,h1,h2.symm⟩
    · exact .inr (.inl ⟨y,h1,h2.symm⟩)
    · exact .inr (.inr (.inl ⟨y,h1,h2.symm⟩))
    · exact .inr (.inr (.inr ⟨y,h1,h2.symm⟩))
  · rintro (⟨y, h1, h2⟩ | ⟨y, h1, h2⟩ | ⟨y, h1, h2⟩ | ⟨y, h1, h2⟩)
    · exact .inl ⟨y,h1,h2.symm⟩
    · exact .inr (.inl ⟨y,h1,h2.symm⟩)
    · exact .inr (.inr (.inl ⟨y,h1,h2.symm⟩))
    · exact .inr (.inr (.inr ⟨y,h1,h2.symm⟩))

theorem Zv {fp:List (Nat×Bool)}{L:Nat}(h:Men o (eY σ.env) (lk σ.aC) fp L):L∈ES σ o fp:=by
 unfold ES;rcases h with ⟨x,hx,hL⟩ | ⟨y,hy,o',ho,hL⟩
 ·exact dL.2 (.inl (jA.2 ⟨x,hx,hL⟩))
 ·refine dL.2 (.inr (jA.2 ⟨y,hy,?_⟩));rw[ho];exact hL

theorem Di {fp:List (Nat×Bool)}(he:∀ x∈o.op.operands.toList,eY τ.env x=eY σ.env x) (hob:∀ y∈fp,lk τ.aC y.1=lk σ.aC y.1):ES τ o fp=ES σ o fp:=by
 unfold ES;rw[Xl (f:=λ x=>jI (eY τ.env x)) (h:=λ x=>jI (eY σ.env x)) λ x hx=>by rw[he x hx]];congr 1;exact Xl λ y hy=>by rw[hob y hy]

theorem Qz (hA:qV P Γ nt ops σ o=A) (hs:A.safe):Loc P Γ nt ops σ i o A (nK ops σ i o A.fp A.kl):=by
 have hA':=hA;unfold qV at hA;split at hA
 ·rename_i hd hw;have K:=zxE hA hs;have hlg:∀ fp kl,nK ops σ i o fp kl=lV σ i o fp kl:=λ fp kl=>by unfold nK;rw[hw]
  have hlooks:looks ops σ o=qc ops o:=by unfold looks;rw[hw]
  have zid:∀ L,Men o (eY σ.env) (lk σ.aC) A.fp L->(i,L,2)∈nK ops σ i o A.fp A.kl:=λ L h=>by
   rw[hlg];exact iI.2 (.inr (.inl ⟨L,Zv h,rfl⟩))
  have hfw:∀ L,(L,true)∈A.fp->(i,L,1)∈nK ops σ i o A.fp A.kl:=λ L h=>by
   rw[hlg];exact iI.2 (.inl ⟨_,h,rfl⟩)
  have hop:∀ τ:St,(∀ t∈looks ops σ o,lk τ.env t=lk σ.env t)->∀ x∈o.op.operands.toList,eY τ.env x=eY σ.env x:=λ τ h x hx =>
   Ba λ t ht=>h t (by rw[hlooks];exact dL.2 (.inl (jA.2 ⟨x,hx,ht⟩)))
  have hwt:∀ τ:St,(∀ t∈looks ops σ o,lk τ.env t=lk σ.env t)->kT ops τ.env o=some true:=λ τ h=>by
   rw[pz (env:=σ.env) λ t ht=>h t (KU t ht),hw]
  refine⟨λ x hx=>?_,λ x hx=>hfw _ (K.wr x hx),?_,λ L hL=>?_,λ L hL=>?_,λ L hL k o' hk hL'=>?_,λ x hx L hL=>zid L (K.labu x hx L hL),
   λ d hd' L hL=>(K.labd d (aH.may_gives hd') L hL).imp (zid L) (hfw L),λ t ht v hv L hL=>?_,λ y hy o' ho L hL=>zid L (.inr ⟨y,hy,o',ho,hL⟩),λ y hy=>?_,K.wr,λ τ he hob=>?_,λ τ he hob hkb x=>?_⟩
  ·rw [hlg] at hx;rcases iI.1 hx with ⟨_,_,h⟩ | ⟨_,_,h⟩ | ⟨_,_,h⟩ | ⟨_,_,h⟩ <;> rw[h]
  ·exact K.kl.imp_right λ ⟨L,h,_⟩=>⟨L,h⟩
  ·rw[hlg];exact iI.2 (.inr (.inr (.inl ⟨L,hL,rfl⟩)))
  ·rcases K.kl with h | ⟨M, h, h2⟩
   ·rw[h] at hL;simp at hL
   ·rw[h] at hL;simp at hL;subst hL;exact hfw _ h2
  ·rw [hlg];refine iI.2 (.inr (.inr (.inr ⟨k,?_,rfl⟩)));rcases K.kl with h | ⟨M,h,h2⟩
   ·rw[h] at hL;simp at hL
   ·rw[h] at hL ⊢;simp at hL;subst hL;exact vk.2 ⟨o',hk,hL'⟩
  ·rw [hlooks] at ht;rcases dL.1 ht with ht | ht
   ·obtain ⟨x, hx, ht⟩ := jA.1 ht;refine zid L (.inl ⟨x,hx,?_⟩);cases x with
    | tmp s=>simp only[TT,jQ] at ht;subst ht;simp only[eY,hv];exact hL
    | _=>simp[TT] at ht
   ·rw[Xr hw t ht v hv] at hL;simp at hL
  ·rw [hlg];obtain⟨L,b⟩:=y;cases b with
   | true=>exact .inr (iI.2 (.inl ⟨_,hy,rfl⟩))
   | false=>exact .inl (iI.2 (.inl ⟨_,hy,rfl⟩))
  ·unfold qV;rw[hd,hwt τ he];exact K.congr _ _ (hop τ he) hob
  ·have e1 : nK ops τ i o A.fp A.kl = lV τ i o A.fp A.kl := by unfold nK; rw [hwt τ he]
   rw[e1,hlg,iI,iI,Di (hop τ he) hob];refine or_congr Iff.rfl (or_congr Iff.rfl (or_congr Iff.rfl ?_));rcases K.kl with h | ⟨M,h,h2⟩
   ·rw[h];simp[Jw]
   ·rw [h];have:∀ k,k∈Jw τ [M]↔k∈Jw σ [M]:=λ k=>by rw[vk,vk];exact hkb M (by rw[h];simp) k
    constructor
    ·rintro⟨k,h1,h2⟩;exact⟨k,(this k).1 h1,h2⟩
    ·rintro⟨k,h1,h2⟩;exact⟨k,(this k).2 h1,h2⟩
 ·rename_i hd hw;subst hA;have hlg:∀ fp kl,nK ops σ i o fp kl=[]:=λ fp kl=>by unfold nK;rw[hw]
  have hlooks:looks ops σ o=gdT ops o:=by unfold looks;rw[hw]
  have hwt:∀ τ:St,(∀ t∈looks ops σ o,lk τ.env t=lk σ.env t)->kT ops τ.env o=some false:=λ τ h=>by
   rw[pz (env:=σ.env) λ t ht=>h t (KU t ht),hw]
  refine⟨λ x hx=>?_,λ x hx=>?_,.inl rfl,λ L hL=>?_,λ L hL=>?_,λ L hL=>?_,λ x hx=>?_,λ d hd' L hL=>?_,λ t ht v hv L hL=>?_,λ y hy=>?_,λ y hy=>?_,λ x hx=>?_,λ τ he hob=>?_,λ τ he hob hkb x=>?_⟩
  ·rw[hlg] at hx;simp at hx
  ·simp[aH.u] at hx
  ·simp[aH.kl] at hL
  ·simp[aH.kl] at hL
  ·simp[aH.kl] at hL
  ·simp[aH.u] at hx
  ·simp only[aH.gives] at hd';subst hd';simp[jI,pR,kK] at hL
  ·rw[hlooks] at ht;rw[Xr hw t ht v hv] at hL;simp at hL
  ·simp[aH.fp] at hy
  ·simp[aH.fp] at hy
  ·simp[aH.u] at hx
  ·unfold qV;rw[hd,hwt τ he]
  ·rw [hlg];have:nK ops τ i o (aH.val [] (.cl .undef) [] []).fp (aH.val [] (.cl .undef) [] []).kl=[]:=by unfold nK;rw[hwt τ he]
   rw[this]
 ·subst hA;exact hs.elim

theorem Be {lg:List (Nat×Bool)->List Nat->List (Nat×Nat×Nat)}{dst:Option Nat}{d:DV}(t:Nat):lk (nx A lg i dst σ d).env t=if dst=some t then some d else (lk σ.env t).map (fO A.kl):=zib t
theorem wz {lg:List (Nat×Bool)->List Nat->List (Nat×Nat×Nat)}{dst:Option Nat}{d:DV}(L:Nat):lk (nx A lg i dst σ d).aC L=match lk A.u L with | some o=>some o | none=>(lk σ.aC L).map (dX A.kl):=zdb L
theorem sO {lg:List (Nat×Bool)->List Nat->List (Nat×Nat×Nat)}{dst:Option Nat}{d:DV} : (nx A lg i dst σ d).log=lg A.fp A.kl ++ σ.log:=by simp only[nx,St.relog,zic]

theorem zdc (h:xP σ τ) (o:Oper):qV P Γ nt ops τ o=qV P Γ nt ops σ o:=by
 unfold qV;rw[pz (env:=σ.env) λ t _=>(h.env t).symm,show eY τ.env=eY σ.env from funext λ x=>Ba λ t _=>(h.env t).symm,show lk τ.aC=lk σ.aC from funext λ t=>(h.aC t).symm]
theorem zie (h:xP σ τ){fp:List (Nat×Bool)}{kl:List Nat}(x:Nat×Nat×Nat):x∈nK ops σ i o fp kl↔x∈nK ops τ i o fp kl:=by
 unfold nK;rw[pz (env:=σ.env) (env':=τ.env) λ t _=>(h.env t).symm];split
 ·rw [iI, iI, Di (σ := σ) (τ := τ) (fun x _ => Ba fun t _ => (h.env t).symm) (fun y _ => (h.aC y.1).symm)];refine or_congr Iff.rfl (or_congr Iff.rfl (or_congr Iff.rfl ?_));cases kl with
  | nil=>simp[Jw]
  | cons L r =>
   have:∀ k,k∈Jw σ (L :: r)↔k∈Jw τ (L :: r):=λ k=>by rw[vk,vk,h.aC k]
   constructor
   ·rintro⟨k,h1,h2⟩;exact⟨k,(this k).1 h1,h2⟩
   ·rintro⟨k,h1,h2⟩;exact⟨k,(this k).2 h1,h2⟩
 ·exact Iff.rfl

theorem Ef {K : St → Prop} (hK : ∀ σ τ, xP σ τ → K σ → K τ) : ∀ (l : List Nat) (σ τ : St), xP σ τ → uA P Γ nt ops l K σ → uA P Γ nt ops l K τ
  | [],σ,τ,h,hv=>hK σ τ h hv
  | i :: r,σ,τ,h,hv=>by
    simp only[uA] at hv ⊢;split at hv
    · exact Ef hK r σ τ h hv
    · rename_i o ho;rw[jM] at hv ⊢;rw[zdc h];refine⟨hv.1,λ d hd=>Ef hK r _ _ ⟨λ t=>?_,λ L=>?_,λ x=>?_⟩ (hv.2 d hd)⟩
      · rw[Be,Be,h.env]
      · rw[wz,wz,h.aC]
      · rw [sO, sO, dL, dL, h.log x];exact or_congr (zie h x) Iff.rfl

theorem xk {K K':St->Prop}{l l':List Nat}{i:Nat}(hK:∀ σ,uA P Γ nt ops l K σ->uA P Γ nt ops l' K' σ) (hv:uA P Γ nt ops (i :: l) K σ):uA P Γ nt ops (i :: l') K' σ:=by
 simp only[uA] at hv ⊢;split at hv
 ·exact hK _ hv
 ·rw [jM] at hv ⊢;exact⟨hv.1,λ d hd=>hK _ (hv.2 d hd)⟩

theorem MW {K : St → Prop} {R : List (Nat × Nat × Nat) → Prop} (hR : ∀ l m, (∀ x ∈ l, x ∈ m) → R m → R l) (hK : ∀ σ, K σ → R σ.log) : ∀ (l : List Nat) (σ : St), uA P Γ nt ops l K σ → R σ.log
  | [],σ,hv=>hK σ hv
  | i :: r,σ,hv=>by
    simp only[uA] at hv;split at hv
    · exact MW hR hK r σ hv
    · rw [jM] at hv;obtain⟨d,hd⟩:=aH.may_of_safe hv.1;refine hR _ _ (λ x hx=>?_) (MW hR hK r _ (hv.2 d hd));rw[sO];exact dL.2 (.inr hx)

def zi (log:List (Nat×Nat×Nat)) (i j:Nat):Prop:=∀ L k m,(i,L,k)∈log->(j,L,m)∈log->TU k m=false

theorem Gt {l:List Nat}{x:Option DV}(h:∀ v,x=some v->∀ L∈jI v,L ∉ l):x.map (fO l)=x:=by
 cases x with
 | none=>rfl
 | some v=>simp only[Option.map_some];rw[Gq (h v rfl)]
theorem Gu {l:List Nat}{x:Option AO}(h:∀ v,x=some v->∀ L∈mg v,L ∉ l):x.map (dX l)=x:=by
 cases x with
 | none=>rfl
 | some v=>simp only[Option.map_some];rw[Gs (h v rfl)]

theorem zdd {a b:Oper}(h:ET ops a b=false):(∀ t∈qc ops b,a.dst ≠ some t)/\(∀ t∈qc ops a,b.dst ≠ some t)/\∀ t,a.dst=some t->b.dst ≠ some t:=by
 simp only[ET,Bool.or_eq_false_iff] at h;obtain⟨⟨h1,h2⟩,h3⟩:=h;refine⟨λ t ht e=>?_,λ t ht e=>?_,λ t e e'=>?_⟩
 ·rw [e] at h1; simp only [meets] at h1;have:(qc ops b).contains t=true:=by simpa using ht
  rw[this] at h1;cases h1
 ·rw [e] at h2; simp only [meets] at h2;have:(qc ops a).contains t=true:=by simpa using ht
  rw[this] at h2;cases h2
 ·rw [e, e'] at h3; simp only [WH] at h3;rw[show Nat.beq t t=true from by simp] at h3;cases h3

theorem zde {K : St → Prop} {i j : Nat} {oi oj : Oper} {r : List Nat} (hi : ops[i]? = some oi) (hj : ops[j]? = some oj) (hT : ET ops oi oj = false)
    (hE:∀ τ τ',xP τ τ'->uA P Γ nt ops r K τ->uA P Γ nt ops r K τ') (hN:∀ τ,uA P Γ nt ops r K τ->zi τ.log i j)
    (h:uA P Γ nt ops (i :: j :: r) K σ):uA P Γ nt ops (j :: i :: r) K σ:=by
  obtain⟨cT1,cT2,cT3⟩:=zdd hT;simp only[uA,hi,hj] at h ⊢;rw[jM] at h;obtain⟨hsA,hA⟩:=h;generalize hAe:qV P Γ nt ops σ oi=A at hsA hA;have LA:=Qz (i:=i) hAe hsA
  -- the second operation behind the first: az before it
  have key:∀ d,A.may d->∃ B,qV P Γ nt ops (nx A (nK ops σ i oi) i oi.dst σ d) oj=B/\B.safe /\
      (∀ e,B.may e->uA P Γ nt ops r K (nx B (nK ops (nx A (nK ops σ i oi) i oi.dst σ d) j oj) j oj.dst (nx A (nK ops σ i oi) i oi.dst σ d) e)) /\
      zi (nK ops (nx A (nK ops σ i oi) i oi.dst σ d) j oj B.fp B.kl ++ (nK ops σ i oi A.fp A.kl)) i j:=by
    intro d hd;have h2:=hA d hd;rw[jM] at h2;obtain⟨hsB,hB⟩:=h2;refine⟨_,rfl,hsB,hB,?_⟩;obtain⟨e,he⟩:=aH.may_of_safe hsB;have:=hN _ (hB e he);rw[sO,sO] at this;intro L k m hk hm;refine this L k m ?_ ?_
    · rcases dL.1 hk with h | h
      · exact dL.2 (.inl h)
      · exact dL.2 (.inr (dL.2 (.inl h)))
    · rcases dL.1 hm with h | h
      · exact dL.2 (.inl h)
      · exact dL.2 (.inr (dL.2 (.inl h)))
  have main:∀ d,A.may d->∀ B,qV P Γ nt ops (nx A (nK ops σ i oi) i oi.dst σ d) oj=B->B.safe ->
      (∀ e,B.may e->uA P Γ nt ops r K (nx B (nK ops (nx A (nK ops σ i oi) i oi.dst σ d) j oj) j oj.dst (nx A (nK ops σ i oi) i oi.dst σ d) e)) ->
      zi (nK ops (nx A (nK ops σ i oi) i oi.dst σ d) j oj B.fp B.kl ++ (nK ops σ i oi A.fp A.kl)) i j ->
      qV P Γ nt ops σ oj=B/\∀ e,B.may e->qV P Γ nt ops (nx B (nK ops σ j oj) j oj.dst σ e) oi=A /\
        uA P Γ nt ops r K (nx A (nK ops (nx B (nK ops σ j oj) j oj.dst σ e) i oi) i oi.dst (nx B (nK ops σ j oj) j oj.dst σ e) d):=by
    intro d hd B hBe hsB hB hno;generalize hσ1:nx A (nK ops σ i oi) i oi.dst σ d=σ1 at hBe hB hno;have LB:=Qz (i:=j) hBe hsB;have no:∀ L k m,(i,L,k)∈nK ops σ i oi A.fp A.kl->(j,L,m)∈nK ops σ1 j oj B.fp B.kl->TU k m=true->False:=λ L k m h1 h2 hc=>by
      have:=hno L k m (dL.2 (.inr h1)) (dL.2 (.inl h2));rw[this] at hc;cases hc
    have zxF:∀ t,lk σ1.env t=if oi.dst=some t then some d else (lk σ.env t).map (fO A.kl):=λ t=>by rw[<- hσ1,Be]
    have zdf:∀ L,lk σ1.aC L=match lk A.u L with | some o=>some o | none=>(lk σ.aC L).map (dX A.kl):=λ L=>by rw[<- hσ1,wz]
    -- what the second looks at, the first has not changed
    have zxG:∀ t∈looks ops σ1 oj,lk σ.env t=lk σ1.env t:=by
      intro t ht;have e:=zxF t;rw[if_neg (cT1 t (KT t ht))] at e;rw[e];refine (Gt λ v hv L hL hk=>?_).symm;rw[hv,Option.map_some] at e;exact no L 3 2 (LA.kl3 L hk) (LB.see t ht _ e L (by rw[zia];exact hL)) rfl
    have fpB:∀ y∈B.fp,lk σ.aC y.1=lk σ1.aC y.1:=by
      intro y hy;have e:=zdf y.1;have hn:lk A.u y.1=none:=by
        cases hu:lk A.u y.1 with
        | none=>rfl
        | some o' =>
          have h1:=LA.wr _ (eu hu);rcases LB.fpt y hy with h2 | h2
          · exact (no _ _ _ h1 h2 rfl).elim
          · exact (no _ _ _ h1 h2 rfl).elim
      rw[hn] at e;simp only at e;rw[e];refine (Gu λ v hv L hL hk=>?_).symm;rw[hv,Option.map_some] at e;exact no L 3 2 (LA.kl3 L hk) (LB.fpm y hy _ e L (by rw[MV];exact hL)) rfl
    have hBσ:=LB.congr σ zxG fpB;refine⟨hBσ,λ e he=>?_⟩;generalize hσ1':nx B (nK ops σ j oj) j oj.dst σ e=σ1';have zmL:∀ t,lk σ1'.env t=if oj.dst=some t then some e else (lk σ.env t).map (fO B.kl):=λ t=>by rw[<- hσ1',Be]
    have UF:∀ L,lk σ1'.aC L=match lk B.u L with | some o=>some o | none=>(lk σ.aC L).map (dX B.kl):=λ L=>by rw[<- hσ1',wz]
    have zxH:∀ t∈looks ops σ oi,lk σ1'.env t=lk σ.env t:=by
      intro t ht;rw[zmL,if_neg (cT2 t (KT t ht))];exact Gt λ v hv L hL hk=>no L 2 3 (LA.see t ht v hv L hL) (LB.kl3 L hk) rfl
    have uB:∀ y∈A.fp,lk B.u y.1=none:=by
      intro y hy;cases hu:lk B.u y.1 with
      | none=>rfl
      | some o' =>
        have h1:=LB.wr _ (eu hu);rcases LA.fpt y hy with h2 | h2
        · exact (no _ _ _ h2 h1 rfl).elim
        · exact (no _ _ _ h2 h1 rfl).elim
    have fpA:∀ y∈A.fp,lk σ1'.aC y.1=lk σ.aC y.1:=by
      intro y hy;rw[UF,uB y hy];exact Gu λ v hv L hL hk=>no L 2 3 (LA.fpm y hy v hv L hL) (LB.kl3 L hk) rfl
    have hAσ:=LA.congr σ1' zxH fpA;refine⟨hAσ,hE _ _ ⟨λ t=>?_,λ L=>?_,λ x=>?_⟩ (hB e he)⟩
    · -- the temporaries
      rw[Be,Be,zxF,zmL];by_cases h1:oj.dst=some t
      · rw [if_pos h1, if_pos h1, if_neg fun h2 => cT3 t h2 h1, Option.map_some, Gq fun L hL hk => ?_];rcases LB.labd e he L hL with h3 | h3
        · exact no L 3 2 (LA.kl3 L hk) h3 rfl
        · exact no L 1 1 (LA.kl1 L hk) h3 rfl
      · rw [if_neg h1, if_neg h1];by_cases h2:oi.dst=some t
        · rw [if_pos h2, if_pos h2, Option.map_some, Gq fun L hL hk => ?_];rcases LA.labd d hd L hL with h3 | h3
          · exact no L 2 3 h3 (LB.kl3 L hk) rfl
          · exact no L 1 1 h3 (LB.kl1 L hk) rfl
        · rw [if_neg h2, if_neg h2];cases lk σ.env t with
          | none=>rfl
          | some v=>simp only[Option.map_some];rw[UD]
    · -- the objects
      rw[wz,wz,zdf,UF];cases hb:lk B.u L with
      | some ob =>
        cases ha:lk A.u L with
        | some oa=>exact (no L 1 1 (LA.wr _ (eu ha)) (LB.wr _ (eu hb)) rfl).elim
        | none =>
          simp only[Option.map_some];rw[Gs λ M hM hk=>no M 3 2 (LA.kl3 M hk) (LB.labu _ (eu hb) M hM) rfl]
      | none =>
        cases ha:lk A.u L with
        | some oa =>
          simp only[Option.map_some];rw[Gs λ M hM hk=>no M 2 3 (LA.labu _ (eu ha) M hM) (LB.kl3 M hk) rfl]
        | none =>
          simp only;cases lk σ.aC L with
          | none=>rfl
          | some v=>simp only[Option.map_some];rw[UE]
    · -- the log
      rw[sO,sO];have l1:σ1.log=nK ops σ i oi A.fp A.kl ++ σ.log:=by rw[<- hσ1,sO]
      have l2:σ1'.log=nK ops σ j oj B.fp B.kl ++ σ.log:=by rw[<- hσ1',sO]
      rw[l1,l2];have e1:x∈nK ops σ j oj B.fp B.kl↔x∈nK ops σ1 j oj B.fp B.kl:=by
        refine LB.logc σ zxG fpB (λ L hL k=>?_) x;rw[zdf];cases ha:lk A.u k with
        | some oa =>
          simp only[bP];constructor
          · rintro ⟨o', ho, hL'⟩;exact (no L 2 3 (LA.fpm _ (LA.wfp _ (eu ha)) o' ho L hL') (LB.kl3 L hL) rfl).elim
          · rintro ⟨o', rfl, hL'⟩;exact (no L 2 3 (LA.labu _ (eu ha) L hL') (LB.kl3 L hL) rfl).elim
        | none =>
          simp only;cases lk σ.aC k with
          | none=>simp
          | some v=>simp[MV]
      have e2:x∈nK ops σ1' i oi A.fp A.kl↔x∈nK ops σ i oi A.fp A.kl:=by
        refine LA.logc σ1' zxH fpA (λ L hL k=>?_) x;rw[UF];cases hb:lk B.u k with
        | some ob =>
          simp only[bP];constructor
          · rintro ⟨o', rfl, hL'⟩;exact (no L 3 2 (LA.kl3 L hL) (LB.labu _ (eu hb) L hL') rfl).elim
          · rintro ⟨o', ho, hL'⟩;exact (no k 1 1 (LA.kb L hL k o' ho hL') (LB.wr _ (eu hb)) rfl).elim
        | none =>
          simp only;cases lk σ.aC k with
          | none=>simp
          | some v=>simp[MV]
      simp only[dL];rw[e1,e2,<- or_assoc,<- or_assoc];exact or_congr (or_comm) Iff.rfl
  rw[jM];obtain⟨d0,hd0⟩:=aH.may_of_safe hsA;obtain⟨B,hBe,hsB,hB,hno⟩:=key d0 hd0;obtain⟨hBσ,hrest⟩:=main d0 hd0 B hBe hsB hB hno;rw[hBσ];refine⟨hsB,λ e he=>?_⟩;rw[jM];rw[(hrest e he).1];refine⟨hsA,λ d hd=>?_⟩;obtain⟨B',zFg,hsB',hB',hno'⟩:=key d hd;obtain⟨zFh,hrest'⟩:=main d hd B' zFg hsB' hB' hno';have hBB:B'=B:=zFh.symm.trans hBσ;subst hBB;exact (hrest' e he).2

end
end Go.Pm
