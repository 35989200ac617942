/- Part 2 of what the proof rests on: a machine that runs functions of the program on pure values, proved sound; the functions that the law reaches, and what they compute. -/
import Derived.Test.YtldchibepobgnaaQ1
import Derived.Laws.AppendOwnNone
import Derived.Laws.Slices
import Derived.Laws.OwnMore
set_option linter.all false
namespace Go.Pm
variable [DrawZ]
open Go.RowKit (Below)

section
variable {P:Program}{Γ:Ctrs}{nt B:Nat}{w0:World}{h0:Fz}{g:Gh}{σ:St}{a:Act}{w:World}{r:Option Nat}{n i:Nat}{Q:Exit->Act->World->Prop}

theorem zpY {o : Oper} {x : Operand} {A : OpAct} (S : Sim P nt B w0 h0 g σ a w) (hd : zck nt o.dst = true) (hop : o.op = .nilCheck x)
    (hA:act P Γ o (evO σ.env) (lk σ.objs)=A) (hs:A.safe):zfi P nt B w0 h0 r n i o A σ a w Q:=by
  simp only[act,hop] at hA
  split at hA
  · rename_i L off hx
    subst hA
    obtain⟨h1,h2⟩:=zbr S hx
    refine zaX S hd (by simp[hop]) (v:=a.eval x) (fp:=[]) rfl ?_ h1 h2
    simp only[clR] at h1
    simp[execOp,hop,h1]
  · rename_i c off hx
    subst hA
    obtain⟨h1,h2⟩:=zbr S hx
    refine zaX S hd (by simp[hop]) (v:=a.eval x) (fp:=[]) rfl ?_ h1 h2
    obtain⟨b,o',C,ty,fr,hv,_⟩:=zlc h1
    simp[execOp,hop,hv]
  · rename_i L s ii k hx
    subst hA
    obtain⟨h1,h2⟩:=zbr S hx
    refine zaX S hd (by simp[hop]) (v:=a.eval x) (fp:=[]) rfl ?_ h1 h2
    obtain⟨b,_,hv⟩:=h1
    simp[execOp,hop,hv]
  · rename_i L s ii jj k hx
    subst hA
    obtain⟨h1,h2⟩:=zbr S hx
    refine zaX S hd (by simp[hop]) (v:=a.eval x) (fp:=[]) rfl ?_ h1 h2
    obtain⟨b,_,hv⟩:=h1
    simp[execOp,hop,hv]
  · rename_i hx
    subst hA
    obtain⟨h1,h2⟩:=zbr S hx
    refine zaX S hd (by simp[hop]) (v:=a.eval x) (fp:=[]) rfl ?_ h1 h2
    obtain⟨_,hv⟩:=h1
    simp[execOp,hop,hv]
  · rename_i hx
    subst hA
    obtain⟨h1,h2⟩:=zbr S hx
    refine zaX S hd (by simp[hop]) (v:=a.eval x) (fp:=[]) rfl ?_ h1 h2
    obtain⟨_,b,_,hv⟩:=h1
    simp[execOp,hop,hv]
  · rename_i hx
    subst hA
    obtain⟨h1,h2⟩:=zbr S hx
    refine zaX S hd (by simp[hop]) (v:=a.eval x) (fp:=[]) rfl ?_ h1 h2
    obtain⟨b,o',C,ty,fr,hv,_⟩:=zlc h1.2
    simp[execOp,hop,hv]
  · exact dq9 hA hs

theorem zcH {op:BinOp}{t:TypeId}{x y:Operand}{p q:Option Addr}{m c m' c':Nat} : (eqGuard op t x y (.slice p m c) (.slice q m' c')).run P w=.ok () w:=by
 unfold eqGuard;cases op <;> rfl

theorem zhR {op:BinOp}{t:TypeId}{x y:Operand}{k k':IntKind}{p q:Int} : (eqGuard op t x y (.int k p) (.int k' q)).run P w=.ok () w:=by
 unfold eqGuard;cases op <;> rfl
theorem zhn {op:BinOp}{t:TypeId}{x y:Operand}{p q:Bool} : (eqGuard op t x y (.bool p) (.bool q)).run P w=.ok () w:=by
 unfold eqGuard;cases op <;> rfl

theorem zwx {o : Oper} {op : BinOp} {t t' : TypeId} {x y : Operand} {A : OpAct} (S : Sim P nt B w0 h0 g σ a w) (hd : zck nt o.dst = true) (hop : o.op = .binOp op t x y t')
    (hA:act P Γ o (evO σ.env) (lk σ.objs)=A) (hs:A.safe):zfi P nt B w0 h0 r n i o A σ a w Q:=by
  simp only[act,hop] at hA
  split at hA
  · rename_i k p k' q hx hy
    have h1:=zdw S hx
    have h2:=zdw S hy
    split at hA
    · rename_i hk
      subst hk
      have fin:∀ (v:PV) (u:Value) (A:OpAct),zfL A i o.dst σ (σ.upd i o.dst [] (.p v) [] [])->(binOp op t (.int k p) (.int k q)).run P w=.ok u w->Rep g.h v u->zfi P nt B w0 h0 r n i o A σ a w Q:=by
        intro v u A hA hrun hr
        refine zaX S hd (by simp[hop]) (d:=.p v) (v:=u) (fp:=[]) hA ?_ hr (zd1 v)
        simp only[execOp,hop,h1,h2,dqd,zhR,dqb,hrun,dqe]
      unfold zvX at hA
      split at hA <;> subst hA
      · have hq : 0 ≤ q := hs
        exact fin _ _ (.chk _ _ _ _ _) rfl (by simp[binOp,Op.shift,Int.not_lt.2 hq,zvQ]) (.int _ _)
      · have hq : 0 ≤ q := hs
        exact fin _ _ (.chk _ _ _ _ _) rfl (by simp[binOp,Op.shift,Int.not_lt.2 hq,ztA]) (.int _ _)
      · exact fin _ _ _ rfl (by simp[binOp,Op.intBits,zu3]) (.int _ _)
      · exact fin _ _ _ rfl (by simp[binOp,Op.intBits,orW]) (.int _ _)
      · exact fin _ _ _ rfl (by simp[binOp,Op.intBits,zQa]) (.int _ _)
      · exact fin _ _ _ rfl (by simp[binOp,Op.intBits,zvW]) (.int _ _)
      · exact fin _ _ _ rfl (by simp[binOp,Op.intArith]) (.int _ _)
      · exact fin _ _ _ rfl (by simp[binOp,Op.intArith]) (.int _ _)
      · exact fin _ _ _ rfl (by simp[binOp,Op.intArith]) (.int _ _)
      · have hq : q ≠ 0 := hs
        exact fin _ _ (.chk _ _ _ _ _) rfl (by simp[binOp,Op.intDiv,hq]) (.int _ _)
      · have hq : q ≠ 0 := hs
        exact fin _ _ (.chk _ _ _ _ _) rfl (by simp[binOp,Op.intDiv,hq]) (.int _ _)
      · exact fin _ _ _ rfl (by simp[binOp,Op.intCmp]) (.bool _)
      · exact fin _ _ _ rfl (by simp[binOp,Op.intCmp]) (.bool _)
      · exact fin _ _ _ rfl (by simp[binOp,Op.intCmp]) (.bool _)
      · exact fin _ _ _ rfl (by simp[binOp,Op.intCmp]) (.bool _)
      · exact fin _ _ _ rfl (by simp[binOp,Op.intCmp]) (.bool _)
      · exact fin _ _ _ rfl (by simp[binOp,Op.intCmp]) (.bool _)
    · have fin:∀ (v:PV) (u:Value) (A:OpAct),zfL A i o.dst σ (σ.upd i o.dst [] (.p v) [] [])->(binOp op t (.int k p) (.int k' q)).run P w=.ok u w->Rep g.h v u->zfi P nt B w0 h0 r n i o A σ a w Q:=by
        intro v u A hA hrun hr
        refine zaX S hd (by simp[hop]) (d:=.p v) (v:=u) (fp:=[]) hA ?_ hr (zd1 v)
        simp only[execOp,hop,h1,h2,dqd,zhR,dqb,hrun,dqe]
      unfold zFD at hA
      split at hA <;> subst hA
      · have hq : 0 ≤ q := hs
        exact fin _ _ (.chk _ _ _ _ _) rfl (by simp[binOp,Op.shift,Int.not_lt.2 hq,zvQ]) (.int _ _)
      · have hq : 0 ≤ q := hs
        exact fin _ _ (.chk _ _ _ _ _) rfl (by simp[binOp,Op.shift,Int.not_lt.2 hq,ztA]) (.int _ _)
      · exact hs.elim
  · rename_i p q hx hy
    have h1:=zis S hx
    have h2:=zis S hy
    have hrun:P.underlying t=some .bool->(Op.equal t (.bool p) (.bool q)).run P w=.ok (p == q) w:=by
      intro ht
      unfold Op.equal
      rw[show Op.maxDepth=9999+1 from rfl,Op.equalIn]
      simp only[dqd,run_underlying ht,dqb,dqe]
    split at hA <;> (try rename_i ht _) <;> subst hA
    · refine zaX S hd (by simp [hop]) (d := .bool (p == q)) (v := .bool (p == q)) (fp := []) rfl ?_ (.bool _) (zd1 _)
      simp only[execOp,hop,h1,h2,dqd,zhn,dqb,binOp,hrun ‹_›,dqe]
    · refine zaX S hd (by simp [hop]) (d := .bool (p != q)) (v := .bool (p != q)) (fp := []) rfl ?_ (.bool _) (zd1 _)
      simp only[execOp,hop,h1,h2,dqd,zhn,dqb,binOp,hrun ‹_›,dqe]
      rfl
    · exact hs.elim
  · rename_i cs ds hx hy
    exact zKr S hd hop hx hy hA hs
  · rename_i m s get hx hy
    have h2:=zcK S hy
    generalize hvy:a.eval y=vy at h2
    cases h2
    have h1:=zcK S hx
    obtain⟨ad,c,hvx,had⟩:∃ (ad:Option Addr) (c:Nat),a.eval x=.slice ad m c/\(m ≠ 0->ad.isNone=false):=by
      generalize a.eval x=vx at h1
      cases h1 with
      | sl0=>exact⟨none,0,rfl,λ h=>absurd rfl h⟩
      | sle _ _ a c=>exact⟨some a,c,rfl,λ h=>absurd rfl h⟩
      | sl _ _ _ b o cap=>exact⟨some _,cap,rfl,λ _=>rfl⟩
    have hrun:∀ e,P.underlying t=some (.slice e)->(Op.equal t (.slice ad m c) (.slice none 0 0)).run P w=.ok ad.isNone w:=by
      intro e ht
      unfold Op.equal
      rw[show Op.maxDepth=9999+1 from rfl,Op.equalIn]
      simp only[dqd,run_underlying ht,dqb]
      cases ad <;> simp
    split at hA <;> (try rename_i ht) <;> subst hA
    · refine zaX S hd (by simp [hop]) (d := .bool ad.isNone) (v := .bool ad.isNone) (fp := []) ⟨ad.isNone, had, rfl⟩ ?_ (.bool _) (zd1 _)
      simp only[execOp,hop,hvx,hvy,dqd,zcH,dqb,binOp,hrun _ ‹_›,dqe]
    · refine zaX S hd (by simp [hop]) (d := .bool (!ad.isNone)) (v := .bool (!ad.isNone)) (fp := []) ⟨!ad.isNone, fun h => by rw [had h]; rfl, rfl⟩ ?_ (.bool _) (zd1 _)
      simp only[execOp,hop,hvx,hvy,dqd,zcH,dqb,binOp,hrun _ ‹_›,dqe]
    · exact hs.elim
  · rename_i bb m s get hx hy
    have h2:=zcK S hy
    generalize hvy:a.eval y=vy at h2
    cases h2
    have h1:=zcK S hx
    obtain⟨ad,c,hvx,had⟩:∃ (ad:Option Addr) (c:Nat),a.eval x=.slice ad m c/\(bb=true\/m ≠ 0->ad.isNone=bb):=by
      generalize a.eval x=vx at h1
      cases h1 with
      | nsT=>exact⟨none,0,rfl,λ _=>rfl⟩
      | nsF _ _ _ _ r =>
        cases r with
        | sl0=>exact⟨none,0,rfl,λ h=>by simp at h⟩
        | sle _ _ a c=>exact⟨some a,c,rfl,λ h=>by simp at h⟩
        | sl _ _ _ b o cap=>exact⟨some _,cap,rfl,λ _=>rfl⟩
    have hrun:∀ e,P.underlying t=some (.slice e)->(Op.equal t (.slice ad m c) (.slice none 0 0)).run P w=.ok ad.isNone w:=by
      intro e ht
      unfold Op.equal
      rw[show Op.maxDepth=9999+1 from rfl,Op.equalIn]
      simp only[dqd,run_underlying ht,dqb]
      cases ad <;> simp
    split at hA <;> (try rename_i ht) <;> subst hA
    · refine zaX S hd (by simp [hop]) (d := .bool bb) (v := .bool bb) (fp := []) (A := .chk _ _ _ _ _) rfl ?_ (.bool _) (zd1 _)
      simp only[execOp,hop,hvx,hvy,dqd,zcH,dqb,binOp,hrun _ ‹_›,had hs,dqe]
    · refine zaX S hd (by simp [hop]) (d := .bool (!bb)) (v := .bool (!bb)) (fp := []) (A := .chk _ _ _ _ _) rfl ?_ (.bool _) (zd1 _)
      simp only[execOp,hop,hvx,hvy,dqd,zcH,dqb,binOp,hrun _ ‹_›,had hs,dqe]
    · exact hs.elim
  · rename_i hx hy
    have h2:=zcK S hy
    generalize hvy:a.eval y=vy at h2
    cases h2
    have h1:=zcK S hx
    generalize hvx:a.eval x=vx at h1
    cases h1
    have hrun:∀ e,P.underlying t=some (.slice e)->(Op.equal t (.slice none 0 0) (.slice none 0 0)).run P w=.ok true w:=by
      intro e ht
      unfold Op.equal
      rw[show Op.maxDepth=9999+1 from rfl,Op.equalIn]
      simp only[dqd,run_underlying ht,dqb]
      simp
    split at hA <;> (try rename_i ht) <;> subst hA
    · refine zaX S hd (by simp [hop]) (d := .bool true) (v := .bool true) (fp := []) rfl ?_ (.bool _) (zd1 _)
      simp only[execOp,hop,hvx,hvy,dqd,zcH,dqb,binOp,hrun _ ‹_›,dqe]
    · refine zaX S hd (by simp [hop]) (d := .bool false) (v := .bool false) (fp := []) rfl ?_ (.bool _) (zd1 _)
      simp only[execOp,hop,hvx,hvy,dqd,zcH,dqb,binOp,hrun _ ‹_›,dqe]
      rfl
    · exact hs.elim
  · exact dq9 hA hs

theorem zCU {o : Oper} {op : UnOp} {t : TypeId} {x : Operand} {A : OpAct} (S : Sim P nt B w0 h0 g σ a w) (hd : zck nt o.dst = true) (hop : o.op = .unOp op t x)
    (hA:act P Γ o (evO σ.env) (lk σ.objs)=A) (hs:A.safe):zfi P nt B w0 h0 r n i o A σ a w Q:=by
  simp only[act,hop] at hA
  split at hA
  · rename_i p hx
    subst hA
    have h1:=zis S hx
    refine zaX S hd (by simp[hop]) (d:=.bool (!p)) (v:=.bool (!p)) (fp:=[]) rfl ?_ (.bool _) (zd1 _)
    simp[execOp,hop,h1,Op.unary]
  · rename_i k p hx
    subst hA
    have h1:=zdw S hx
    refine zaX S hd (by simp[hop]) (d:=.p (.int k (k.wrap (0 - p)))) (v:=.int k (k.wrap (0 - p))) (fp:=[]) rfl ?_ (.int _ _) (zd1 _)
    simp only[execOp,hop,h1,Op.unary,Op.intArith,dqd,dqe,dqb]
  · exact dq9 hA hs

theorem zoJ {o : Oper} {t : TypeId} {x : Operand} {f : Nat} {A : OpAct} (S : Sim P nt B w0 h0 g σ a w) (hd : zck nt o.dst = true) (hop : o.op = .fieldAddr t x f)
    (hA:act P Γ o (evO σ.env) (lk σ.objs)=A) (hs:A.safe):zfi P nt B w0 h0 r n i o A σ a w Q:=by
  simp only[act,hop] at hA
  split at hA
  · rename_i off hoff
    have fin:∀ (b o':Nat) (c:Cl) (A:OpAct),a.eval x=.pointer (some ⟨b,o',none⟩)->zfL A i o.dst σ (σ.upd i o.dst [] (.cl c) [] [])->clR g c (.pointer (some ⟨b,o'+off,none⟩)) ->
        (∀ L∈zaE c,∃ o,lk σ.objs L=some o)->zfi P nt B w0 h0 r n i o A σ a w Q:=by
      intro b o' c A hv hA hc hl
      refine zaX S hd (by simp[hop]) (d:=.cl c) (v:=.pointer (some ⟨b,o'+off,none⟩)) (fp:=[]) hA ?_ hc hl
      simp only[execOp,hop,dqd,hv,zrg hoff,dqb,dqe]
    split at hA
    · rename_i L k hx
      subst hA
      obtain⟨h1,h2⟩:=zbr S hx
      exact fin _ _ _ _ h1 rfl rfl h2
    · rename_i c k hx
      subst hA
      obtain⟨h1,h2⟩:=zbr S hx
      obtain⟨b,o',C,ty,fr,hv,hb,hc⟩:=zlc h1
      refine fin b (o'+k) _ _ hv rfl ?_ h2
      rw[Nat.add_assoc]
      exact zku hb hc (k+off)
    · rename_i L s ii k hx
      subst hA
      obtain⟨h1,h2⟩:=zbr S hx
      obtain⟨b,hb,hv⟩:=h1
      refine fin b (ii * s+k) _ _ hv rfl ⟨b,hb,?_⟩ h2
      rw[Nat.add_assoc]
    · rename_i L s ii jj k hx
      subst hA
      obtain⟨h1,h2⟩:=zbr S hx
      obtain⟨b,hb,hv⟩:=h1
      refine fin b (jj * s+k) _ _ hv rfl ⟨b,hb,?_⟩ h2
      rw[Nat.add_assoc]
    · rename_i L b m' n' j c hx
      subst hA
      obtain⟨h1,h2⟩:=zbr S hx
      obtain⟨hj,hv⟩:=h1
      refine fin _ (b+j * n'+c) _ _ hv rfl ⟨hj,?_⟩ h2
      rw[Nat.add_assoc (b+j * n')]
    · rename_i L s ii b m' n' j c hx
      subst hA
      obtain⟨h1,h2⟩:=zbr S hx
      obtain⟨hj,k,hb,hv⟩:=h1
      refine fin k (ii * s+(b+j * n'+c)) _ _ hv rfl ⟨hj,k,hb,?_⟩ h2
      rw[Nat.add_assoc (ii * s),Nat.add_assoc (b+j * n')]
    · rename_i cells b m' n' j c hx
      subst hA
      obtain⟨h1,h2⟩:=zbr S hx
      obtain⟨b',o',C,ty,fr,hv,hb,hc⟩:=zlc h1.2
      refine fin b' (o'+(b+j * n'+c)) _ _ hv rfl ⟨h1.1,?_⟩ h2
      rw[Nat.add_assoc o',Nat.add_assoc (b+j * n')]
      exact zku hb hc _
    · exact dq9 hA hs
  · exact dq9 hA hs

theorem zoK {o : Oper} {t : TypeId} {x y : Operand} {A : OpAct} (S : Sim P nt B w0 h0 g σ a w) (hd : zck nt o.dst = true) (hop : o.op = .indexAddr t x y)
    (hA:act P Γ o (evO σ.env) (lk σ.objs)=A) (hs:A.safe):zfi P nt B w0 h0 r n i o A σ a w Q:=by
  simp only[act,hop] at hA
  split at hA
  · rename_i e hu
    split at hA
    · rename_i m k j hsz hy
      have hj:=zdw S hy
      split at hA
      · rename_i len s get hx
        split at hA
        · rename_i hsm
          subst hsm
          subst hA
          have hs':0<=j/\j < (len:Int):=hs
          have hlt:j.toNat < len:=by omega
          obtain⟨b,o',cap,C,ty,fr,hv,hb,hlen,hel⟩:=zrl (zcK S hx) hlt
          refine zaX S hd (by simp[hop]) (d:=.p (.fp (get j.toNat) 0)) (v:=.pointer (some ⟨b,o'+j.toNat * s,none⟩)) (fp:=[]) (A:=.chk _ _ _ _ _) rfl ?_ ?_ (zd1 _)
          · simp only[execOp,hop,dqd,hv,hj,run_indexAt_slice hu hsz hs'.1 hs'.2,dqb,dqe]
          · exact zku hb hel 0
        · exact dq9 hA hs
      · rename_i L hx
        obtain⟨h1,h2⟩:=zbr S hx
        split at hA
        · rename_i e' s by' len get hL
          split at hA
          · rename_i hsm
            subst hsm
            subst hA
            have hs':0<=j/\j < (len:Int):=hs
            have hlt:j.toNat < len:=by omega
            obtain⟨b,C,hob,⟨cap,hsv⟩,hC,_,hlen,hel⟩:=zf5 (S.obj L _ hL) hlt
            refine zaX S hd (by simp[hop]) (d:=.cl (.vptr L s j.toNat 0)) (v:=.pointer (some ⟨b,0+j.toNat * s,none⟩)) (fp:=_) (A:=.chk _ _ _ _ _) rfl ?_ ?_ h2
            · simp only[execOp,hop,dqd,h1.1,hsv,hj,run_indexAt_slice hu hsz hs'.1 hs'.2,dqb,dqe]
            · refine ⟨b, hob, ?_⟩
              simp
          · exact dq9 hA hs
        · rename_i s len get hL
          split at hA
          · rename_i hsm
            subst hsm
            subst hA
            have hs':0<=j/\j < (len:Int):=hs
            have hlt:j.toNat < len:=by omega
            obtain⟨b,o',cap,C,ty,fr,hv,hb,hlen,hel⟩:=zrl (S.obj L _ hL).1 hlt
            refine zaX S hd (by simp[hop]) (d:=.p (.fp (get j.toNat) 0)) (v:=.pointer (some ⟨b,o'+j.toNat * s,none⟩)) (fp:=_) (A:=.chk _ _ _ _ _) rfl ?_ ?_ (zd1 _)
            · simp only[execOp,hop,dqd,h1.1,hv,hj,run_indexAt_slice hu hsz hs'.1 hs'.2,dqb,dqe]
            · exact zku hb hel 0
          · exact dq9 hA hs
        · rename_i te bb e' s by' len ln get hL
          split at hA
          · rename_i hsm
            subst hsm
            subst hA
            have hs':0<=j/\j < (len:Int):=hs
            have hlt:j.toNat < len:=by omega
            obtain⟨b,C,cap,hsv,hC,_,_⟩:=zoB (S.obj L _ hL) hlt
            refine zaX S hd (by simp[hop]) (d:=.cl (.vptr L 1 j.toNat 0)) (v:=.pointer (some ⟨b,0+j.toNat * 1,none⟩)) (fp:=_) (A:=.chk _ _ _ _ _) rfl ?_ ?_ h2
            · simp only[execOp,hop,dqd,h1.1,hsv,hj,run_indexAt_slice hu hsz hs'.1 hs'.2,dqb,dqe]
            · refine ⟨b, by rw [hsv]; rfl, ?_⟩
              simp
          · exact dq9 hA hs
        · rename_i te bb kt vt q len mk nn F hL
          split at hA
          · rename_i hsm
            subst hsm
            subst hA
            have hs':0<=j/\j < (len:Int):=hs
            have hlt:j.toNat < len:=by omega
            obtain⟨b,C,cap,hsv,hC,_,_⟩:=zoC (S.obj L _ hL) hlt
            refine zaX S hd (by simp[hop]) (d:=.cl (.vptr L 1 j.toNat 0)) (v:=.pointer (some ⟨b,0+j.toNat * 1,none⟩)) (fp:=_) (A:=.chk _ _ _ _ _) rfl ?_ ?_ h2
            · simp only[execOp,hop,dqd,h1.1,hsv,hj,run_indexAt_slice hu hsz hs'.1 hs'.2,dqb,dqe]
            · refine ⟨b, by rw [hsv]; rfl, ?_⟩
              simp
          · exact dq9 hA hs
        · exact dq9 hA hs
      · rename_i L ii hx
        obtain⟨h1,h2⟩:=zbr S hx
        split at hA
        · rename_i te bb e' s by' len ln get hL
          split at hA
          · rename_i hsm
            subst hsm
            subst hA
            have hs':ii < len/\0<=j/\j < (ln ii:Int):=hs
            have hlt:j.toNat < ln ii:=by omega
            obtain⟨b,C,hob,⟨cap,hsv⟩,hC,_,_,_⟩:=zoD (S.obj L _ hL) hs'.1 hlt
            refine zaX S hd (by simp[hop]) (d:=.cl (.iptr L s ii j.toNat 0)) (v:=.pointer (some ⟨b,0+j.toNat * s,none⟩)) (fp:=_) (A:=.chk _ _ _ _ _) rfl ?_ ?_ h2
            · simp only[execOp,hop,dqd,h1.1,hsv,hj,run_indexAt_slice hu hsz hs'.2.1 hs'.2.2,dqb,dqe]
            · refine ⟨b, hob, ?_⟩
              simp
          · exact dq9 hA hs
        · exact dq9 hA hs
      · exact dq9 hA hs
    · exact dq9 hA hs
  · rename_i m e hu
    exact zpU S hd hop hu hA hs
  · exact dq9 hA hs

theorem zru {o : Oper} {x : Operand} {k : Nat} {A : OpAct} (S : Sim P nt B w0 h0 g σ a w) (hd : zck nt o.dst = true) (hop : o.op = .extract x k)
    (hA:act P Γ o (evO σ.env) (lk σ.objs)=A) (hs:A.safe):zfi P nt B w0 h0 r n i o A σ a w Q:=by
  simp only[act,hop] at hA
  split at hA
  · rename_i ds hx
    have h1:=S.ev x
    have h2:=S.evLab x
    rw[hx] at h1 h2
    obtain⟨vs,hv,hr⟩:=h1
    split at hA
    · rename_i d hd'
      subst hA
      obtain⟨v,hv',hdv⟩:=hr.get k d hd'
      refine zaX S hd (by simp[hop]) (d:=.one d) (v:=v) (fp:=[]) rfl ?_ hdv (λ L hL=>h2 L ?_)
      · simp only [execOp, hop, dqd, hv, Instr.extract]
        have:vs.toArray[k]? = some v:=by simpa using hv'
        rw[this]
        simp
      · exact dqo.2 ⟨d,dqx hd',hL⟩
    · exact dq9 hA hs
  · exact dq9 hA hs

theorem fb {o : Oper} {b : Builtin} {args : Array Operand} {ts : Array TypeId} (hop : o.op = .call { callee := .builtin b, args, argTypes := ts }) {v : Value} {w' : World}
    (h:(builtin b ts o.type (args.map fun | .const _=>true | _=>false) (args.map a.eval)).run P w=.ok (.value v) w'):(execOp a.eval o).run P w=.ok (.value v) w':=by
  simp only[execOp,hop,resolve,dqd,dqe,dqb,invoke]
  exact h

theorem zFP {o : Oper} {args : Array Operand} {ts : Array TypeId} {A : OpAct} (S : Sim P nt B w0 h0 g σ a w) (hd : zck nt o.dst = true) (hop : o.op = .call { callee := .builtin .len, args, argTypes := ts })
    (hA:act P Γ o (evO σ.env) (lk σ.objs)=A) (hs:A.safe):zfi P nt B w0 h0 r n i o A σ a w Q:=by
  simp only[act,hop] at hA
  split at hA
  · rename_i x t hargs hts
    have ha:args = #[x]:=by rw[<- Array.toArray_toList (xs:=args),hargs]
    have ht:ts = #[t]:=by rw[<- Array.toArray_toList (xs:=ts),hts]
    subst ha ht
    split at hA
    · rename_i e hu
      have fin:∀ (m:Nat) (ad:Option Addr) (cap:Nat) (fp:List (Nat×Bool)) (A:OpAct),a.eval x=.slice ad m cap->zfL A i o.dst σ (σ.upd i o.dst fp (.int m) [] [])->zfi P nt B w0 h0 r n i o A σ a w Q:=by
        intro m ad cap fp A hv hA
        refine zaX S hd (by simp[hop]) (d:=.int m) (v:=.int .i64 m) (fp:=fp) hA (fb hop ?_) (.int _ _) (zd1 _)
        simp only[builtin,dqd,Builtin.len_]
        simp[hv,run_underlying hu,goInt]
      split at hA
      · rename_i m s get hx
        subst hA
        have h1:=zcK S hx
        generalize hv:a.eval x=v at h1
        cases h1 with
        | sl0=>exact fin 0 _ _ [] _ hv rfl
        | sle=>exact fin 0 _ _ [] _ hv rfl
        | sl=>exact fin m _ _ [] _ hv rfl
      · rename_i hx
        subst hA
        have h1:=zcK S hx
        generalize hv:a.eval x=v at h1
        cases h1
        exact fin 0 _ _ [] _ hv rfl
      · rename_i L hx
        obtain⟨h1,_⟩:=zbr S hx
        split at hA
        · rename_i e' s b m get hL
          subst hA
          obtain⟨_,_,xs,hxs,_⟩:=S.obj L _ hL
          rcases hxs.2 with ⟨h5,h6⟩ | ⟨k,cap,cur,h5,_⟩
          · subst h6;exact fin 0 _ _ _ _ (h1.1.trans h5) rfl
          · exact fin m _ _ _ _ (h1.1.trans h5) rfl
        · rename_i s m get hL
          subst hA
          have h2:=(S.obj L _ hL).1
          generalize hv:g.sv L=v at h2
          cases h2 with
          | sl0=>exact fin 0 _ _ _ _ (h1.1.trans hv) rfl
          | sle=>exact fin 0 _ _ _ _ (h1.1.trans hv) rfl
          | sl=>exact fin m _ _ _ _ (h1.1.trans hv) rfl
        · rename_i te bb e' s b m ln get hL
          subst hA
          obtain⟨_,_,_,hxs,_,_⟩:=S.obj L _ hL
          rcases hxs.2 with ⟨h5,h6⟩ | ⟨k,cap,cur,h5,_⟩
          · subst h6;exact fin 0 _ _ _ _ (h1.1.trans h5) rfl
          · exact fin m _ _ _ _ (h1.1.trans h5) rfl
        · rename_i te bb kt vt q m mk nn F hL
          subst hA
          obtain⟨_,_,hxs,_,_⟩:=S.obj L _ hL
          rcases hxs.2 with ⟨h5,h6⟩ | ⟨k,cap,cur,h5,_⟩
          · subst h6;exact fin 0 _ _ _ _ (h1.1.trans h5) rfl
          · exact fin m _ _ _ _ (h1.1.trans h5) rfl
        · exact dq9 hA hs
      · rename_i L ii hx
        obtain⟨h1,_⟩:=zbr S hx
        split at hA
        · rename_i te bb e' s b m ln get hL
          subst hA
          have hlt:ii < m:=hs
          obtain⟨_,_,_,_,h5,_⟩:=S.obj L _ hL
          obtain⟨_,_,xs,hxs,_⟩:=h5 ii hlt
          rcases hxs.2 with ⟨h5,h6⟩ | ⟨k,cap,cur,h5,_⟩
          · exact fin (ln ii) _ _ _ (.chk _ _ _ _ _) (h1.1.trans (h5.trans (by rw[h6]))) rfl
          · exact fin (ln ii) _ _ _ (.chk _ _ _ _ _) (h1.1.trans h5) rfl
        · exact dq9 hA hs
      · exact dq9 hA hs
    · rename_i kt vt hu
      have zOd:∀ (m:Nat) (b:Nat) (es:Array MapEntry) (clock:Nat) (q:MQ) (F:List Int->Option (List Int)) (fp:List (Nat×Bool)) (A:OpAct),a.eval x=.map (some b)->w.heap[b]? = some (.map es clock)->moE q m F es clock ->
          zfL A i o.dst σ (σ.upd i o.dst fp (.int m) [] [])->zfi P nt B w0 h0 r n i o A σ a w Q:=by
        intro m b es clock q F fp A hv hh hm hA
        obtain⟨en,hen⟩:=hm
        have hsz:es.size=m:=by
          have:=congrArg List.length hen.ents
          simp only[List.length_map,Array.length_toList] at this
          rw[this,hen.size]
        refine zaX S hd (by simp[hop]) (d:=.int m) (v:=.int .i64 m) (fp:=fp) hA (fb hop ?_) (.int _ _) (zd1 _)
        simp only[builtin,dqd,Builtin.len_]
        simp[hv,run_underlying hu,goInt,MapKept.run_getObj_map hh,hsz]
      split at hA
      · rename_i L hx
        obtain⟨h1,_⟩:=zbr S hx
        split at hA
        · rename_i kt' vt' q m F hL
          subst hA
          obtain⟨es,clock,hh,_,hm⟩:=S.obj L _ hL
          exact zOd m _ es clock q F _ _ h1 hh hm rfl
        · exact dq9 hA hs
      · rename_i q m F hx
        subst hA
        have h1:=zcK S hx
        generalize hv:a.eval x=v at h1
        cases h1 with
        | fmn _ _ hF =>
          refine zaX S hd (by simp[hop]) (d:=.int (0:Nat)) (v:=.int .i64 (0:Nat)) (fp:=[]) rfl (fb hop ?_) (.int _ _) (zd1 _)
          simp only[builtin,dqd,Builtin.len_]
          simp[hv,run_underlying hu,goInt]
        | fm _ _ _ b es clock hb hm=>exact zOd m b es clock q F _ _ hv (S.hw.fz hb) hm rfl
      · exact dq9 hA hs
    · exact dq9 hA hs
  · exact dq9 hA hs

theorem zjU {args:Array Operand}{ev:Operand->DV}{p q:DV}(h:args.toList.map ev=[p,q]):∃ x y,args = #[x,y]/\ev x=p/\ev y=q:=by
 match hl:args.toList,h with
 | [x,y],h =>
  simp at h
  exact⟨x,y,by rw[<- Array.toArray_toList (xs:=args),hl],h.1,h.2⟩
 | [],h=>simp at h
 | [_],h=>simp at h
 | _ :: _ :: _ :: _,h=>simp at h

theorem zFQ {o : Oper} {args : Array Operand} {ts : Array TypeId} {A : OpAct} (S : Sim P nt B w0 h0 g σ a w) (hd : zck nt o.dst = true) (hop : o.op = .call { callee := .builtin .max, args, argTypes := ts })
    (hA:act P Γ o (evO σ.env) (lk σ.objs)=A) (hs:A.safe):zfi P nt B w0 h0 r n i o A σ a w Q:=by
  simp only[act,hop] at hA
  split at hA
  · rename_i k p k' q hargs
    subst hA
    obtain⟨x,y,rfl,hx,hy⟩:=zjU hargs
    have h1:=zdw S hx
    have h2:=zdw S hy
    refine zaX S hd (by simp[hop]) (d:=.p (.int k (if q > p then q else p))) (v:=.int k (if q > p then q else p)) (fp:=[]) rfl (fb hop ?_) (.int _ _) (zd1 _)
    simp[builtin,Builtin.max_,h1,h2,Builtin.max2]
  · exact dq9 hA hs

theorem zFR {o : Oper} {args : Array Operand} {ts : Array TypeId} {A : OpAct} (S : Sim P nt B w0 h0 g σ a w) (hd : zck nt o.dst = true) (hop : o.op = .call { callee := .builtin .min, args, argTypes := ts })
    (hA:act P Γ o (evO σ.env) (lk σ.objs)=A) (hs:A.safe):zfi P nt B w0 h0 r n i o A σ a w Q:=by
  simp only[act,hop] at hA
  split at hA
  · rename_i k p k' q hargs
    subst hA
    obtain⟨x,y,rfl,hx,hy⟩:=zjU hargs
    have h1:=zdw S hx
    have h2:=zdw S hy
    refine zaX S hd (by simp[hop]) (d:=.p (.int k (if q < p then q else p))) (v:=.int k (if q < p then q else p)) (fp:=[]) rfl (fb hop ?_) (.int _ _) (zd1 _)
    simp[builtin,Builtin.min_,h1,h2,Builtin.min2]
  · exact dq9 hA hs
end
end Go.Pm
namespace Go.Pm
variable [DrawZ]
open Go.RowKit (Below)

section place
variable {P:Program}
def Ro {α:Type}(P:Program) (s:Sem α):Prop:=∀ w a w',s.run P w=.ok a w'->w'.heap=w.heap
theorem bind_ok {α β:Type}{x:Sem α}{f:α->Sem β}{w w':World}{b:β}(h:(x >>= f).run P w=.ok b w'):∃ a w1,x.run P w=.ok a w1/\(f a).run P w1=.ok b w':=by
 rw[dqd] at h
 cases hx:x.run P w with
 | ok a w1=>rw[hx] at h;exact⟨a,w1,rfl,h⟩
 | halt e w1=>rw[hx] at h;cases h
theorem Ro.bind {α β:Type}{x:Sem α}{f:α->Sem β}(hx:Ro P x) (hf:∀ a,Ro P (f a)):Ro P (x >>= f):=by
 intro w b w' h
 obtain⟨a,w1,h1,h2⟩:=bind_ok h
 exact (hf a w1 b w' h2).trans (hx w a w1 h1)
theorem Ro.pure {α:Type}(a:α):Ro P (Pure.pure a:Sem α):=by
 intro w b w' h;simp at h;rw[h.2]
theorem Ro.halt {α:Type}(e:Halt):Ro P (.halt e:Sem α):=by
 intro w b w' h;simp at h
theorem Ro.ite {α:Type}{c:Prop} [Decidable c] {x y:Sem α}(hx:Ro P x) (hy:Ro P y):Ro P (if c then x else y):=by
 split
 ·exact hx
 ·exact hy
theorem Ro.load (a:Addr) (m:Mode):Ro P (Go.load a m):=by
 intro w b w' h
 rw[run_load] at h
 split at h
 ·simp at h;rw[h.2]
 ·split at h
  ·simp at h;rw[h.2]
  ·cases h
theorem Ro.loadCellsFrom (a : Addr) : ∀ (n i : Nat) (acc : Array Value), Ro P (loadCellsFrom a i n acc)
  | 0,_,acc=>Ro.pure acc
  | n+1,i,acc=>(Ro.load _ _).bind λ v=>Ro.loadCellsFrom a n (i+1) (acc.push v)
theorem Ro.firstCells (s n:Nat) (v:Value):Ro P (Builtin.firstCells s n v):=by
 unfold Builtin.firstCells
 split
 ·exact Ro.loadCellsFrom _ _ _ _
 ·exact Ro.pure _
 ·exact Ro.pure _
 ·exact Ro.halt _
theorem Ro.typeInfo (t:TypeId):Ro P (typeInfo t):=by
 intro w b w' h
 simp only[Go.typeInfo,dqd,run_program,dqb] at h
 split at h
 ·simp at h;rw[h.2]
 ·simp at h
theorem Ro.zeroValue (t:TypeId):Ro P (zeroValue t):=by
 refine (Ro.typeInfo t).bind λ _=>?_
 split
 ·exact Ro.pure _
 ·exact Ro.halt _
theorem Ro.choose (q:Question):Ro P (Go.choose q):=by
 intro w b w' h
 rw[run_choose] at h
 split at h
 ·simp at h;rw[h.2]
 ·simp at h;rw[<- h.2];rfl
theorem Ro.askRoom (m:Nat):Ro P (askRoom m):=by
 intro w b w' h;simp at h;rw[h]

theorem Ro.program:Ro P program:=by
 intro w b w' h;simp at h;rw[h.2]
theorem Ro.underlying (t:TypeId):Ro P (underlying t):=by
 refine Ro.program.bind λ _=>?_
 split
 ·exact Ro.pure _
 ·exact Ro.halt _
theorem Ro.sizeOf (t:TypeId):Ro P (sizeOf t):=(Ro.typeInfo t).bind λ _=>Ro.pure _
theorem Ro.stuck {α:Type}(s:String):Ro P (stuck s:Sem α):=Ro.halt _
theorem Ro.unsupported {α:Type}(s:Unsupported):Ro P (unsupported s:Sem α):=Ro.halt _
theorem Ro.asIntOf (v:Value):Ro P (asIntOf v):=by
 unfold Go.asIntOf
 split
 ·exact Ro.pure _
 ·exact Ro.unsupported _
 ·exact Ro.stuck _
theorem Ro.asInt (v:Value):Ro P (asInt v):=(Ro.asIntOf v).bind λ _=>Ro.pure _
theorem Ro.error {α:Type}(m:String):Ro P (runtimePanic (.error m):Sem α):=by
 refine Ro.program.bind λ _=>?_
 exact Ro.halt _

theorem Ro.mark (m:Mark):Ro P (mark m):=by
 intro w b w' h;simp at h;rw[h]
theorem Ro.shape (k:Nat):Ro P (shape k):=by
 intro w b w' h;simp at h;rw[h.2]
theorem Ro.frozen (k:Addr):Ro P (frozen k):=by
 intro w b w' h;simp at h;rw[h.2]
theorem Ro.holdsCells (k:Addr) (m:Nat):Ro P (Builtin.holdsCells k m):=by
 refine (Ro.shape _).bind λ _=>?_
 split
 ·exact Ro.pure _
 ·exact Ro.pure _
theorem Ro.mayShare (size sLen m:Nat) (base:Option Addr) (x:Value):Ro P (Builtin.mayShare size sLen m base x):=by
 unfold Builtin.mayShare
 repeat' first
  | exact Ro.holdsCells _ _
  | exact Ro.frozen _
  | exact Ro.pure _
  | refine Ro.ite ?_ ?_
  | refine Ro.bind ?_ (λ _=>?_)
  | split

def PL (P:Program) (base:Option Nat) (s:Sem Value):Prop:=∀ w a w',s.run P w=.ok a w'->a.ownBlock=base\/a.ownBlock=some w.heap.size
theorem PL.bind {α:Type}{base:Option Nat}{x:Sem α}{f:α->Sem Value}(hx:Ro P x) (hf:∀ a,PL P base (f a)):PL P base (x >>= f):=by
 intro w b w' h
 obtain⟨a,w1,h1,h2⟩:=bind_ok h
 have:=hf a w1 b w' h2
 rwa[hx w a w1 h1] at this
theorem PL.ite {base:Option Nat}{c:Prop} [Decidable c] {x y:Sem Value}(hx:PL P base x) (hy:PL P base y):PL P base (if c then x else y):=by
 split
 ·exact hx
 ·exact hy
theorem PL.halt {base:Option Nat}(e:Halt):PL P base (.halt e):=by
 intro w b w' h;simp at h
theorem PL.pure {base:Option Nat}{v:Value}(h:v.ownBlock=base):PL P base (Pure.pure v):=by
 intro w b w' h';simp at h';rw[<- h'.1];exact .inl h
theorem PL.then {α:Type}{base:Option Nat}{x:Sem α}{v:Value}(h:v.ownBlock=base):PL P base (x >>= λ _=>Pure.pure v):=by
 intro w b w' h'
 obtain⟨a,w1,_,h2⟩:=bind_ok h'
 simp at h2;rw[<- h2.1];exact .inl h
theorem PL.newRow {base:Option Nat}(e:TypeId) (C:Array Value) (m c:Nat):PL P base (newRow e C >>= λ a=>Pure.pure (Value.slice (some a) m c)):=by
 intro w b w' h
 simp[Go.newRow] at h
 rw[<- h.1];exact .inr rfl

theorem zld {t ty:TypeId}{base ad:Option Addr}{sLen sCap m c:Nat} : PL P (base.map (·.block)) (Builtin.append_ #[t,t] ty #[.slice base sLen sCap,.slice ad m c]):=by
 unfold Builtin.append_
 simp only[List.getElem?_toArray,List.getElem?_cons_zero,dqC]
 repeat' first
  | exact PL.newRow _ _ _ _
  | exact PL.pure (by first | rfl | (cases base <;> rfl))
  | exact PL.then (by first | rfl | (cases base <;> rfl))
  | exact PL.halt _
  | exact Ro.underlying _
  | exact Ro.sizeOf _
  | exact Ro.typeInfo _
  | exact Ro.zeroValue _
  | exact Ro.firstCells _ _ _
  | exact Ro.choose _
  | exact Ro.askRoom _
  | exact Ro.asInt _
  | exact Ro.error _
  | exact Ro.unsupported _
  | exact Ro.stuck _
  | exact Ro.pure _
  | exact Ro.mark _
  | exact Ro.mayShare _ _ _ _ _
  | refine PL.ite ?_ ?_
  | refine Ro.ite ?_ ?_
  | refine PL.bind ?_ (λ _=>?_)
  | refine Ro.bind ?_ (λ _=>?_)
  | split

theorem zmb {w:World}{at_:Addr}{u:TypeId}{k:Addr}{v:Value}{b:Bool}{r:World×List Addr}(h:w.viewStore P at_ u k v b=.ok r):r.1.drawn=w.drawn:=by
 unfold World.viewStore at h
 simp only[bind,Except.bind,pure,Except.pure] at h
 repeat' first
  | (cases h;done)
  | (simp only[Except.ok.injEq] at h;rw[<- h];done)
  | split at h
theorem znq {w:World}{a:Addr}{v:Value}{b:Bool}{r:World×List Addr}(h:w.farStore P a v b=.ok r):r.1.drawn=w.drawn:=by
 unfold World.farStore at h
 split at h
 ·split at h
  ·rename_i e;simp only[Except.ok.injEq] at h;rw[<- h];exact zmb e
  ·cases h
 ·cases h
theorem zmc {α : Type} : ∀ (q : Ask α) (w : World), w.drawn ≤ (w.ask q).2.drawn
  | .done a,w=>by simp[World.ask]
  | .ask what range k,w=>by
    simp only[World.ask]
    split
    · exact zmc _ _
    · exact dqE (Nat.le_succ w.drawn) (zmc (k _) { w with drawn:=w.drawn+1 })
theorem zwy (w:World) (c:Sys):w.drawn<=(w.sys c).2.drawn:=by
 have h:=zmc (Kernel.perform c w.os) w
 unfold World.sys
 split
 ·exact dqt _
 ·rename_i e;rw[e] at h;exact h
theorem zcW {α : Type} : ∀ (s : Sem α) (w : World) (x : α) (w' : World), s.run P w = .ok x w' → w.drawn ≤ w'.drawn
  | .pure a,w,x,w',h=>by simp only[Sem.run,Result.ok.injEq] at h;rw[h.2];exact dqt _
  | .load m a k,w,x,w',h=>by
    simp only[Sem.run] at h
    split at h
    · exact zcW _ _ _ _ h
    · split at h
      · exact zcW _ _ _ _ h
      · cases h
  | .store m a v k,w,x,w',h=>by
    have fin:∀ w1,w1.drawn=w.drawn->k.run P w1=.ok x w'->w.drawn<=w'.drawn:=λ w1 e h=>by rw[<- e];exact zcW _ _ _ _ h
    cases v with
    | agg cs=>simp only[Sem.run] at h;cases h
    | tuple cs=>simp only[Sem.run] at h;cases h
    | _ =>
      simp only[Sem.run] at h
      split at h
      · split at h
        · cases h
        · refine fin _ ?_ h;rfl
      · split at h
        · rename_i e;refine fin _ ?_ h;exact znq e
        · cases h
  | .new o k,w,x,w',h=>by simp only[Sem.run] at h;have:=zcW _ _ _ _ h;exact this
  | .shape r k,w,x,w',h=>by simp only[Sem.run] at h;exact zcW _ _ _ _ h
  | .freeze a n k,w,x,w',h=>by
    simp only[Sem.run] at h
    have:=zcW _ _ _ _ h
    have e:(w.freeze a n).drawn=w.drawn:=by unfold World.freeze;split <;> rfl
    rwa[e] at this
  | .frozen a k,w,x,w',h=>by simp only[Sem.run] at h;exact zcW _ _ _ _ h
  | .getObj r k,w,x,w',h=>by
    simp only[Sem.run] at h
    split at h
    · cases h
    · exact zcW _ _ _ _ h
    · cases h
  | .setObj r o k,w,x,w',h=>by
    simp only[Sem.run] at h
    split at h
    · cases h
    · have:=zcW _ _ _ _ h;exact this
    · cases h
  | .choose q k,w,x,w',h=>by
    simp only[Sem.run] at h
    split at h
    · exact zcW _ _ _ _ h
    · have := zcW _ _ _ _ h
      exact dqE (Nat.le_succ _) this
  | .sys c k,w,x,w',h=>by
    simp only[Sem.run] at h
    have:=zcW _ _ _ _ h
    exact dqE (zwy w c) this
  | .program k,w,x,w',h=>by simp only[Sem.run] at h;exact zcW _ _ _ _ h
  | .mark m k,w,x,w',h=>by simp only[Sem.run] at h;exact zcW _ _ _ _ h
  | .halt e,w,x,w',h=>by simp only[Sem.run] at h;cases h
end place
end Go.Pm
namespace Go.Pm
variable [DrawZ]
open Go.RowKit (Below)

section
variable {P:Program}{Γ:Ctrs}{nt B:Nat}{w0:World}{h0:Fz}{g:Gh}{σ:St}{a:Act}{w:World}{r:Option Nat}{n i:Nat}{Q:Exit->Act->World->Prop}

theorem ze0 {w w' : World} {b : Nat} (hB : B ≤ b) (h1 : w'.heap.size = w.heap.size) (h2 : ∀ k, k ≠ b → w'.heap[k]? = w.heap[k]?) (h3 : w'.os = w.os) (h4 : w'.tape = w.tape) (h5 : w'.output = w.output) (h6 : w'.drawn = w.drawn) :
  BelD B w w':=⟨⟨h3,h4,h5,by rw[h1];exact dqt _,λ k hk=>h2 k (by omega)⟩,by rw[h6];exact dqt _⟩

theorem zdx {t : TypeId} {m b off : Nat} {C : Array Value} {ty : TypeId} {v : Value} (hs : szT P t = some m) (hm : v.cells.size = m) (hb : w.heap[b]? = some (.cells C ty (0, 0))) (hle : off + m ≤ C.size)
    (h1:∀ u∈v.cells.toList,u.oneCell'=true):∃ w',(storeVar t ⟨b,off,none⟩ v).run P w=.ok () w'/\w'.heap[b]? = some (.cells (spl C.toList off v.cells.toList).toArray ty (0,0)) /\
      w'.heap.size=w.heap.size/\(∀ k,k ≠ b->w'.heap[k]? = w.heap[k]?)/\w'.os=w.os/\w'.tape=w.tape/\w'.output=w.output/\w'.drawn=w.drawn:=by
  obtain⟨w',hr,rest⟩:=ziB (P:=P) v.cells.toList off C w hb (by simpa [hm] using hle) h1 off 0 (by omega)
  refine⟨w',?_,rest⟩
  simp only[storeVar,dqd,run_sizeOf hs,dqb,hm,ne_eq,not_true_eq_false,if_false]
  exact hr

theorem cells_one {d:D1}{v:Value}(h:d1R g d v) (ho:d.cells.all zpI=true):∀ u∈v.cells.toList,u.oneCell'=true:=by
 intro u hu
 have hr:=zfo h ho
 obtain⟨j,hj⟩:=List.getElem?_of_mem hu
 obtain⟨c,hc,hcu⟩:=hr.get' j u hj
 exact zv7 hcu (List.all_eq_true.1 ho c (dqx hc))

theorem zeM : ∀ {cs : List Cl} {l : List PV}, zgP cs = some l → cs = l.map .p
  | [],l,h=>by simp[zgP] at h;subst h;rfl
  | .p v :: r,l,h=>by
    simp only[zgP] at h
    split at h
    · rename_i l' hl
      simp only[dqa] at h;subst h
      rw[zeM hl];rfl
    · cases h
  | .ptr _ _ :: _,l,h=>by simp[zgP] at h
  | .vptr _ _ _ _ :: _,l,h=>by simp[zgP] at h
  | .vec _ :: _,l,h=>by simp[zgP] at h
  | .undef :: _,l,h=>by simp[zgP] at h
  | .junk :: _,l,h=>by simp[zgP] at h
  | .dead _ :: _,l,h=>by simp[zgP] at h

theorem zwz (l:List PV):(l.map Cl.p).all zpI=true:=by
 induction l with
 | nil=>rfl
 | cons v r ih=>simp[zpI,ih]

theorem zwA {B e s len : Nat} {v0 : Value} {get : Nat → List PV} {k ii kk : Nat} {C : Array Value} {w' : World} {l : List PV} {us xs : List Value}
    (hx:w.ownsRow B e s v0 len xs) (hr:∀ i,i < len->RL (Rep g.h) (get i) ((xs.drop (i * s)).take s)) (hob:v0.ownBlock=some k) (hi:ii < len) (hk:kk+l.length<=s) (hC:w.heap[k]? = some (.cells C e (0,0)))
    (hC':w'.heap[k]? = some (.cells (spl C.toList (ii * s+kk) us).toArray e (0,0))) (hl:RL (Rep g.h) l us) :
    ∃ xs:List Value,w'.ownsRow B e s v0 len xs/\∀ i,i < len->RL (Rep g.h) (zlE ii kk get l i) ((xs.drop (i * s)).take s):=by
  rcases hx.2 with ⟨h1,rfl⟩ | ⟨k',cap,cur,h1,hB,hg,hn,hcap,hsz,htk⟩
  · exact absurd hi (by omega)
  · rw [h1] at hob; simp only [Value.ownBlock, dqa] at hob; subst hob
    rw[hC] at hg;simp only[dqa,Obj.cells.injEq] at hg
    obtain⟨rfl,_⟩:=hg
    have hlen:=hl.length
    have hii:ii * s+s<=len * s:=by have:=dqw s (Nat.succ_le_of_lt hi);rw[dqV] at this;exact this
    have hle2:len * s<=cap * s:=dqw s hn
    have hCs:C.toList.length=cap * s:=by simpa using hsz
    refine⟨(spl C.toList (ii * s+kk) us).take (len * s),⟨?_,.inr ⟨k',cap,_,h1,hB,hC',hn,hcap,?_,rfl⟩⟩,?_⟩
    · rw[List.length_take,zfy,hCs];omega
    · simp[zfy,hsz]
    · intro j hj
      have hjs:j * s+s<=len * s:=by have:=dqw s (Nat.succ_le_of_lt hj);rw[dqV] at this;exact this
      have hgl:(get j).length=s:=by
        rw[(hr j hj).length];simp only[List.length_take,List.length_drop,hx.1];omega
      have hsl:(zlE ii kk get l j).length=s:=by unfold zlE;split <;> simp[zfy,hgl]
      refine RL.of_get ?_ ?_
      · rw[hsl];simp only[List.length_take,List.length_drop,zfy,hCs];omega
      · intro q x v hq hvq
        have hqs:q < s:=by have:=(dqn.1 hq).1;omega
        rw[dqs,if_pos hqs,dqI,dqs,if_pos (by omega),zoy _ _ _ _ (by rw[hCs];omega)] at hvq
        have old:∀ y,(get j)[q]? = some y->∃ v,C.toList[j * s+q]? = some v/\Rep g.h y v:=by
          intro y hy
          obtain⟨v,hv,hyv⟩:=(hr j hj).get q y hy
          refine⟨v,?_,hyv⟩
          rw[dqs,if_pos hqs,dqI,<- htk,dqs,if_pos (by omega)] at hv
          exact hv
        unfold zlE at hq
        split at hq
        · rename_i hji
          have hji:=dqc hji
          subst hji
          rw[zoy _ _ _ _ (by rw[hgl];omega)] at hq
          by_cases hin:kk<=q/\q < kk+l.length
          · rw [if_pos hin] at hq
            rw[if_pos (by rw[<- hlen];omega),show j * s+q - (j * s+kk)=q - kk by omega] at hvq
            obtain⟨u,hu,hxu⟩:=hl.get _ _ hq
            rw[hu] at hvq;simp only[dqa] at hvq;rw[<- hvq];exact hxu
          · rw [if_neg hin] at hq
            rw[if_neg (by rw[<- hlen];omega)] at hvq
            obtain⟨u,hu,hxu⟩:=old x hq
            rw[hu] at hvq;simp only[dqa] at hvq;rw[<- hvq];exact hxu
        · rename_i hji
          have hji:=Nat.ne_of_beq_eq_false hji
          have hout : ¬ (ii * s+kk<=j * s+q/\j * s+q < ii * s+kk+us.length):=by
            rw[<- hlen]
            rcases Nat.lt_or_gt_of_ne hji with h | h
            · have:=dqw s (Nat.succ_le_of_lt h);rw[dqV] at this;omega
            · have:=dqw s (Nat.succ_le_of_lt h);rw[dqV] at this;omega
          rw[if_neg hout] at hvq
          obtain⟨u,hu,hxu⟩:=old x hq
          rw[hu] at hvq;simp only[dqa] at hvq;rw[<- hvq];exact hxu

theorem zwB {B L e s b len : Nat} {get : Nat → List PV} {k ii kk : Nat} {C : Array Value} {w' : World} {l : List PV} {us : List Value}
    (hv:ztG P g w B L e s b len get) (hob:(g.sv L).ownBlock=some k) (hi:ii < len) (hk:kk+l.length<=s) (hC:w.heap[k]? = some (.cells C e (0,0)))
    (hC':w'.heap[k]? = some (.cells (spl C.toList (ii * s+kk) us).toArray e (0,0))) (hl:RL (Rep g.h) l us):ztG P g w' B L e s b len (zlE ii kk get l):=by
  obtain⟨hs,hinfo,xs,hx,hr⟩:=hv
  exact⟨hs,hinfo,zwA hx hr hob hi hk hC hC' hl⟩

theorem zKu {B L te bb e s b n : Nat} {ln : Nat → Nat} {get : Nat → Nat → List PV} {k ii jj kk : Nat} {C : Array Value} {w' : World} {l : List PV} {us : List Value}
    (hv:vvR P g w B L te bb e s b n ln get) (hii:ii < n) (hob:(g.iv L ii).ownBlock=some k) (hi:jj < ln ii) (hk:kk+l.length<=s) (hC:w.heap[k]? = some (.cells C e (0,0)))
    (hC':w'.heap[k]? = some (.cells (spl C.toList (jj * s+kk) us).toArray e (0,0))) (hoth:∀ q,q ≠ k->w'.heap[q]? = w.heap[q]?) (hl:RL (Rep g.h) l us):vvR P g w' B L te bb e s b n ln (zq9 ii jj kk get l):=by
  obtain⟨h1,h2,h3,h4,h5,h6⟩:=hv
  refine⟨h1,h2,h3,zb1 h4 λ q hq=>hoth q λ e=>?_,λ i hi'=>?_,h6⟩
  · subst e;exact (h6 ii q hii hob).1 hq
  · obtain ⟨h7, h70, xs, hx, hr⟩ := h5 i hi'
    refine⟨h7,h70,?_⟩
    by_cases hq:i=ii
    · subst hq
      have e1:zq9 i jj kk get l i=zlE jj kk (get i) l:=by simp[zq9]
      rw[e1]
      exact zwA hx hr hob hi hk hC hC' hl
    · have e1 : zq9 ii jj kk get l i = get i := by simp only [zq9]; rw [show Nat.beq i ii = false from by cases h : Nat.beq i ii with | true => exact absurd (dqc h) hq | false => rfl]
      rw[e1]
      exact⟨xs,zb1 hx λ q hq'=>hoth q λ e=>hq (by subst e;exact ((h6 ii q hii hob).2 i hi' hq').symm),hr⟩

theorem zgU:∀ L∈zbf .junk,∃ o,lk σ.objs L=some o:=λ L hL=>by simp[zbf,zbN,zaE] at hL

def Gm (g g':Gh):Prop:=g'.h=g.h/\g'.bk=g.bk/\g'.sv=g.sv/\∀ L i,g.iv L i ≠ .map none->g.iv L i ≠ .slice none 0 0->g'.iv L i=g.iv L i
theorem zEi {g g':Gh}(H:Gm g g'){c:Cl}{x:Value}(h:clR g c x):clR g' c x:=by
 obtain⟨h1,h2,h3,h4⟩:=H
 cases c with
 | p v=>simp only[clR] at h ⊢;rw[h1];exact h
 | ptr L off=>simp only[clR] at h ⊢;rw[h2];exact h
 | vptr L s i k=>simp only[clR] at h ⊢;rw[h3];exact h
 | vec L=>simp only[clR] at h ⊢;rw[h3];exact h
 | ivec L i =>
  simp only[clR] at h ⊢
  obtain⟨e1,e2,k,e3⟩:=h
  rw[h4 L i (λ e=>by rw[e1,e] at e3;cases e3) (λ e=>by rw[e1,e] at e3;cases e3)]
  exact⟨e1,e2,k,e3⟩
 | iptr L s i j k =>
  simp only[clR] at h ⊢
  obtain⟨b,e1,e2⟩:=h
  rw[h4 L i (λ e=>by rw[e] at e1;cases e1) (λ e=>by rw[e] at e1;cases e1)]
  exact⟨b,e1,e2⟩
 | mo L=>simp only[clR] at h ⊢;rw[h3];exact h
 | imap L i =>
  simp only[clR] at h ⊢
  obtain⟨e1,b,e2⟩:=h
  rw[h4 L i (λ e=>by rw[e1,e] at e2;cases e2) (λ e=>by rw[e1,e] at e2;cases e2)]
  exact⟨e1,b,e2⟩
 | clo f caps=>obtain⟨cv,e,hr⟩:=h;exact⟨cv,e,zgo (λ _ _ hp=>by rw[h1];exact hp) (λ L _=>by rw[h2]) hr⟩
 | mkey it L=>simp only[clR] at h ⊢;rw[h1,h3];exact h
 | xp L b n m j c=>simp only[clR] at h ⊢;rw[h2];exact h
 | xv L s i b n m j c=>simp only[clR] at h ⊢;rw[h3];exact h
 | xf cells b n m j c=>simp only[clR] at h ⊢;rw[h1];exact h
 | undef=>exact h
 | junk=>trivial
 | dead L=>trivial
theorem zFS {g g':Gh}(H:Gm g g'){cs:List Cl}{vs:List Value}(h:RL (clR g) cs vs):RL (clR g') cs vs:=h.mono λ _ _=>zEi H
theorem zEj {g g':Gh}(H:Gm g g'){d:D1}{x:Value}(h:d1R g d x):d1R g' d x:=by
 cases d with
 | c y=>exact zEi H h
 | agg cs=>obtain⟨vs,rfl,hr⟩:=h;exact⟨vs,rfl,zFS H hr⟩
theorem zEk {g g':Gh}(H:Gm g g'){d:DV}{x:Value}(h:dvR g d x):dvR g' d x:=by
 cases d with
 | one y=>exact zEj H h
 | tup ds=>obtain⟨vs,rfl,hr⟩:=h;exact⟨vs,rfl,hr.mono λ _ _=>zEj H⟩

theorem Sim.setMap (S : Sim P nt B w0 h0 g σ a w) {L M te bb kt vt len m ii : Nat} {q : MQ} {mk : Nat → Bool} {nn : Nat → Nat} {F : Nat → List Int → Option (List Int)} {F' : List Int → Option (List Int)} (hL : lk σ.objs L = some (.vm te bb kt vt q len mk nn F))
    (hM:lk σ.objs M=some (.mo kt vt q m F')) (hne:L ≠ M) (hi:ii < len) (hmk:mk ii=false) {k:Nat} {C:Array Value} {w':World} (hob:(g.sv L).ownBlock=some k) (hC:w.heap[k]? = some (.cells C te (0,0)))
    (hC':w'.heap[k]? = some (.cells (C.setIfInBounds ii (.map (some (zdV (g.sv M))))) te (0,0))) (hoth:∀ b,b ≠ k->w'.heap[b]? = w.heap[b]?) (hb:BelD B w w') :
    Sim P nt B w0 h0 ⟨g.h,g.bk,g.sv,λ X i=>if X=L/\i=ii then .map (some (zdV (g.sv M))) else g.iv X i⟩ { σ with objs:=(L,.vm te bb kt vt q len (zd6 ii true mk) (zd6 ii m nn) (zd6 ii F' F)) :: (M,.gone) :: σ.objs } a w':=by
  have oL:=S.obj L _ hL
  obtain⟨hE,hinf,hrow,hel,hsep⟩:=oL
  have h0:=(hel ii hi).2 hmk
  have H:Gm g ⟨g.h,g.bk,g.sv,λ X i=>if X=L/\i=ii then .map (some (zdV (g.sv M))) else g.iv X i⟩:=by
    refine⟨rfl,rfl,rfl,λ X i hx _=>?_⟩
    show (if X=L/\i=ii then _ else _)=_
    rw[if_neg];rintro⟨rfl,rfl⟩;exact hx h0.1
  have hkB:obk g L (.vm te bb kt vt q len mk nn F) k:=.inl hob
  have hlk:∀ X o,lk ((L,AO.vm te bb kt vt q len (zd6 ii true mk) (zd6 ii m nn) (zd6 ii F' F)) :: (M,.gone) :: σ.objs) X=some o ->
      (X=L/\o=.vm te bb kt vt q len (zd6 ii true mk) (zd6 ii m nn) (zd6 ii F' F))\/(X=M/\o=.gone)\/(X ≠ L/\X ≠ M/\lk σ.objs X=some o):=by
    intro X o h
    rw[zay] at h
    split at h
    · rename_i e;simp at h;exact .inl ⟨e.symm,h.symm⟩
    · rename_i e
      rw[zay] at h
      split at h
      · rename_i e2;simp at h;exact .inr (.inl ⟨e2.symm,h.symm⟩)
      · rename_i e2;exact .inr (.inr ⟨λ x=>e x.symm,λ x=>e2 x.symm,h⟩)
  have hdom:∀ X o,lk σ.objs X=some o->∃ o',lk ((L,AO.vm te bb kt vt q len (zd6 ii true mk) (zd6 ii m nn) (zd6 ii F' F)) :: (M,.gone) :: σ.objs) X=some o':=by
    intro X o h
    rw[zay];split
    · exact⟨_,rfl⟩
    · rw [zay]; split
      · exact⟨_,rfl⟩
      · exact⟨o,h⟩
  have hivn:∀ X i,X ≠ L->(if X=L/\i=ii then Value.map (some (zdV (g.sv M))) else g.iv X i)=g.iv X i:=λ X i hx=>if_neg λ e=>hx e.1
  have hivi:∀ i,i ≠ ii->(if L=L/\i=ii then Value.map (some (zdV (g.sv M))) else g.iv L i)=g.iv L i:=λ i hx=>if_neg λ e=>hx e.2
  have hsame:∀ X,X ≠ L->zd0 g ⟨g.h,g.bk,g.sv,λ X i=>if X=L/\i=ii then .map (some (zdV (g.sv M))) else g.iv X i⟩ X:=λ X hx=>⟨rfl,rfl,funext λ i=>hivn X i hx⟩
  have hMk:zdV (g.sv M) ≠ k:=λ e=>hne (S.sep L _ k M _ hL hM hkB e)
  obtain⟨es,clock,hMh,_,hMm⟩:=S.obj M _ hM
  have hobk':∀ b,obk ⟨g.h,g.bk,g.sv,λ X i=>if X=L/\i=ii then .map (some (zdV (g.sv M))) else g.iv X i⟩ L (.vm te bb kt vt q len (zd6 ii true mk) (zd6 ii m nn) (zd6 ii F' F)) b->obk g L (.vm te bb kt vt q len mk nn F) b\/b=zdV (g.sv M):=by
    rintro b (hb' | ⟨i,hi',hb'⟩)
    · exact .inl (.inl hb')
    · by_cases e : i = ii
      · subst e
        have hb':(if L=L/\i=i then Value.map (some (zdV (g.sv M))) else g.iv L i)=.map (some b):=hb'
        rw[if_pos ⟨rfl,rfl⟩] at hb'
        simp only[Value.map.injEq,dqa] at hb'
        exact .inr hb'.symm
      · have hb' : (if L = L ∧ i = ii then Value.map (some (zdV (g.sv M))) else g.iv L i) = .map (some b) := hb'
        rw[hivi i e] at hb'
        exact .inl (.inr ⟨i,hi',hb'⟩)
  refine⟨S.dfr,S.size,λ t d h=>zEk H (S.env t d h),?_,?_,?_,?_,S.le0,S.hn,S.below.trans (.of hb),dqE S.bs hb.size,λ t d h X hX=>?_,?_,S.gl⟩
  · intro X o ho
    rcases hlk X o ho with ⟨rfl,rfl⟩ | ⟨rfl,rfl⟩ | ⟨n1,n2,ho⟩
    · refine ⟨hE, hinf, ?_, ?_, ?_⟩
      · refine ⟨by simp, ?_⟩
        rcases hrow.2 with ⟨h1,h2⟩ | ⟨k',cap,cur,h1,hB,hg,hn,hcap,hsz,htk⟩
        · omega
        · rw [h1] at hob; simp only [Value.ownBlock, dqa] at hob; subst hob
          rw[hC] at hg;simp only[dqa,Obj.cells.injEq] at hg
          obtain⟨rfl,_⟩:=hg
          refine .inr ⟨k',cap,_,h1,hB,hC',hn,hcap,by simpa using hsz,?_⟩
          apply List.ext_getElem?
          intro j
          have hj:=congrArg (λ l=>l[j]?) htk
          simp only[dqs,dqH] at hj
          simp only[Array.toList_setIfInBounds,dqs,List.getElem?_set,dqH]
          by_cases hjn:j < len * 1
          · have hjn' : j < len := by omega
            rw[if_pos hjn] at hj ⊢
            rw[List.getElem?_range hjn'] at hj ⊢
            simp only[Option.map_some] at hj ⊢
            by_cases e:ii=j
            · subst e
              rw[if_pos rfl,if_pos (by simp;omega)]
              simp
            · rw [if_neg e, hj]
              simp only[true_and];rw[if_neg (λ x=>e x.symm)]
          · rw[if_neg hjn,dqM (by simp;omega)];rfl
      · intro i hi'
        by_cases e:i=ii
        · subst e
          have e1:zd6 i true mk i=true:=by simp[zd6]
          have e2:zd6 i m nn i=m:=by simp[zd6]
          have e3:zd6 i F' F i=F':=by simp[zd6]
          rw[e1,e2,e3]
          refine⟨λ _=>⟨zdV (g.sv M),es,clock,if_pos ⟨rfl,rfl⟩,by rw[hoth _ hMk];exact hMh,hMm⟩,λ h=>by cases h⟩
        · have hbf : Nat.beq i ii = false := by cases hq : Nat.beq i ii with | true => exact absurd (dqc hq) e | false => rfl
          have e1:zd6 ii true mk i=mk i:=by simp only[zd6,hbf]
          have e2:zd6 ii m nn i=nn i:=by simp only[zd6,hbf]
          have e3:zd6 ii F' F i=F i:=by simp only[zd6,hbf]
          rw[e1,e2,e3]
          show (_->∃ b es clock,(if X=X/\i=ii then Value.map (some (zdV (g.sv M))) else g.iv X i)=_/\_)/\(_->(if X=X/\i=ii then Value.map (some (zdV (g.sv M))) else g.iv X i)=_/\_)
          rw[hivi i e]
          refine⟨λ h=>?_,(hel i hi').2⟩
          obtain⟨b,es',cl,x1,x2,x3⟩:=(hel i hi').1 h
          refine⟨b,es',cl,x1,?_,x3⟩
          rw[hoth b λ e=>(hsep i b hi' x1).1 (by rw[e];exact hob)];exact x2
      · intro i b hi' hb'
        have fresh:∀ j,j < len->g.iv X j ≠ .map (some (zdV (g.sv M))):=λ j hj e=>hne (S.sep X _ (zdV (g.sv M)) M _ hL hM (.inr ⟨j,hj,e⟩) rfl)
        by_cases e:i=ii
        · subst e
          have hb':(if X=X/\i=i then Value.map (some (zdV (g.sv M))) else g.iv X i)=.map (some b):=hb'
          rw[if_pos ⟨rfl,rfl⟩] at hb'
          simp only[Value.map.injEq,dqa] at hb'
          subst hb'
          refine⟨λ h=>hMk ?_,λ j hj hjb=>?_⟩
          · rw[hob] at h;simp only[dqa] at h;exact h.symm
          · by_cases e : j = i
            · exact e.symm
            · have hjb : (if X = X ∧ j = i then Value.map (some (zdV (g.sv M))) else g.iv X j) = _ := hjb
              rw[hivi j e] at hjb
              exact (fresh j hj hjb).elim
        · have hb' : (if X = X ∧ i = ii then Value.map (some (zdV (g.sv M))) else g.iv X i) = .map (some b) := hb'
          rw[hivi i e] at hb'
          have hb2:=hb'
          refine⟨(hsep i b hi' hb').1,λ j hj hjb=>?_⟩
          have hjb:(if X=X/\j=ii then Value.map (some (zdV (g.sv M))) else g.iv X j)=_:=hjb
          by_cases e2:j=ii
          · subst e2
            rw[if_pos ⟨rfl,rfl⟩] at hjb
            simp only[Value.map.injEq,dqa] at hjb
            subst hjb
            exact (fresh i hi' hb2).elim
          · rw [hivi j e2] at hjb
            exact (hsep i b hi' hb').2 j hj hjb
    · trivial
    · cases o with
      | box ty cs =>
        obtain⟨C',hC2,hr⟩:=S.obj X _ ho
        refine⟨C',?_,zFS H hr⟩
        rw[hoth _ λ e=>n1 (S.sep X _ k L _ ho hL e hkB)];exact hC2
      | _=>exact zcV (S.obj X _ ho) (hsame X n1) (λ _ h=>by simp[zb8] at h) (λ _ _ h=>h) λ b hb'=>hoth b λ e=>n1 (S.sep X _ b L _ ho hL hb' (by rw[e];exact hkB))
  · intro X o b ho hob'
    rcases hlk X o ho with ⟨rfl,rfl⟩ | ⟨rfl,rfl⟩ | ⟨n1,n2,ho⟩
    · rcases hobk' b hob' with h | rfl
      · exact S.own _ _ b hL h
      · exact S.own M _ _ hM rfl
    · exact hob'.elim
    · rw[zbK (hsame X n1)] at hob';exact S.own X o b ho hob'
  · intro X o b Y o' ho ho' hb1 hb2
    rcases hlk X o ho with ⟨rfl,rfl⟩ | ⟨rfl,rfl⟩ | ⟨n1,n2,ho2⟩ <;> rcases hlk Y o' ho' with ⟨rfl,rfl⟩ | ⟨rfl,rfl⟩ | ⟨n1',n2',ho2'⟩
    · rfl
    · exact hb2.elim
    · rw [zbK (hsame Y n1')] at hb2
      rcases hobk' b hb1 with h | rfl
      · exact S.sep _ _ b Y _ hL ho2' h hb2
      · exact (n2' (S.sep M _ _ Y _ hM ho2' rfl hb2).symm).elim
    · exact hb1.elim
    · exact hb1.elim
    · exact hb1.elim
    · rw [zbK (hsame X n1)] at hb1
      rcases hobk' b hb2 with h | rfl
      · exact S.sep X _ b _ _ ho2 hL hb1 h
      · exact (n2 (S.sep X _ _ M _ ho2 hM hb1 rfl)).elim
    · exact hb2.elim
    · rw [zbK (hsame X n1)] at hb1
      rw[zbK (hsame Y n1')] at hb2
      exact S.sep X _ b Y _ ho2 ho2' hb1 hb2
  · exact S.hw.same λ b x hbx=>hoth b λ e=>by subst e;have:=(S.own L _ b hL hkB).2;rw[hbx] at this;cases this
  · obtain⟨o,ho⟩:=S.clE t d h X hX;exact hdom X o ho
  · intro X o ho Y hY
    rcases hlk X o ho with ⟨rfl,rfl⟩ | ⟨rfl,rfl⟩ | ⟨n1,n2,ho⟩
    · simp[zb8] at hY
    · simp[zb8] at hY
    · obtain⟨o',ho'⟩:=S.clO X o ho Y hY;exact hdom Y o' ho'

theorem Sim.setVec (S : Sim P nt B w0 h0 g σ a w) {L M te bb e s by' len m ii : Nat} {ln : Nat → Nat} {get : Nat → Nat → List PV} {get2 : Nat → List PV} (hL : lk σ.objs L = some (.vv te bb e s by' len ln get))
    (hM:lk σ.objs M=some (.vec e s by' m get2)) (hne:L ≠ M) (hi:ii < len) (hl0:ln ii=0) (hm:0 < m) {k:Nat} {C:Array Value} {w':World} (hob:(g.sv L).ownBlock=some k) (hC:w.heap[k]? = some (.cells C te (0,0)))
    (hC':w'.heap[k]? = some (.cells (C.setIfInBounds ii (g.sv M)) te (0,0))) (hoth:∀ b,b ≠ k->w'.heap[b]? = w.heap[b]?) (hb:BelD B w w') :
    Sim P nt B w0 h0 ⟨g.h,g.bk,g.sv,λ X i=>if X=L/\i=ii then g.sv M else g.iv X i⟩ { σ with objs:=(L,.vv te bb e s by' len (zd6 ii m ln) (zd6 ii get2 get)) :: (M,.gone) :: σ.objs } a w':=by
  have oL:=S.obj L _ hL
  obtain⟨hpos,hinf,hinf2,hrow,hel,hsep⟩:=oL
  have h0:=(hel ii hi).2.1 hl0
  obtain⟨_,_,xsM,hxM,hrM⟩:=S.obj M _ hM
  obtain⟨kM,capM,hvM⟩:∃ kM cap,g.sv M=.slice (some ⟨kM,0,none⟩) m cap:=by
    rcases hxM.2 with ⟨_,h2⟩ | ⟨k2,cap,_,h1,_⟩
    · omega
    · exact⟨k2,cap,h1⟩
  have hoM:(g.sv M).ownBlock=some kM:=by rw[hvM];rfl
  have H:Gm g ⟨g.h,g.bk,g.sv,λ X i=>if X=L/\i=ii then g.sv M else g.iv X i⟩:=by
    refine⟨rfl,rfl,rfl,λ X i _ hx=>?_⟩
    show (if X=L/\i=ii then _ else _)=_
    rw[if_neg];rintro⟨rfl,rfl⟩;exact hx h0
  have hkB:obk g L (.vv te bb e s by' len ln get) k:=.inl hob
  have hMB:obk g M (.vec e s by' m get2) kM:=hoM
  have hlk:∀ X o,lk ((L,AO.vv te bb e s by' len (zd6 ii m ln) (zd6 ii get2 get)) :: (M,.gone) :: σ.objs) X=some o ->
      (X=L/\o=.vv te bb e s by' len (zd6 ii m ln) (zd6 ii get2 get))\/(X=M/\o=.gone)\/(X ≠ L/\X ≠ M/\lk σ.objs X=some o):=by
    intro X o h
    rw[zay] at h
    split at h
    · rename_i e;simp at h;exact .inl ⟨e.symm,h.symm⟩
    · rename_i e
      rw[zay] at h
      split at h
      · rename_i e2;simp at h;exact .inr (.inl ⟨e2.symm,h.symm⟩)
      · rename_i e2;exact .inr (.inr ⟨λ x=>e x.symm,λ x=>e2 x.symm,h⟩)
  have hdom:∀ X o,lk σ.objs X=some o->∃ o',lk ((L,AO.vv te bb e s by' len (zd6 ii m ln) (zd6 ii get2 get)) :: (M,.gone) :: σ.objs) X=some o':=by
    intro X o h
    rw[zay];split
    · exact⟨_,rfl⟩
    · rw [zay]; split
      · exact⟨_,rfl⟩
      · exact⟨o,h⟩
  have hivn:∀ X i,X ≠ L->(if X=L/\i=ii then g.sv M else g.iv X i)=g.iv X i:=λ X i hx=>if_neg λ e=>hx e.1
  have hivi:∀ i,i ≠ ii->(if L=L/\i=ii then g.sv M else g.iv L i)=g.iv L i:=λ i hx=>if_neg λ e=>hx e.2
  have hsame:∀ X,X ≠ L->zd0 g ⟨g.h,g.bk,g.sv,λ X i=>if X=L/\i=ii then g.sv M else g.iv X i⟩ X:=λ X hx=>⟨rfl,rfl,funext λ i=>hivn X i hx⟩
  have hMk:kM ≠ k:=λ e=>hne (S.sep L _ k M _ hL hM hkB (by rw[<- e];exact hMB))
  have hobk':∀ b,obk ⟨g.h,g.bk,g.sv,λ X i=>if X=L/\i=ii then g.sv M else g.iv X i⟩ L (.vv te bb e s by' len (zd6 ii m ln) (zd6 ii get2 get)) b->obk g L (.vv te bb e s by' len ln get) b\/b=kM:=by
    rintro b (hb' | ⟨i,hi',hb'⟩)
    · exact .inl (.inl hb')
    · by_cases e : i = ii
      · subst e
        have hb':(if L=L/\i=i then g.sv M else g.iv L i).ownBlock=some b:=hb'
        rw[if_pos ⟨rfl,rfl⟩,hoM] at hb'
        simp only[dqa] at hb'
        exact .inr hb'.symm
      · have hb' : (if L = L ∧ i = ii then g.sv M else g.iv L i).ownBlock = some b := hb'
        rw[hivi i e] at hb'
        exact .inl (.inr ⟨i,hi',hb'⟩)
  refine⟨S.dfr,S.size,λ t d h=>zEk H (S.env t d h),?_,?_,?_,?_,S.le0,S.hn,S.below.trans (.of hb),dqE S.bs hb.size,λ t d h X hX=>?_,?_,S.gl⟩
  · intro X o ho
    rcases hlk X o ho with ⟨rfl,rfl⟩ | ⟨rfl,rfl⟩ | ⟨n1,n2,ho⟩
    · refine ⟨hpos, hinf, hinf2, ?_, ?_, ?_⟩
      · refine ⟨by simp, ?_⟩
        rcases hrow.2 with ⟨h1,h2⟩ | ⟨k',cap,cur,h1,hB,hg,hn,hcap,hsz,htk⟩
        · omega
        · rw [h1] at hob; simp only [Value.ownBlock, dqa] at hob; subst hob
          rw[hC] at hg;simp only[dqa,Obj.cells.injEq] at hg
          obtain⟨rfl,_⟩:=hg
          refine .inr ⟨k',cap,_,h1,hB,hC',hn,hcap,by simpa using hsz,?_⟩
          apply List.ext_getElem?
          intro j
          have hj:=congrArg (λ l=>l[j]?) htk
          simp only[dqs,dqH] at hj
          simp only[Array.toList_setIfInBounds,dqs,List.getElem?_set,dqH]
          by_cases hjn:j < len * 1
          · have hjn' : j < len := by omega
            rw[if_pos hjn] at hj ⊢
            rw[List.getElem?_range hjn'] at hj ⊢
            simp only[Option.map_some] at hj ⊢
            by_cases e:ii=j
            · subst e
              rw[if_pos rfl,if_pos (by simp;omega)]
              simp
            · rw [if_neg e, hj]
              simp only[true_and];rw[if_neg (λ x=>e x.symm)]
          · rw[if_neg hjn,dqM (by simp;omega)];rfl
      · intro i hi'
        by_cases e:i=ii
        · subst e
          have e2:zd6 i m ln i=m:=by simp[zd6]
          have e3:zd6 i get2 get i=get2:=by simp[zd6]
          rw[e2,e3]
          show (if X=X/\i=i then g.sv M else g.iv X i).oneCell'=true/\(m=0->(if X=X/\i=i then g.sv M else g.iv X i)=_)/\∃ xs,w'.ownsRow B _ s (if X=X/\i=i then g.sv M else g.iv X i) m xs/\_
          rw[if_pos ⟨rfl,rfl⟩]
          refine⟨by rw[hvM];rfl,λ h=>absurd h (by omega),xsM,zb1 hxM λ b hb'=>hoth b λ e=>hMk ?_,hrM⟩
          rw[hoM] at hb';simp only[dqa] at hb'
          omega
        · have hbf : Nat.beq i ii = false := by cases hq : Nat.beq i ii with | true => exact absurd (dqc hq) e | false => rfl
          have e2:zd6 ii m ln i=ln i:=by simp only[zd6,hbf]
          have e3:zd6 ii get2 get i=get i:=by simp only[zd6,hbf]
          rw[e2,e3]
          show (if X=X/\i=ii then g.sv M else g.iv X i).oneCell'=true/\(ln i=0->(if X=X/\i=ii then g.sv M else g.iv X i)=_)/\∃ xs,w'.ownsRow B _ s (if X=X/\i=ii then g.sv M else g.iv X i) (ln i) xs/\_
          rw[hivi i e]
          obtain⟨x1,x2,xs,x3,x4⟩:=hel i hi'
          exact⟨x1,x2,xs,zb1 x3 λ b hb'=>hoth b λ e=>(hsep i b hi' hb').1 (by rw[e];exact hob),x4⟩
      · intro i b hi' hb'
        have fresh:∀ j,j < len->(g.iv X j).ownBlock ≠ some kM:=λ j hj e=>hne (S.sep X _ kM M _ hL hM (.inr ⟨j,hj,e⟩) hMB)
        by_cases e:i=ii
        · subst e
          have hb':(if X=X/\i=i then g.sv M else g.iv X i).ownBlock=some b:=hb'
          rw[if_pos ⟨rfl,rfl⟩,hoM] at hb'
          simp only[dqa] at hb'
          subst hb'
          refine⟨λ h=>hMk ?_,λ j hj hjb=>?_⟩
          · rw[hob] at h;simp only[dqa] at h;exact h.symm
          · by_cases e : j = i
            · exact e.symm
            · have hjb : (if X = X ∧ j = i then g.sv M else g.iv X j).ownBlock = _ := hjb
              rw[hivi j e] at hjb
              exact (fresh j hj hjb).elim
        · have hb' : (if X = X ∧ i = ii then g.sv M else g.iv X i).ownBlock = some b := hb'
          rw[hivi i e] at hb'
          have hb2:=hb'
          refine⟨(hsep i b hi' hb').1,λ j hj hjb=>?_⟩
          have hjb:(if X=X/\j=ii then g.sv M else g.iv X j).ownBlock=_:=hjb
          by_cases e2:j=ii
          · subst e2
            rw[if_pos ⟨rfl,rfl⟩,hoM] at hjb
            simp only[dqa] at hjb
            subst hjb
            exact (fresh i hi' hb2).elim
          · rw [hivi j e2] at hjb
            exact (hsep i b hi' hb').2 j hj hjb
    · trivial
    · cases o with
      | box ty cs =>
        obtain⟨C',hC2,hr⟩:=S.obj X _ ho
        refine⟨C',?_,zFS H hr⟩
        rw[hoth _ λ e=>n1 (S.sep X _ k L _ ho hL e hkB)];exact hC2
      | _=>exact zcV (S.obj X _ ho) (hsame X n1) (λ _ h=>by simp[zb8] at h) (λ _ _ h=>h) λ b hb'=>hoth b λ e=>n1 (S.sep X _ b L _ ho hL hb' (by rw[e];exact hkB))
  · intro X o b ho hob'
    rcases hlk X o ho with ⟨rfl,rfl⟩ | ⟨rfl,rfl⟩ | ⟨n1,n2,ho⟩
    · rcases hobk' b hob' with h | rfl
      · exact S.own _ _ b hL h
      · exact S.own M _ _ hM hMB
    · exact hob'.elim
    · rw[zbK (hsame X n1)] at hob';exact S.own X o b ho hob'
  · intro X o b Y o' ho ho' hb1 hb2
    rcases hlk X o ho with ⟨rfl,rfl⟩ | ⟨rfl,rfl⟩ | ⟨n1,n2,ho2⟩ <;> rcases hlk Y o' ho' with ⟨rfl,rfl⟩ | ⟨rfl,rfl⟩ | ⟨n1',n2',ho2'⟩
    · rfl
    · exact hb2.elim
    · rw [zbK (hsame Y n1')] at hb2
      rcases hobk' b hb1 with h | rfl
      · exact S.sep _ _ b Y _ hL ho2' h hb2
      · exact (n2' (S.sep M _ _ Y _ hM ho2' hMB hb2).symm).elim
    · exact hb1.elim
    · exact hb1.elim
    · exact hb1.elim
    · rw [zbK (hsame X n1)] at hb1
      rcases hobk' b hb2 with h | rfl
      · exact S.sep X _ b _ _ ho2 hL hb1 h
      · exact (n2 (S.sep X _ _ M _ ho2 hM hb1 hMB)).elim
    · exact hb2.elim
    · rw [zbK (hsame X n1)] at hb1
      rw[zbK (hsame Y n1')] at hb2
      exact S.sep X _ b Y _ ho2 ho2' hb1 hb2
  · exact S.hw.same λ b x hbx=>hoth b λ e=>by subst e;have:=(S.own L _ b hL hkB).2;rw[hbx] at this;cases this
  · obtain⟨o,ho⟩:=S.clE t d h X hX;exact hdom X o ho
  · intro X o ho Y hY
    rcases hlk X o ho with ⟨rfl,rfl⟩ | ⟨rfl,rfl⟩ | ⟨n1,n2,ho⟩
    · simp[zb8] at hY
    · simp[zb8] at hY
    · obtain⟨o',ho'⟩:=S.clO X o ho Y hY;exact hdom Y o' ho'

theorem zwC {o : Oper} {t : TypeId} {x y : Operand} {A : OpAct} (S : Sim P nt B w0 h0 g σ a w) (hd : zck nt o.dst = true) (hop : o.op = .store t x y)
    (hA:act P Γ o (evO σ.env) (lk σ.objs)=A) (hs:A.safe):zfi P nt B w0 h0 r n i o A σ a w Q:=by
  simp only[act,hop] at hA
  split at hA
  · rename_i m L off d hsz hx hy
    have hx':=(zbr S hx).1
    simp only[clR] at hx'
    have hdR:=S.ev y
    have hdL:=S.evLab y
    rw[hy] at hdR hdL
    split at hA
    · rename_i ty cells hL
      obtain⟨C,hC,hr⟩:=S.obj L _ hL
      split at hA
      · rename_i hcond
        simp only[dqm,Nat.ble_eq] at hcond
        obtain⟨⟨hm,hle⟩,hok⟩:=hcond
        have hm:=dqc hm
        subst hA
        have hcr:=zfo hdR hok
        have hcl:=hcr.length
        have hrl:=hr.length
        have hvm:(a.eval y).cells.size=m:=by rw[<- hm,hcl];simp
        have hCl:cells.length=C.size:=by rw[hrl];simp
        obtain⟨w',hrun,hb,hsize,hoth,h5,h6,h7,h8⟩:=zdx (P:=P) (m:=m) (off:=off) (v:=a.eval y) hsz hvm hC (by omega) (cells_one hdR hok)
        have hown:=S.own L _ _ hL rfl
        have S' := S.write (o' := .box ty (spl cells off d.cells)) hL (fun b hb => hb) (ze0 hown.1 hsize hoth h5 h6 h7 h8) (fun b hb => hoth b (fun e => hb (by rw [e]; rfl)))
          ⟨_,hb,by simpa using hr.spl hcr off⟩ (λ M hM=>by
            rcases zrp off M hM with h | h
            · exact S.clO L _ hL M h
            · refine hdL M ?_
              cases d with
              | c z=>simpa [D1.cells,zbf,zbN] using h
              | agg cs=>simpa [D1.cells,zbf,zbN] using h)
        refine zgk (by simp[hop]) (w':=w') ?_ ⟨g,_,rfl,by rw[zbi];exact S'.put hd (d:=.junk) trivial zgU _⟩
        simp only[execOp,hop,dqd,Instr.storeAt,hx',Instr.sureAddr,dqe,dqb,hrun]
      · exact dq9 hA hs
    · exact dq9 hA hs
  · rename_i m L s ii kk d hsz hx hy
    obtain⟨b,hob,hx'⟩:=(zbr S hx).1
    have hdR:=S.ev y
    rw[hy] at hdR
    split at hA
    · rename_i e s' by' len get hL
      split at hA
      · rename_i l hl
        split at hA
        · rename_i hcond
          simp only[dqm,Nat.ble_eq] at hcond
          obtain⟨⟨hss,hm⟩,hle⟩:=hcond
          have hss:=dqc hss
          have hm:=dqc hm
          subst hss
          subst hA
          have hlt:ii < len:=hs
          have hcs:=zeM hl
          have hok:d.cells.all zpI=true:=by rw[hcs];exact zwz l
          have hcr:=zfo hdR hok
          have hcl:=hcr.length
          rw[hcs] at hcr
          have hcr:=RL.map_left.1 hcr
          obtain⟨b',C,hob',⟨cap,hsv⟩,hC,hCs,hgl,_⟩:=zf5 (S.obj L _ hL) hlt
          rw[hob] at hob';simp only[dqa] at hob';subst hob'
          have hlc:l.length=(a.eval y).cells.size:=by rw[hcs,List.length_map] at hcl;simpa using hcl
          obtain⟨w',hrun,hb,hsize,hoth,h5,h6,h7,h8⟩:=zdx (P:=P) (v:=a.eval y) hsz (by omega) hC (show ii * s+kk+m<=C.size by omega) (cells_one hdR hok)
          have hown:=S.own L _ _ hL hob
          have hvr:=zwB (S.obj L _ hL) hob hlt (by omega) hC hb hcr
          have S':=S.write (o':=.vec e s by' len (zlE ii kk get l)) hL (λ b hb=>hb) (ze0 hown.1 hsize hoth h5 h6 h7 h8) (λ k hk=>hoth k (λ e=>hk (by rw[e];exact hob))) hvr (λ M hM=>by simp[zb8] at hM)
          refine zgk (by simp[hop]) (w':=w') ?_ ⟨g,_,rfl,by rw[zbi];exact S'.put hd (d:=.junk) trivial zgU _⟩
          simp only[execOp,hop,dqd,Instr.storeAt,hx',Instr.sureAddr,dqe,dqb,hrun]
        · exact dq9 hA hs
      · exact dq9 hA hs
    · rename_i te bb e s' by' len ln get hL
      split at hA
      · rename_i M
        split at hA
        · rename_i e2 s2 b2 mm get2 hM
          split at hA
          · rename_i hcond
            simp only[dqm,Bool.not_eq_true'] at hcond
            obtain⟨⟨⟨h1,h2⟩,h3⟩,h4⟩:=hcond
            have h1:=dqc h1
            have h2:=dqc h2
            have h3:=dqc h3
            have h4:=Nat.ne_of_beq_eq_false h4
            subst h1 h2 h3
            split at hA
            · rename_i hq
              obtain⟨rfl,rfl,rfl⟩:=hq
              subst hA
              have hlt:ii < len/\ln ii=0/\0 < mm:=hs
              obtain⟨b',C,cap,hsv,hC,hcell,hone⟩:=zoB (S.obj L _ hL) hlt.1
              obtain⟨_,hB,hsz2⟩:∃ _:True,B<=b'/\ii < C.size:=⟨trivial,(S.own L _ b' hL (.inl (by rw[hsv];rfl))).1,(dqp.1 hcell).1⟩
              rw[hsv] at hob;simp only[Value.ownBlock,dqa] at hob;subst hob
              have hyv:a.eval y=g.sv M/\_:=hdR
              have hcl:(a.eval y).cells = #[g.sv M]:=by
                obtain⟨_,_,xsM,hxM,_⟩:=S.obj M _ hM
                rw[hyv.1]
                rcases hxM.2 with ⟨h1,_⟩ | ⟨_,_,_,h1,_⟩ <;> rw[h1] <;> rfl
              have hoc:(g.sv M).oneCell'=true:=by
                obtain⟨_,_,xsM,hxM,_⟩:=S.obj M _ hM
                rcases hxM.2 with ⟨h1,_⟩ | ⟨_,_,_,h1,_⟩ <;> rw[h1] <;> rfl
              obtain⟨w',hrun,hb,hsize,hoth,h5,h6,h7,h8⟩:=zdx (P:=P) (m:=1) (off:=ii * 1+0) (v:=a.eval y) hsz (by rw[hcl];rfl) hC (by omega) (by rw[hcl];simpa using hoc)
              have hb':w'.heap[b']? = some (.cells (C.setIfInBounds ii (g.sv M)) te (0,0)):=by
                rw[hb,hcl]
                congr 2
                simp only[spl]
                apply Array.toList_inj.1
                simp
              have S':=S.setVec hL hM h4 hlt.1 hlt.2.1 hlt.2.2 (by rw[hsv];rfl) hC hb' hoth (ze0 hB hsize hoth h5 h6 h7 h8)
              refine zgk (by simp[hop]) (w':=w') ?_ ⟨_,_,rfl,by rw[zbi];exact S'.put hd (d:=.junk) trivial zgU _⟩
              simp only[execOp,hop,dqd,Instr.storeAt,hx',Instr.sureAddr,dqe,dqb,hrun]
            · exact dq9 hA hs
          · exact dq9 hA hs
        · exact dq9 hA hs
      · exact dq9 hA hs
    · rename_i te bb kt vt q len mk nn F hL
      split at hA
      · rename_i M
        split at hA
        · rename_i kt' vt' q' mm F' hM
          split at hA
          · rename_i hcond
            simp only[dqm,Bool.not_eq_true'] at hcond
            obtain⟨⟨⟨h1,h2⟩,h3⟩,h4⟩:=hcond
            have h1:=dqc h1
            have h2:=dqc h2
            have h3:=dqc h3
            have h4:=Nat.ne_of_beq_eq_false h4
            subst h1 h2 h3
            split at hA
            · rename_i hq
              obtain⟨rfl,rfl,rfl⟩:=hq
              subst hA
              have hlt:ii < len/\mk ii=false:=hs
              obtain⟨b',C,cap,hsv,hC,hcell,hone,hsz2,hB⟩:=zoC (S.obj L _ hL) hlt.1
              rw[hsv] at hob;simp only[Value.ownBlock,dqa] at hob;subst hob
              have hyv:a.eval y=.map (some (zdV (g.sv M))):=hdR
              have hcl:(a.eval y).cells = #[.map (some (zdV (g.sv M)))]:=by rw[hyv];rfl
              obtain⟨w',hrun,hb,hsize,hoth,h5,h6,h7,h8⟩:=zdx (P:=P) (m:=1) (off:=ii * 1+0) (v:=a.eval y) hsz (by rw[hcl];rfl) hC (by omega) (by rw[hcl];simp[Value.oneCell'])
              have hb':w'.heap[b']? = some (.cells (C.setIfInBounds ii (.map (some (zdV (g.sv M))))) te (0,0)):=by
                rw[hb,hcl]
                congr 2
                simp only[spl]
                apply Array.toList_inj.1
                simp
              have S':=S.setMap hL hM h4 hlt.1 hlt.2 (by rw[hsv];rfl) hC hb' hoth (ze0 hB hsize hoth h5 h6 h7 h8)
              refine zgk (by simp[hop]) (w':=w') ?_ ⟨_,_,rfl,by rw[zbi];exact S'.put hd (d:=.junk) trivial zgU _⟩
              simp only[execOp,hop,dqd,Instr.storeAt,hx',Instr.sureAddr,dqe,dqb,hrun]
            · exact dq9 hA hs
          · exact dq9 hA hs
        · exact dq9 hA hs
      · exact dq9 hA hs
    · exact dq9 hA hs
  · rename_i m L s ii jj kk d hsz hx hy
    obtain⟨b,hob,hx'⟩:=(zbr S hx).1
    have hdR:=S.ev y
    rw[hy] at hdR
    split at hA
    · rename_i te bb e s' by' len ln get hL
      split at hA
      · rename_i l hl
        split at hA
        · rename_i hcond
          simp only[dqm,Nat.ble_eq] at hcond
          obtain⟨⟨hss,hm⟩,hle⟩:=hcond
          have hss:=dqc hss
          have hm:=dqc hm
          subst hss
          subst hA
          have hlt:ii < len/\jj < ln ii:=hs
          have hcs:=zeM hl
          have hok:d.cells.all zpI=true:=by rw[hcs];exact zwz l
          have hcr:=zfo hdR hok
          have hcl:=hcr.length
          rw[hcs] at hcr
          have hcr:=RL.map_left.1 hcr
          obtain⟨b',C,hob',⟨cap,hsv⟩,hC,hCs,hgl,_⟩:=zoD (S.obj L _ hL) hlt.1 hlt.2
          rw[hob] at hob';simp only[dqa] at hob';subst hob'
          have hlc:l.length=(a.eval y).cells.size:=by rw[hcs,List.length_map] at hcl;simpa using hcl
          obtain⟨w',hrun,hb,hsize,hoth,h5,h6,h7,h8⟩:=zdx (P:=P) (v:=a.eval y) hsz (by omega) hC (show jj * s+kk+m<=C.size by omega) (cells_one hdR hok)
          have hobL:obk g L (.vv te bb e s by' len ln get) b:=.inr ⟨ii,hlt.1,hob⟩
          have hown:=S.own L _ b hL hobL
          have hvr:=zKu (S.obj L _ hL) hlt.1 hob hlt.2 (by omega) hC hb hoth hcr
          have S':=S.write (o':=.vv te bb e s by' len ln (zq9 ii jj kk get l)) hL (λ b hb=>hb) (ze0 hown.1 hsize hoth h5 h6 h7 h8) (λ k hk=>hoth k (λ e=>hk (by rw[e];exact hobL))) hvr (λ M hM=>by simp[zb8] at hM)
          refine zgk (by simp[hop]) (w':=w') ?_ ⟨g,_,rfl,by rw[zbi];exact S'.put hd (d:=.junk) trivial zgU _⟩
          simp only[execOp,hop,dqd,Instr.storeAt,hx',Instr.sureAddr,dqe,dqb,hrun]
        · exact dq9 hA hs
      · exact dq9 hA hs
    · exact dq9 hA hs
  · rename_i m L b m' n' j c d hsz hx hy
    obtain⟨hj,hx'⟩:=(zbr S hx).1
    have hdR:=S.ev y
    have hdL:=S.evLab y
    rw[hy] at hdR hdL
    split at hA
    · rename_i ty cells vs hL hvs
      obtain⟨C,hC,hr⟩:=S.obj L _ hL
      split at hA
      · rename_i hcond
        simp only[dqm] at hcond
        obtain⟨hm,hxk⟩:=hcond
        have hm:=dqc hm
        obtain⟨hall,hle⟩:=zwi hxk hj
        subst hA
        have hok:=(zoF hvs).2
        have hcr:=zfo hdR hok
        have hcl:=hcr.length
        have hrl:=hr.length
        have hvm:(a.eval y).cells.size=m:=by rw[<- hm,hcl];simp
        have hCl:cells.length=C.size:=by rw[hrl];simp
        obtain⟨w',hrun,hb,hsize,hoth,h5,h6,h7,h8⟩:=zdx (P:=P) (m:=m) (off:=b+j * n'+c) (v:=a.eval y) hsz hvm hC (by omega) (cells_one hdR hok)
        have hown:=S.own L _ _ hL rfl
        have heq:=zrm d.cells vs cells (b+j * n'+c) hall hvs (by omega)
        have S' := S.write (o' := .box ty (spl cells (b + j * n' + c) d.cells)) hL (fun b hb => hb) (ze0 hown.1 hsize hoth h5 h6 h7 h8) (fun b hb => hoth b (fun e => hb (by rw [e]; rfl)))
          ⟨_,hb,by simpa using hr.spl hcr (b+j * n'+c)⟩ (λ M hM=>by
            rcases zrp _ M hM with h | h
            · exact S.clO L _ hL M h
            · refine hdL M ?_
              cases d with
              | c z=>simpa [D1.cells,zbf,zbN] using h
              | agg cs=>simpa [D1.cells,zbf,zbN] using h)
        rw[heq] at S'
        refine zgk (by simp[hop]) (w':=w') ?_ ⟨g,_,rfl,by rw[zbi];exact S'.put hd (d:=.junk) trivial zgU _⟩
        simp only[execOp,hop,dqd,Instr.storeAt,hx',Instr.sureAddr,dqe,dqb,hrun]
      · exact dq9 hA hs
    · exact dq9 hA hs
  · rename_i m L s ii b m' n' j c d hsz hx hy
    obtain⟨hj,k,hob,hx'⟩:=(zbr S hx).1
    have hdR:=S.ev y
    rw[hy] at hdR
    split at hA
    · rename_i e s' by' len get vs hL hvs
      split at hA
      · rename_i hcond
        simp only[dqm] at hcond
        obtain⟨⟨⟨hss,hm⟩,hxk⟩,hgl0⟩:=hcond
        have hss:=dqc hss
        have hm:=dqc hm
        have hgl0:=dqc hgl0
        obtain⟨hall,hle⟩:=zwi hxk hj
        rw[List.length_map,hgl0] at hle
        subst hss
        subst hA
        have hlt:ii < len:=hs
        obtain⟨hcs,hok⟩:=zoF hvs
        have hcr:=zfo hdR hok
        have hcl:=hcr.length
        rw[hcs] at hcr
        have hcr:=RL.map_left.1 hcr
        obtain⟨b',C,hob',⟨cap,hsv⟩,hC,hCs,hgl,_⟩:=zf5 (S.obj L _ hL) hlt
        rw[hob] at hob';simp only[dqa] at hob';subst hob'
        have hlc:(vs.map (PV.int .i64)).length=(a.eval y).cells.size:=by rw[hcs,List.length_map] at hcl;simpa using hcl
        have hlm:(vs.map (PV.int .i64)).length=m:=by rw[<- hm,hcs];simp
        obtain⟨w',hrun,hb,hsize,hoth,h5,h6,h7,h8⟩:=zdx (P:=P) (v:=a.eval y) hsz (by omega) hC (show ii * s+(b+j * n'+c)+m<=C.size by omega) (cells_one hdR hok)
        have hown:=S.own L _ _ hL hob
        have hvr:=zwB (S.obj L _ hL) hob hlt (by omega) hC hb hcr
        have hget:zlE ii (b+j * n'+c) get (vs.map (PV.int .i64))=zlE ii 0 get (zvR 0 s (zFE (b+j * n'+c) vs (zkt ((get ii).map .p)))):=by
          funext q
          unfold zlE
          cases hq:Nat.beq q ii with
          | false=>rfl
          | true =>
            have:=dqc hq
            subst this
            have h1:=zrm d.cells vs ((get q).map .p) (b+j * n'+c) hall hvs (by rw[List.length_map,hgl0];omega)
            rw[hcs,List.length_map,hgl0,<- zwk] at h1
            have h1:=zKp h1
            show spl (get q) (b+j * n'+c) (vs.map (PV.int .i64))=spl (get q) 0 _
            rw[h1]
            have h2:=zwl (get q) (zvR 0 s (zFE (b+j * n'+c) vs (zkt ((get q).map .p)))) [] (by rw[zoE,hgl0])
            simpa using h2.symm
        rw[hget] at hvr
        have S':=S.write (o':=.vec e s by' len (zlE ii 0 get (zvR 0 s (zFE (b+j * n'+c) vs (zkt ((get ii).map .p)))))) hL (λ b hb=>hb) (ze0 hown.1 hsize hoth h5 h6 h7 h8) (λ k hk=>hoth k (λ e=>hk (by rw[e];exact hob))) hvr (λ M hM=>by simp[zb8] at hM)
        refine zgk (by simp[hop]) (w':=w') ?_ ⟨g,_,rfl,by rw[zbi];exact S'.put hd (d:=.junk) trivial zgU _⟩
        simp only[execOp,hop,dqd,Instr.storeAt,hx',Instr.sureAddr,dqe,dqb,hrun]
      · exact dq9 hA hs
    · exact dq9 hA hs
  · exact dq9 hA hs
end
end Go.Pm
namespace Go.Pm
variable [DrawZ]
open Go.RowKit (Below)

section
variable {P:Program}{Γ:Ctrs}{nt B:Nat}{w0:World}{h0:Fz}{g:Gh}{σ:St}{a:Act}{w:World}{r:Option Nat}{n i:Nat}{Q:Exit->Act->World->Prop}

theorem zmd {ob : Nat → Option AO} : ∀ {cs : List Cl} {l : List PV} {u : Upd}, ze3 ob cs = some (l, u) → cs.all zpI = true ∧ l.length = cs.length
  | [],l,u,h=>by simp[ze3] at h;rw[h.1];exact⟨rfl,rfl⟩
  | c :: cs,l,u,h=>by
    simp only[ze3] at h
    split at h
    · rename_i v u1 l2 u2 h1 h2
      simp only[dqa,dqh] at h;rw[<- h.1]
      obtain⟨h3,h4⟩:=zmd h2
      refine⟨?_,by simp[h4]⟩
      have:zpI c=true:=by
        unfold zu0 at h1
        split at h1
        · rfl
        · rfl
        · rfl
        · cases h1
      simp[this,h3]
    · cases h

theorem znI {ob:Nat->Option AO}{ev:Operand->DV}{s:Nat} : ∀ (parts:List (Nat×Operand)) (i:Nat) (ls:List (List PV)) (u:Upd) (labs:List Nat),
  zdT ob ev s i parts=some (ls,u,labs)->zei ob u
 | [],i,ls,u,labs,h=>by simp[zdT] at h;rw[h.2.1];exact zei.nil ob
 | (j,o) :: r,i,ls,u,labs,h=>by
  simp only[zdT] at h
  split at h
  ·split at h
   ·split at h
    ·rename_i h1 h2
     split at h
     ·simp only [dqa, dqh] at h
      rw[<- h.2.1]
      exact (zoz h1).append (znI r _ _ _ _ h2)
     ·cases h
    ·cases h
   ·cases h
  ·cases h

theorem znJ {ob : Nat → Option AO} {ev : Operand → DV} {ρ : Operand → Value} {s : Nat} {u' : Upd} {h' : Fz} (hev : ∀ o, dvR g (ev o) (ρ o)) (F : Frozen g ob u' h') :
    ∀ (parts:List (Nat×Operand)) (i:Nat) (ls:List (List PV)) (u:Upd) (labs:List Nat) (C:Array Value) (N:Nat),zdT ob ev s i parts=some (ls,u,labs)->(∀ y∈u,y∈u') ->
      C.size=N * s->i+ls.length<=N ->
      ∃ D:Array Value,Instr.fill (λ k=>some (k * s,s)) C (parts.map λ x=>(x.1,ρ x.2))=some D/\D.size=C.size/\(∀ q,q < i * s->D[q]? = C[q]?) /\
        ∀ k l,ls[k]? = some l->RL (Rep h') l ((D.toList.drop ((i+k) * s)).take s)
  | [],i,ls,u,labs,C,N,h,hu,hC,hN=>by
    simp[zdT] at h
    refine⟨C,rfl,rfl,λ _ _=>rfl,?_⟩
    intro k l hk;rw[h.1] at hk;simp at hk
  | (j,o) :: r,i,ls,u,labs,C,N,h,hu,hC,hN=>by
    have hd:=hev o
    simp only[zdT] at h
    split at h
    · rename_i hij
      have hij:=dqc hij
      subst hij
      split at h
      · rename_i d he
        rw[he] at hd
        split at h
        · rename_i l1 u1 ls1 us1 labs1 h1 h2
          split at h
          · rename_i hlen
            have hlen:=dqc hlen
            simp only[dqa,dqh] at h
            obtain⟨hls,hus,_⟩:=h
            subst hls
            rw[<- hus] at hu
            obtain⟨hok,hll⟩:=zmd h1
            have hcr:=zfo hd hok
            have hcl:=hcr.length
            have hrep:=F.repL0 h1 (λ y hy=>hu y (dqg.2 (.inl hy))) hcr
            have hvs : (ρ o).cells.size = s := by have : (ρ o).cells.toList.length = (ρ o).cells.size := by simp
                                                  omega
            simp only[dqr] at hN
            have hb:i * s+s<=N * s:=by have:=dqw s (show i+1<=N by omega);rw[dqV] at this;exact this
            obtain ⟨D, hD, hDs, hlow, hel⟩ := znJ hev F r (i + 1) ls1 us1 labs1 (spl C.toList (i * s) (ρ o).cells.toList).toArray N h2 (fun y hy => hu y (dqg.2 (.inr hy)))
              (by simp[zfy,hC]) (by omega)
            have hsz:(spl C.toList (i * s) (ρ o).cells.toList).toArray.size=C.size:=by simp[zfy]
            have hget:∀ q,(spl C.toList (i * s) (ρ o).cells.toList).toArray[q]? = if i * s<=q/\q < i * s+s then (ρ o).cells.toList[q - i * s]? else C[q]?:=by
              intro q
              simp only[List.getElem?_toArray]
              rw[zoy _ _ _ _ (by simp[hvs,hC];omega)]
              simp[hvs]
            refine⟨D,?_,hDs.trans hsz,?_,?_⟩
            · simp only [dqK, Instr.fill]
              have h3 : ¬ ((decide ((ρ o).cells.size ≠ s) || decide (i * s+(ρ o).cells.size > C.size))=true):=by simp[hvs,hC];omega
              rw[if_neg h3,<- hD]
              refine congrArg (λ z=>Instr.fill _ z _) ?_
              have:=zl8 (i * s) (ρ o).cells.toList 0 C
              rw[Nat.add_zero] at this
              rw[<- this]
              cases (ρ o).cells
              simp
            · intro q hq
              rw[hlow q (by rw[dqV];omega),hget,if_neg (by omega)]
            · intro k l hk
              cases k with
              | zero =>
                simp only[List.getElem?_cons_zero,dqa] at hk
                subst hk
                have e:(D.toList.drop ((i+0) * s)).take s=(ρ o).cells.toList:=by
                  apply List.ext_getElem?
                  intro q
                  by_cases hq:q < s
                  · rw [dqs, if_pos hq, dqI, Nat.add_zero]
                    have:=hlow (i * s+q) (by rw[dqV];omega)
                    rw[hget,if_pos (by omega),show i * s+q - i * s=q by omega] at this
                    simpa using this
                  · rw [dqs, if_neg hq]
                    symm;apply dqM;simp[hvs];omega
                rw[e];exact hrep
              | succ k =>
                have:=hel k l (by simpa using hk)
                rwa[show i+1+k=i+(k+1) by omega] at this
          · cases h
        · cases h
      · cases h
    · cases h

theorem zoL (ls:List (List PV)) (k:Nat) (h:k < ls.length):ls[k]? = some (zCz ls k):=by
 unfold zCz
 split
 ·simp at h
 ·rename_i c;simp at h;subst h;rfl
 ·rename_i c r _
  have:∃ x,(c :: r)[k]? = some x:=⟨_,dqD h⟩
  obtain⟨x,hx⟩:=this
  simp only[hx]

theorem zcX {e:TypeId}{z:List Cl}(hz:zel P e=some z){ie:TypeInfo}(hi:P.info? e=some ie):∃ v,ie.zero=some v/\v.cells.size=ie.size:=by
 obtain⟨i',v,h1,h2,h3⟩:=zv9 hz
 rw[hi] at h1;simp only[dqa] at h1;subst h1
 exact⟨v,h2,h3⟩

theorem zrv {o : Oper} {t : TypeId} {m : Nat} {parts : Array (Nat × Operand)} {A : OpAct} (S : Sim P nt B w0 h0 g σ a w) (hd : zck nt o.dst = true) (hop : o.op = .buildSlice t m parts)
    (hA:ziH P o t m parts.toList (evO σ.env) (lk σ.objs)=A) (hs:A.safe):zfi P nt B w0 h0 r n i o A σ a w Q:=by
  unfold ziH at hA
  split at hA
  · rename_i te x dst hu hparts hdst
    split at hA
    · rename_i ie z M hi hz hx
      split at hA
      · rename_i e s b m0 get hM hfresh
        split at hA
        · rename_i hcond
          simp only[dqm,Nat.ble_eq] at hcond
          obtain⟨⟨hm1,hs1⟩,hbig⟩:=hcond
          have hm1:=dqc hm1
          have hs1:=dqc hs1
          subst hm1
          subst hA
          obtain⟨zv,hzv,hzs⟩:=zcX hz hi
          have hsz:szT P te=some 1:=by simp[szT,hi,hs1]
          obtain⟨hxv,hone⟩:=(zbr S hx).1
          have hcells:(a.eval x).cells = #[a.eval x]:=by
            revert hone
            generalize a.eval x=v
            intro hone
            cases v <;> first | rfl | cases hone
          let w':=w.alloc (.cells #[a.eval x] te)
          have hrun:(execOp a.eval o).run P w=.ok (.value (.slice (some ⟨w.heap.size,0,none⟩) 1 1)) w':=by
            simp only[execOp,hop,Instr.buildSlice,dqd,run_underlying hu,dqb,run_sizeOf hsz]
            rw[Sem.run_ite,if_neg (by decide),if_neg (by decide)]
            simp only[dqd,zdf hi hzv,dqe,dqb,Array.toList_map,hparts,dqK,List.map_nil]
            have hz1:((Array.range (1 * 1)).map (zv.cells[· % zv.cells.size]!)).setIfInBounds 0 (a.eval x) = #[a.eval x]:=by
              apply Array.ext
              · simp
              · intro i h1 h2
                simp at h2;subst h2;simp
            simp only[Nat.mul_one] at hz1
            simp[Instr.fill,hcells,w',newRow,hz1]
          let g':=g.setVv dst (.slice (some ⟨w.heap.size,0,none⟩) 1 1) (λ _=>g.sv M)
          have hne:∀ L o,lk σ.objs L=some o->L ≠ dst:=λ L o h e=>by subst e;rw[hfresh] at h;cases h
          have hsame:∀ L o,lk σ.objs L=some o->zd0 g g' L:=λ L o h=>⟨rfl,by simp[g',Gh.setVv,hne L o h],by simp[g',Gh.setVv,hne L o h]⟩
          have hsv:g'.sv dst=.slice (some ⟨w.heap.size,0,none⟩) 1 1:=by simp[g',Gh.setVv]
          have hiv:∀ i,g'.iv dst i=g.sv M:=λ i=>by simp[g',Gh.setVv]
          have hold:∀ k,k < w.heap.size->w'.heap[k]? = w.heap[k]?:=λ k hk=>heap_alloc_old w _ k hk
          obtain⟨hpos,hinfo,xs,hxs,hr⟩:=S.obj M _ hM
          have hlk:∀ L o,lk ((dst,AO.vv te ie.bytes e s b 1 (λ _=>m0) (λ _=>get)) :: (M,.gone) :: σ.objs) L=some o ->
              (L=dst/\o=.vv te ie.bytes e s b 1 (λ _=>m0) (λ _=>get))\/(o=.gone)\/(L ≠ dst/\L ≠ M/\lk σ.objs L=some o):=by
            intro L o h
            rw[zay] at h
            split at h
            · rename_i e';simp only[dqa] at h;exact .inl ⟨e'.symm,h.symm⟩
            · rename_i e1
              rw[zay] at h
              split at h
              · simp only[dqa] at h;exact .inr (.inl h.symm)
              · rename_i e2;exact .inr (.inr ⟨λ e=>e1 e.symm,λ e=>e2 e.symm,h⟩)
          have hdom:∀ L o,lk σ.objs L=some o->∃ o',lk ((dst,AO.vv te ie.bytes e s b 1 (λ _=>m0) (λ _=>get)) :: (M,.gone) :: σ.objs) L=some o':=by
            intro L o h
            rw[zay];split
            · exact⟨_,rfl⟩
            · rw [zay]; split
              · exact⟨_,rfl⟩
              · exact⟨_,h⟩
          have hobk:∀ k,obk g' dst (.vv te ie.bytes e s b 1 (λ _=>m0) (λ _=>get)) k->k=w.heap.size\/obk g M (.vec e s b m0 get) k:=by
            intro k hk
            rcases hk with hk | ⟨i,_,hk⟩
            · rw[hsv] at hk;simp only[Value.ownBlock,dqa] at hk;exact .inl hk.symm
            · rw[hiv] at hk;exact .inr hk
          have S1:Sim P nt B w0 h0 g' { σ with objs:=(dst,.vv te ie.bytes e s b 1 (λ _=>m0) (λ _=>get)) :: (M,.gone) :: σ.objs } a w':=by
            refine S.change (g':=g') hsame (λ _ _ h=>h) ?_ (λ b o h=>.inl h) (Bel.of ⟨(Below.refl B w).alloc S.bs _,dqt _⟩) ?_ ?_ ?_ hdom ?_
            · exact S.hw.same λ b o h=>hold b (ziK S.hw h)
            · intro L o ho
              rcases hlk L o ho with ⟨rfl,rfl⟩ | rfl | ⟨_,_,ho⟩
              · refine ⟨hpos, ⟨ie, zv, hi, hs1, rfl, hzv, by rw [hzs, hs1]⟩, hinfo, ?_, fun i hi' => ⟨by rw [hiv, ← hxv]; exact hone, fun e0 => absurd (show 0 < m0 from hs) (by have e0' : m0 = 0 := e0; omega), xs, by rw [hiv]; exact zb1 hxs fun k hk => hold k ((hxs.lt k hk).2), hr⟩, ?_⟩
                · rw [hsv]
                  refine⟨by simp,.inr ⟨w.heap.size,1,#[a.eval x],rfl,S.bs,heap_alloc_new w _,dqt _,by simp[maxLen],rfl,?_⟩⟩
                  simp[hiv,hxv]
                · intro i k hi' hk
                  rw[hiv] at hk
                  refine⟨λ h=>?_,λ j hj _=>by omega⟩
                  rw[hsv] at h;simp only[Value.ownBlock,dqa] at h
                  have:=(hxs.lt k hk).2
                  omega
              · trivial
              · exact zcV (S.obj L o ho) (hsame L o ho) (λ N hN=>by obtain⟨o',ho'⟩:=S.clO L o ho N hN;exact hsame N o' ho') (λ _ _ h=>h) λ k hk=>hold k (zc4 (S.obj L o ho) hk)
            · intro L o k ho hk
              rcases hlk L o ho with ⟨rfl,rfl⟩ | rfl | ⟨_,_,ho⟩
              · rcases hobk k hk with rfl | hk
                · refine ⟨S.bs, ?_⟩
                  cases hh:g.h w.heap.size with
                  | none=>exact hh
                  | some x=>exact absurd (ziK S.hw hh) (by omega)
                · exact S.own M _ k hM hk
              · exact hk.elim
              · rw[zbK (hsame L o ho)] at hk;exact S.own L o k ho hk
            · intro L o k L' o' ho ho' hk hk'
              have cross:∀ L o,L ≠ M->lk σ.objs L=some o->obk g L o k->(k=w.heap.size\/obk g M (.vec e s b m0 get) k)->False:=by
                intro L o hne ho hk h
                rcases h with rfl | h
                · exact absurd (zc4 (S.obj L o ho) hk) (by omega)
                · exact hne (S.sep L o k M _ ho hM hk h)
              rcases hlk L o ho with ⟨rfl,rfl⟩ | rfl | ⟨_,hneM,ho2⟩ <;> rcases hlk L' o' ho' with ⟨rfl,rfl⟩ | rfl | ⟨_,hne',ho2'⟩
              · rfl
              · exact hk'.elim
              · rw[zbK (hsame L' o' ho2')] at hk';exact (cross L' o' hne' ho2' hk' (hobk k hk)).elim
              · exact hk.elim
              · exact hk.elim
              · exact hk.elim
              · rw[zbK (hsame L o ho2)] at hk;exact (cross L o hneM ho2 hk (hobk k hk')).elim
              · exact hk'.elim
              · rw [zbK (hsame L o ho2)] at hk; rw [zbK (hsame L' o' ho2')] at hk'
                exact S.sep L o k L' o' ho2 ho2' hk hk'
            · intro L o ho N hN
              rcases hlk L o ho with ⟨rfl,rfl⟩ | rfl | ⟨_,_,ho⟩
              · simp[zb8] at hN
              · simp[zb8] at hN
              · obtain⟨o',ho'⟩:=S.clO L o ho N hN;exact hdom N o' ho'
          refine zem (by simp[hop]) hrun ⟨g',_,rfl,?_⟩
          rw[zbi]
          refine S1.put (σ:={ σ with objs:=(dst,AO.vv te ie.bytes e s b 1 (λ _=>m0) (λ _=>get)) :: (M,.gone) :: σ.objs }) hd (d:=.cl (.vec dst)) ⟨hsv.symm,rfl⟩ ?_ _
          intro L hL
          simp[zbf,zbN,zaE] at hL
          subst hL
          exact⟨_,by rw[zay,if_pos rfl]⟩
        · exact dq9 hA hs
      · exact dq9 hA hs
    · exact dq9 hA hs
  · exact dq9 hA hs

theorem znr {o : Oper} {t : TypeId} {m : Nat} {parts : Array (Nat × Operand)} {A : OpAct} (S : Sim P nt B w0 h0 g σ a w) (hd : zck nt o.dst = true) (hop : o.op = .buildSlice t m parts)
    (hA:act P Γ o (evO σ.env) (lk σ.objs)=A) (hs:A.safe):zfi P nt B w0 h0 r n i o A σ a w Q:=by
  simp only[act,hop] at hA
  split at hA
  · exact zrv S hd hop hA hs
  split at hA
  · rename_i e hu
    split at hA
    · rename_i ie hi
      split at hA
      · rename_i ls u labs hp
        split at hA
        · rename_i z dst hcond hz hdst
          split at hA
          · rename_i hfresh
            simp only[dqm,Nat.ble_eq] at hcond
            obtain⟨⟨hm,hbig⟩,hpos⟩:=hcond
            have hm:=dqc hm
            subst hA
            obtain⟨zv,hzv,hzs⟩:=zcX hz hi
            have hok:=znI _ _ _ _ _ hp
            obtain⟨h',S1,F⟩:=S.freeze hok
            have hsz:szT P e=some ie.size:=by simp[szT,hi]
            obtain⟨D,hD,hDs,_,hel⟩:=znJ (λ x=>S.ev x) F parts.toList 0 ls u labs ((Array.range (m * ie.size)).map (zv.cells[· % zv.cells.size]!)) m hp (λ _ h=>h) (by simp) (by omega)
            have hDsz:D.size=m * ie.size:=by rw[hDs];simp
            have hmm:m<=1000000:=dqE (Nat.le_mul_of_pos_right m hpos) hbig
            let w':=w.alloc (.cells D e)
            have hrun:(execOp a.eval o).run P w=.ok (.value (.slice (some ⟨w.heap.size,0,none⟩) m m)) w':=by
              simp only[execOp,hop,Instr.buildSlice,dqd,run_underlying hu,dqb,run_sizeOf hsz]
              rw[Sem.run_ite,if_neg (by omega)]
              by_cases h00:m * ie.size=0
              · have hm0 : m = 0 := by rcases Nat.mul_eq_zero.1 h00 with h | h; · exact h
                                       · omega
                subst hm0
                have hpn:parts.toList=[]:=by
                  cases hpl:parts.toList with
                  | nil=>rfl
                  | cons x xs =>
                    rw[hpl] at hp
                    obtain⟨j,q⟩:=x
                    simp only[zdT] at hp
                    split at hp
                    · split at hp
                      · split at hp
                        · split at hp
                          · simp only [dqa, dqh] at hp
                            rw[<- hp.1] at hm;simp at hm
                          · cases hp
                        · cases hp
                      · cases hp
                    · cases hp
                have hDe:D = #[]:=by apply Array.eq_empty_of_size_eq_zero;simp[hDsz]
                rw[if_pos (by simp)]
                simp only[dqd,dqe,dqb,Array.toList_map,hpn,List.map_nil,Instr.fill]
                simp only[hDe,newRow,Nat.zero_mul,dqd,run_newObj,dqb,dqe,w']
                rw[show (Array.range 0) = #[] from rfl,List.map_toArray];rfl
              · rw [if_neg h00]
                simp only[dqd,zdf hi hzv,dqe,dqb,Array.toList_map]
                rw[hD]
                simp[w',newRow]
            have hvec:ztG P ((⟨h',g.bk,g.sv,g.iv⟩:Gh).setSv dst (.slice (some ⟨w.heap.size,0,none⟩) m m)) w' B dst e ie.size ie.bytes m (zCz (ls.map (zCs P e))):=by
              refine⟨hpos,⟨ie,zv,hi,rfl,rfl,hzv,hzs⟩,D.toList,?_,?_⟩
              · rw [show ((⟨h', g.bk, g.sv, g.iv⟩ : Gh).setSv dst (.slice (some ⟨w.heap.size, 0, none⟩) m m)).sv dst = .slice (some ⟨w.heap.size, 0, none⟩) m m by simp [Gh.setSv]]
                refine⟨by simpa using hDsz,.inr ⟨w.heap.size,m,D,rfl,S.bs,heap_alloc_new w _,dqt _,?_,hDsz,?_⟩⟩
                · simp only[maxLen];omega
                · rw[<- hDsz,<- Array.length_toList,List.take_length]
              · intro k hk
                have:=hel k _ (zoL ls k (by omega))
                rw[Nat.zero_add] at this
                have e2:zCz (ls.map (zCs P e)) k=zCs P e (zCz ls k):=by
                  have h1:=zoL (ls.map (zCs P e)) k (by rw[List.length_map];omega)
                  rw[dqH,zoL ls k (by omega),Option.map_some,dqa] at h1
                  exact h1.symm
                rw[e2]
                exact ztF this
            have hfr2:lk (u ++ σ.objs) dst=none:=by
              rw[zdm]
              cases hl:lk u dst with
              | none=>exact hfresh
              | some x =>
                have:=hok _ (zcP hl)
                rcases this with ⟨_,_,_,_,_,h5,_⟩ | ⟨_,_,_,_,h5,_⟩ | ⟨_,_,_,_,_,_,_,_,h5,_⟩ | ⟨_,_,_,_,_,_,_,_,_,h5,_⟩ | ⟨_,_,_,_,_,h5,_⟩ <;> (simp only at h5;rw[hfresh] at h5;cases h5)
            have S2:=S1.newVec (t:=dst) (w':=w') hfr2 ⟨(Below.refl B w).alloc S.bs _,dqt _⟩ (λ b hb=>heap_alloc_old w _ b hb) (λ b hb=>by simp[Value.ownBlock] at hb;omega) hvec
            refine zem (by simp[hop]) hrun ⟨(⟨h',g.bk,g.sv,g.iv⟩:Gh).setSv dst (.slice (some ⟨w.heap.size,0,none⟩) m m),σ.upd i o.dst (wr labs ++ [(dst,true)]) (.cl (.vec dst)) ((dst,.vec e ie.size ie.bytes m (zCz (ls.map (zCs P e)))) :: u) [],rfl,?_⟩
            rw[zbi]
            refine S2.put (v:=.slice (some ⟨w.heap.size,0,none⟩) m m) hd (d:=.cl (.vec dst)) ?_ ?_ _
            · simp[dvR,d1R,clR,Gh.setSv,Value.oneCell']
            · intro L hL
              simp[zbf,zbN,zaE] at hL
              subst hL
              exact⟨_,by rw[zay,if_pos rfl]⟩
          · exact dq9 hA hs
        · exact dq9 hA hs
      · exact dq9 hA hs
    · exact dq9 hA hs
  · exact dq9 hA hs
end
end Go.Pm
namespace Go.Pm
variable [DrawZ]
open Go.RowKit (Below)

theorem zf7 {α:Type}{f:α->α}{l:List (Nat×α)}{k:Nat} : lk (kills f l) k=(lk l k).map f:=by
 induction l with
 | nil=>rfl
 | cons x l ih =>
  obtain⟨j,a⟩:=x
  rw[kills,zay,zay]
  split
  ·rfl
  ·exact ih

section
variable {P:Program}{Γ:Ctrs}{nt B:Nat}{w0:World}{h0:Fz}{g:Gh}{σ:St}{a:Act}{w:World}{r:Option Nat}{n i:Nat}{Q:Exit->Act->World->Prop}

theorem zwD {l:List Nat}{g':Gh}(hh:Fle g.h g'.h) (hbk:∀ M,g'.bk M=g.bk M) (hs:∀ M,M ∉ l->zd0 g g' M){c:Cl}{x:Value}(h:clR g c x):clR g' (zco l c) x:=by
 cases c with
 | p v=>exact Rep.mono hh h
 | ptr M off=>simp only[zco,clR] at h ⊢;rw[hbk M];exact h
 | vptr M s k q =>
  show clR g' (match l.contains M with | true=>.dead M | false=>.vptr M s k q) x
  cases hM:l.contains M with
  | true=>trivial
  | false =>
   have hne:M ∉ l:=by simpa using hM
   simpa [clR,(hs M hne).2.1] using h
 | vec M =>
  show clR g' (match l.contains M with | true=>.dead M | false=>.vec M) x
  cases hM:l.contains M with
  | true=>trivial
  | false =>
   have hne:M ∉ l:=by simpa using hM
   simpa [clR,(hs M hne).2.1] using h
 | ivec M ii =>
  show clR g' (match l.contains M with | true=>.dead M | false=>.ivec M ii) x
  cases hM:l.contains M with
  | true=>trivial
  | false =>
   have hne:M ∉ l:=by simpa using hM
   simpa [clR,(hs M hne).2.2] using h
 | iptr M s ii k q =>
  show clR g' (match l.contains M with | true=>.dead M | false=>.iptr M s ii k q) x
  cases hM:l.contains M with
  | true=>trivial
  | false =>
   have hne:M ∉ l:=by simpa using hM
   simpa [clR,(hs M hne).2.2] using h
 | imap M ii =>
  show clR g' (match l.contains M with | true=>.dead M | false=>.imap M ii) x
  cases hM:l.contains M with
  | true=>trivial
  | false =>
   have hne:M ∉ l:=by simpa using hM
   simpa [clR,(hs M hne).2.2] using h
 | xv M s ii b n m j c =>
  show clR g' (match l.contains M with | true=>.dead M | false=>.xv M s ii b n m j c) x
  cases hM:l.contains M with
  | true=>trivial
  | false =>
   have hne:M ∉ l:=by simpa using hM
   simpa [clR,(hs M hne).2.1] using h
 | xp M b n m j c=>simp only[zco,clR] at h ⊢;rw[hbk M];exact h
 | mkey it M =>
  show clR g' (match l.contains M with | true=>.dead M | false=>.mkey it M) x
  cases hM:l.contains M with
  | true=>trivial
  | false =>
   have hne:M ∉ l:=by simpa using hM
   obtain⟨k,C,ty,fr,e,h1,h2⟩:=h
   exact⟨k,C,ty,fr,e,hh _ _ h1,by rw[(hs M hne).2.1];exact h2⟩
 | xf cells b n m j c=>exact⟨h.1,Rep.mono hh h.2⟩
 | mo M =>
  show clR g' (match l.contains M with | true=>.dead M | false=>.mo M) x
  cases hM:l.contains M with
  | true=>trivial
  | false =>
   have hne:M ∉ l:=by simpa using hM
   simpa [clR,(hs M hne).2.1] using h
 | clo f caps=>obtain⟨cv,e,hr⟩:=h;exact⟨cv,e,zgo (λ _ _=>Rep.mono hh) (λ M _=>hbk M) hr⟩
 | undef=>exact h
 | junk=>trivial
 | dead M=>trivial
theorem zlK {l : List Nat} {g' : Gh} (hh : Fle g.h g'.h) (hbk : ∀ M, g'.bk M = g.bk M) (hs : ∀ M, M ∉ l → zd0 g g' M) : ∀ {cs : List Cl} {vs : List Value}, RL (clR g) cs vs → RL (clR g') (cs.map (zco l)) vs
  | [],[],_=>trivial
  | [],_ :: _,h=>h.elim
  | _ :: _,[],h=>h.elim
  | _ :: _,_ :: _,h=>⟨zwD hh hbk hs h.1,zlK hh hbk hs h.2⟩
theorem ztS {l:List Nat}{g':Gh}(hh:Fle g.h g'.h) (hbk:∀ M,g'.bk M=g.bk M) (hs:∀ M,M ∉ l->zd0 g g' M){d:D1}{x:Value}(h:d1R g d x):d1R g' (zc3 l d) x:=by
 cases d with
 | c y=>exact zwD hh hbk hs h
 | agg cs=>obtain⟨vs,rfl,hr⟩:=h;exact⟨vs,rfl,zlK hh hbk hs hr⟩
theorem zpZ {l : List Nat} {g' : Gh} (hh : Fle g.h g'.h) (hbk : ∀ M, g'.bk M = g.bk M) (hs : ∀ M, M ∉ l → zd0 g g' M) : ∀ {cs : List D1} {vs : List Value}, RL (d1R g) cs vs → RL (d1R g') (cs.map (zc3 l)) vs
  | [],[],_=>trivial
  | [],_ :: _,h=>h.elim
  | _ :: _,[],h=>h.elim
  | _ :: _,_ :: _,h=>⟨ztS hh hbk hs h.1,zpZ hh hbk hs h.2⟩
theorem zwE {l:List Nat}{g':Gh}(hh:Fle g.h g'.h) (hbk:∀ M,g'.bk M=g.bk M) (hs:∀ M,M ∉ l->zd0 g g' M){d:DV}{x:Value}(h:dvR g d x):dvR g' (zdU l d) x:=by
 cases d with
 | one y=>exact ztS hh hbk hs h
 | tup ds=>obtain⟨vs,rfl,hr⟩:=h;exact⟨vs,rfl,zpZ hh hbk hs hr⟩
theorem zp0 {l:List Nat}{c:Cl} : ∀ M∈zaE (zco l c),M∈zaE c:=by
 intro M hM
 cases c with
 | vec K =>
  have hM:M∈zaE (match l.contains K with | true=>.dead K | false=>.vec K):=hM
  cases h:l.contains K with
  | true=>rw[h] at hM;exact hM
  | false=>rw[h] at hM;exact hM
 | vptr K s k q =>
  have hM:M∈zaE (match l.contains K with | true=>.dead K | false=>.vptr K s k q):=hM
  cases h:l.contains K with
  | true=>rw[h] at hM;exact hM
  | false=>rw[h] at hM;exact hM
 | ivec K ii =>
  have hM:M∈zaE (match l.contains K with | true=>.dead K | false=>.ivec K ii):=hM
  cases h:l.contains K with
  | true=>rw[h] at hM;exact hM
  | false=>rw[h] at hM;exact hM
 | mo K =>
  have hM:M∈zaE (match l.contains K with | true=>.dead K | false=>.mo K):=hM
  cases h:l.contains K with
  | true=>rw[h] at hM;exact hM
  | false=>rw[h] at hM;exact hM
 | mkey it K =>
  have hM:M∈zaE (match l.contains K with | true=>.dead K | false=>.mkey it K):=hM
  cases h:l.contains K with
  | true=>rw[h] at hM;exact hM
  | false=>rw[h] at hM;exact hM
 | iptr K s ii k q =>
  have hM:M∈zaE (match l.contains K with | true=>.dead K | false=>.iptr K s ii k q):=hM
  cases h:l.contains K with
  | true=>rw[h] at hM;exact hM
  | false=>rw[h] at hM;exact hM
 | imap K ii =>
  have hM:M∈zaE (match l.contains K with | true=>.dead K | false=>.imap K ii):=hM
  cases h:l.contains K with
  | true=>rw[h] at hM;exact hM
  | false=>rw[h] at hM;exact hM
 | xv K s ii b n m j c =>
  have hM:M∈zaE (match l.contains K with | true=>.dead K | false=>.xv K s ii b n m j c):=hM
  cases h:l.contains K with
  | true=>rw[h] at hM;exact hM
  | false=>rw[h] at hM;exact hM
 | _=>exact hM
theorem zp1 {l:List Nat}{cs:List Cl} : ∀ M∈(cs.map (zco l)).flatMap zaE,M∈cs.flatMap zaE:=by
 intro M hM
 simp only[dqo,dqz] at hM ⊢
 obtain⟨_,⟨c,hc,rfl⟩,hM⟩:=hM
 exact⟨c,hc,zp0 M hM⟩
theorem znK {l:List Nat}{d:D1} : ∀ M∈zbN (zc3 l d),M∈zbN d:=by
 cases d with
 | c y=>exact zp0
 | agg cs=>exact zp1
theorem zp2 {l:List Nat}{d:DV} : ∀ M∈zbf (zdU l d),M∈zbf d:=by
 cases d with
 | one y=>exact znK
 | tup ds =>
  intro M hM
  simp only[zdU,zbf,dqo,dqz] at hM ⊢
  obtain⟨_,⟨d,hd,rfl⟩,hM⟩:=hM
  exact⟨d,hd,znK M hM⟩
theorem zp3 {l:List Nat}{o:AO} : ∀ M∈zb8 (zdc l o),M∈zb8 o:=by
 cases o with
 | box ty cs=>exact zp1
 | _=>exact λ _ h=>h

theorem Sim.regrow (S : Sim P nt B w0 h0 g σ a w) {L : Nat} {o0 o' : AO} {g' : Gh} {w' : World} {gs : List (Nat × AO)} {row : Option Nat} (hL : lk σ.objs L = some o0)
    (hh:g'.h=g.h) (hbk:∀ M,g'.bk M=g.bk M) (hs:∀ M,M ≠ L->zd0 g g' M) (hgs:∀ x∈gs,x.2=.gone/\x.1 ≠ L)
    (hg:GrB w w' row) (hrow:∀ k,row=some k->obk g L o0 k)
    (hob:∀ k,obk g' L o' k->obk g L o0 k\/w.heap.size<=k\/∃ T oT,(T,.gone)∈gs/\lk σ.objs T=some oT/\obk g T oT k)
    (hv:aoR P g' w' B L o') (hlab:zb8 o'=[]) (log:List (Nat×Nat×Nat)) :
    Sim P nt B w0 h0 g' ⟨kills (zdU [L]) σ.env,(L,o') :: (gs ++ kills (zdc [L]) σ.objs),log⟩ a w':=by
  have hlk:∀ M x,lk ((L,o') :: (gs ++ kills (zdc [L]) σ.objs)) M=some x->(M=L/\x=o')\/x=.gone\/(M ≠ L/\(M,.gone) ∉ gs/\∃ o,lk σ.objs M=some o/\x=zdc [L] o):=by
    intro M x h
    rw[zay] at h
    split at h
    · rename_i e;simp only[dqa] at h;exact .inl ⟨e.symm,h.symm⟩
    · rename_i e
      rw[zdm] at h
      cases hgM:lk gs M with
      | some y =>
        rw[hgM] at h;simp only[dqa] at h;subst h
        exact .inr (.inl (hgs _ (zcP hgM)).1)
      | none =>
        rw[hgM] at h;simp only[] at h
        rw[zf7] at h
        obtain⟨o,ho,rfl⟩:=dqv.1 h
        exact .inr (.inr ⟨λ e'=>e e'.symm,zrk hgM _,o,ho,rfl⟩)
  have hdom:∀ M o,lk σ.objs M=some o->∃ x,lk ((L,o') :: (gs ++ kills (zdc [L]) σ.objs)) M=some x:=by
    intro M o h
    rw[zay]
    split
    · exact⟨_,rfl⟩
    · rw [zdm]
      cases lk gs M with
      | some y=>exact⟨y,rfl⟩
      | none=>rw[zf7,h];exact⟨_,rfl⟩
  have hobk:∀ M o,M ≠ L->obk g' M (zdc [L] o)=obk g M o:=by
    intro M o hne
    have:=hs M hne
    funext k
    cases o <;> simp[zdc,obk,this.1,this.2.1,this.2.2]
  have hold:∀ k,k < w.heap.size->¬ obk g L o0 k->w'.heap[k]? = w.heap[k]?:=λ k hk hne=>hg.block k hk (λ e=>hne (hrow k e.symm))
  have hfz:Hw g.h w':=S.hw.same λ k o hk=>hold k (ziK S.hw hk) (λ e=>by have:=(S.own L o0 k hL e).2;rw[this] at hk;cases hk)
  have hbel:BelD B w w':=⟨⟨hg.os,hg.tape,hg.output,hg.size,λ k hk=>hold k (dqS hk S.bs) (λ e=>by have:=(S.own L o0 k hL e).1;omega)⟩,hg.drawn⟩
  have hnew:∀ k,w.heap.size<=k->B<=k/\g.h k=none:=λ k hk=>by
    refine⟨dqE S.bs hk,?_⟩
    cases hh:g.h k with
    | none=>rfl
    | some x=>exact absurd (ziK S.hw hh) (by omega)
  refine⟨by rw[hh];exact S.dfr,S.size,?_,?_,?_,?_,by rw[hh];exact hfz,by rw[hh];exact S.le0,by rw[hh];exact S.hn,S.below.trans (.of hbel),dqE S.bs hg.size,?_,?_,S.gl⟩
  · intro t d ht
    rw[zf7] at ht
    obtain⟨d',hd',rfl⟩:=dqv.1 ht
    exact zwE (by rw[hh];exact λ _ _ h=>h) hbk (λ M hM=>hs M (by simpa using hM)) (S.env t d' hd')
  · intro M x hx
    rcases hlk M x hx with ⟨rfl,rfl⟩ | rfl | ⟨hne,hng,o,ho,rfl⟩
    · exact hv
    · trivial
    · have hw':∀ k,obk g M o k->w'.heap[k]? = w.heap[k]?:=λ k hk =>
        hold k (zc4 (S.obj M o ho) hk) (λ e=>hne (S.sep M o k L _ ho hL hk e))
      have hr:=S.obj M o ho
      have hsM:=hs M hne
      have hle:Fle g.h g'.h:=by rw[hh];exact λ _ _ h=>h
      cases o with
      | box ty cs =>
        obtain⟨C,hC,hr⟩:=hr
        exact⟨C,by rw[hbk M,hw' _ rfl];exact hC,zlK (by rw[hh];exact λ _ _ h=>h) hbk (λ M hM=>hs M (by simpa using hM)) hr⟩
      | fbox cs =>
        obtain⟨C,ty,fr,hC,hr⟩:=hr
        exact⟨C,ty,fr,by rw[hh,hbk M];exact hC,by rw[hh];exact hr⟩
      | vec e' s' b' m2 get2=>exact zpQ hr hsM.2.1 hle hw'
      | fvec s' m2 get2 =>
        simp only[zdc,aoR] at hr ⊢
        rw[hsM.2.1,hh]
        exact hr
      | vv te bb e' s' b' m2 ln2 get2=>exact ztK hr hsM hle hw'
      | mo kt vt q m2 F =>
        obtain⟨es,clock,hC,hr⟩:=hr
        exact⟨es,clock,by rw[hsM.2.1,hw' _ rfl];exact hC,hr⟩
      | vm te bb kt vt q m2 mk nn F=>exact ztL hr hsM hw'
      | mit q m2 F seen =>
        simp only[zdc,aoR] at hr ⊢
        rw[hbk M]
        exact zpR hr hle (hw' _ rfl)
      | gone=>trivial
  · intro M x k hx hk
    rw[hh]
    rcases hlk M x hx with ⟨rfl,rfl⟩ | rfl | ⟨hne,hng,o,ho,rfl⟩
    · rcases hob k hk with h | h | ⟨T, oT, _, hT, h⟩
      · exact S.own M o0 k hL h
      · exact hnew k h
      · exact S.own T oT k hT h
    · exact hk.elim
    · rw [hobk M o hne] at hk
      exact S.own M o k ho hk
  · intro M x k M' x' hx hx' hk hk'
    have cross:∀ M o,lk σ.objs M=some o->M ≠ L->(M,.gone) ∉ gs->obk g M o k->obk g' L o' k->False:=by
      intro M o ho hne hng hk hk'
      rcases hob k hk' with h | h | ⟨T,oT,hT,hT2,h⟩
      · exact hne (S.sep M o k L _ ho hL hk h)
      · exact absurd (zc4 (S.obj M o ho) hk) (by omega)
      · exact hng (by rw[S.sep M o k T oT ho hT2 hk h];exact hT)
    rcases hlk M x hx with ⟨rfl,rfl⟩ | rfl | ⟨hne,hng,o,ho,rfl⟩ <;> rcases hlk M' x' hx' with ⟨rfl,rfl⟩ | rfl | ⟨hne',hng',o2,ho2,rfl⟩
    · rfl
    · exact hk'.elim
    · rw [hobk M' o2 hne'] at hk'
      exact (cross M' o2 ho2 hne' hng' hk' hk).elim
    · exact hk.elim
    · exact hk.elim
    · exact hk.elim
    · rw [hobk M o hne] at hk
      exact (cross M o ho hne hng hk hk').elim
    · exact hk'.elim
    · rw [hobk M o hne] at hk; rw [hobk M' o2 hne'] at hk'
      exact S.sep M o k M' o2 ho ho2 hk hk'
  · intro t d ht M hM
    rw[zf7] at ht
    obtain⟨d',hd',rfl⟩:=dqv.1 ht
    obtain⟨o,ho⟩:=S.clE t d' hd' M (zp2 M hM)
    exact hdom M o ho
  · intro M x hx N hN
    rcases hlk M x hx with ⟨rfl,rfl⟩ | rfl | ⟨hne,hng,o,ho,rfl⟩
    · rw[hlab] at hN;simp at hN
    · simp[zb8] at hN
    · obtain ⟨o2, ho2⟩ := S.clO M o ho N (zp3 N hN)
      exact hdom N o2 ho2

theorem znL {L:Nat}{v:Value} : ∀ M,M ≠ L->zd0 g (g.setSv L v) M:=λ M h=>⟨rfl,by simp[Gh.setSv,h],rfl⟩
theorem znM {L:Nat}{v:Value}{iv:Nat->Value} : ∀ M,M ≠ L->zd0 g (g.setVv L v iv) M:=λ M h=>⟨rfl,by simp[Gh.setVv,h],by simp[Gh.setVv,h]⟩

theorem Sim.grow (S : Sim P nt B w0 h0 g σ a w) {L e s b m m' : Nat} {get get' : Nat → List PV} {v' : Value} {w' : World} {dst : Option Nat} (hL : lk σ.objs L = some (.vec e s b m get)) (hd : zck nt dst = true)
    (hg:GrB w w' (g.sv L).ownBlock) (hpl:v'.ownBlock=(g.sv L).ownBlock\/v'.ownBlock=some w.heap.size\/v'.ownBlock=none) (hv:ztG P (g.setSv L v') w' B L e s b m' get') (h1:v'.oneCell'=true) (log:List (Nat×Nat×Nat)) :
    Sim P nt B w0 h0 (g.setSv L v') ⟨zFM dst (.cl (.vec L)) (kills (zdU [L]) σ.env),(L,.vec e s b m' get') :: kills (zdc [L]) σ.objs,log⟩ (a.put dst v') w':=by
  have hsv:(g.setSv L v').sv L=v':=by simp[Gh.setSv]
  have S1 := S.regrow (o' := .vec e s b m' get') (g' := g.setSv L v') (gs := []) (row := (g.sv L).ownBlock) hL rfl (fun _ => rfl) znL (fun x hx => by simp at hx) hg (fun k hk => hk)
    (λ k hk=>by
      simp only[obk,hsv] at hk
      rcases hpl with h | h | h
      · exact .inl (by show (g.sv L).ownBlock=some k;rw[<- h];exact hk)
      · rw[h] at hk;simp only[dqa] at hk;exact .inr (.inl (by omega))
      · rw[h] at hk;cases hk) hv rfl log
  refine S1.put hd (d:=.cl (.vec L)) (v:=v') ⟨hsv.symm,h1⟩ ?_ log
  intro M hM
  simp[zbf,zbN,zaE] at hM
  subst hM
  exact⟨_,by rw[zay,if_pos rfl]⟩

def zKv (w:World) (v:Value) (m s:Nat) (news:List Value):Prop :=
 (m=0/\(v=.slice none 0 0\/∃ a c,v=.slice (some a) 0 c)/\news=[])\/∃ (b o cap:Nat),v=.slice (some ⟨b,o,none⟩) m cap/\news.length=m * s/\(∀ j u,news[j]? = some u->w.cell? ⟨b,o+j,none⟩=some u)/\(∀ u∈news,u.oneCell'=true)

theorem zCV {P:Program}{B L te bb e s b n:Nat}{ln:Nat->Nat}{get:Nat->Nat->List PV}(hv:vvR P g w B L te bb e s b n ln get):zKv w (g.sv L) n 1 ((List.range n).map (g.iv L)):=by
 obtain⟨_,_,_,h4,h5,_⟩:=hv
 rcases h4.2 with ⟨h1,h2⟩ | ⟨k,cap,cur,h1,hB,hg,hn,hcap,hsz,htk⟩
 ·subst h2;exact .inl ⟨rfl,.inl h1,rfl⟩
 ·refine .inr ⟨k, 0, cap, h1, by simp, fun j u hj => ?_, fun u hu => ?_⟩
  ·rw [cell_of hg, Nat.zero_add]
   rw[<- htk,dqs] at hj
   split at hj
   ·simpa using hj
   ·cases hj
  ·simp only [dqz, List.mem_range] at hu
   obtain⟨i,hi,rfl⟩:=hu
   exact (h5 i hi).1

def zwF (g:Gh) (w:World) (v:Value) (m s:Nat) (new:Nat->List PV):Prop :=
 (m=0/\(v=.slice none 0 0\/∃ a c,v=.slice (some a) 0 c))\/∃ (b o cap:Nat) (news:List Value),v=.slice (some ⟨b,o,none⟩) m cap/\news.length=m * s/\(∀ j u,news[j]? = some u->w.cell? ⟨b,o+j,none⟩=some u) /\
  (∀ u∈news,u.oneCell'=true)/\∀ k,k < m->RL (Rep g.h) (new k) ((news.drop (k * s)).take s)

theorem src_of {b o cap m s : Nat} {C : Array Value} {ty : TypeId} {fr : Nat × Nat} {new : Nat → List PV} {v : Value} (hs : 0 < s) (hv : v = .slice (some ⟨b, o, none⟩) m cap) (hb : w.heap[b]? = some (.cells C ty fr))
    (hlen:∀ k,k < m->(new k).length=s) (hel:∀ k j x,k < m->(new k)[j]? = some x->∃ u,C[o+k * s+j]? = some u/\Rep g.h x u):zwF g w v m s new:=by
  refine .inr ⟨b,o,cap,(List.range (m * s)).map λ q=>C.getD (o+q) undef,hv,by simp,?_,?_,?_⟩
  all_goals
    have at_:∀ q,q < m * s->∃ x u,(new (q / s))[q % s]? = some x/\C[o+q]? = some u/\Rep g.h x u:=by
      intro q hq
      have hk:q / s < m:=Nat.div_lt_of_lt_mul (by rw[Nat.mul_comm];exact hq)
      have hj:q % s < s:=Nat.mod_lt _ hs
      have hx:(new (q / s))[q % s]? = some ((new (q / s))[q % s]'(by rw[hlen _ hk];exact hj)):=dqD _
      obtain⟨u,hu,hxu⟩:=hel _ _ _ hk hx
      refine⟨_,u,hx,?_,hxu⟩
      rw[show o+q=o+q / s * s+q % s by have:=Nat.div_add_mod q s;rw[Nat.mul_comm] at this;omega]
      exact hu
  · intro j u hj
    have hjm:j < m * s:=by have:=(dqn.1 hj).1;simpa using this
    obtain⟨x,u',_,hu,_⟩:=at_ j hjm
    rw[cell_of hb]
    simp[hjm] at hj
    rw[hu] at hj ⊢
    simpa using hj
  · intro u hu
    simp only[dqz,List.mem_range] at hu
    obtain⟨q,hq,rfl⟩:=hu
    obtain⟨x,u',_,hu,hxu⟩:=at_ q hq
    rw[dql,hu]
    exact hxu.one
  · intro k hk
    have hle:k * s+s<=m * s:=by have:=dqw s (Nat.succ_le_of_lt hk);rw[dqV] at this;exact this
    refine RL.of_get ?_ ?_
    · rw[hlen k hk];simp;omega
    · intro j x u hx hu
      have hj:j < s:=by have:=(dqn.1 hx).1;rw[hlen k hk] at this;exact this
      obtain⟨u',hu',hxu⟩:=hel k j x hk hx
      rw[dqs,if_pos hj,dqI] at hu
      have hin:k * s+j < m * s:=by omega
      simp[hin] at hu
      rw[show o+(k * s+j)=o+k * s+j by omega,hu'] at hu
      simp only[Option.getD_some] at hu
      rw[<- hu];exact hxu

theorem zEl {m s:Nat}{new:Nat->List PV}{v:Value}(S:Sim P nt B w0 h0 g σ a w) (hs:0 < s) (h:Rep g.h (.sl m s new) v):zwF g w v m s new:=by
 cases h with
 | sl0=>exact .inl ⟨rfl,.inl rfl⟩
 | sle _ _ a c=>exact .inl ⟨rfl,.inr ⟨a,c,rfl⟩⟩
 | sl _ _ _ b o cap C ty fr vs hb hcap hlen hc hr=>exact src_of hs rfl (S.hw.fz hb) hlen λ k j x hk hj=>⟨vs k j,hc k j x hk hj,hr k j x hk hj⟩

theorem zFT {L e s b m:Nat}{new:Nat->List PV}(h:ztG P g w B L e s b m new):zwF g w (g.sv L) m s new:=by
 by_cases hm:m=0
 ·subst hm
  obtain⟨hs,_,xs,hx,_⟩:=h
  rcases hx.2 with ⟨h1,_⟩ | ⟨k,cap,cur,h1,_⟩
  ·exact .inl ⟨rfl,.inl h1⟩
  ·have hx0 : xs = [] := by have := hx.1; simpa using this
   exact .inr ⟨k,0,cap,[],h1,by simp,λ j u hj=>by simp at hj,λ u hu=>by simp at hu,λ k hk=>absurd hk (by omega)⟩
 ·obtain ⟨k, C, _, ⟨cap, hsv⟩, hC, _, _, _⟩ := zf5 h (show 0 < m by omega)
  refine src_of h.1 hsv hC (λ q hq=>?_) (λ q j x hq hj=>?_)
  ·obtain⟨_,_,_,_,_,_,h6,_⟩:=zf5 h hq;exact h6
  ·obtain ⟨k', C', hk', ⟨cap', hsv'⟩, hC', _, _, h7⟩ := zf5 h hq
   rw[hsv] at hsv'
   simp only[Value.slice.injEq,dqa,Addr.mk.injEq] at hsv'
   obtain⟨⟨rfl,_⟩,_⟩:=hsv'
   rw[hC] at hC';simp only[dqa,Obj.cells.injEq] at hC'
   obtain⟨rfl,_⟩:=hC'
   rw[Nat.zero_add];exact h7 j x hj
end
end Go.Pm
namespace Go.Pm
variable [DrawZ]
open Go.RowKit (Below)

section
variable {P:Program}{Γ:Ctrs}{nt B:Nat}{w0:World}{h0:Fz}{g:Gh}{σ:St}{a:Act}{w:World}{r:Option Nat}{n i:Nat}{Q:Exit->Act->World->Prop}

theorem zlL (σ : St) (i : Nat) (dst : Option Nat) (fp : List (Nat × Bool)) (d : DV) (u : List (Nat × AO)) (L : Nat) :
  σ.upd i dst fp d u [L]=⟨zFM dst d (kills (zdU [L]) σ.env),u ++ kills (zdc [L]) σ.objs,σ.log⟩:=by
 cases dst <;> rfl

theorem ziL {t e : TypeId} {ty : TypeId} {ie : TypeInfo} {base m m' s : Nat} {v x : Value} {xs news : List Value} (hu : P.underlying t = some (.slice e)) (hi : P.info? e = some ie)
    {z:Value} (hz:ie.zero=some z) (hzs:z.cells.size=ie.size) (hs:ie.size=s) (hpos:0 < s) (hbase:base<=w.heap.size) (hown:w.ownsRow base e s v m xs) (hsrc:zKv w x m' s news)
    (hlen:m+m'<=9223372036854775807) (hbytes:(m+m') * ie.bytes<=140737488355328) :
    ∃ v' w',(Builtin.append_ #[t,t] ty #[v,x]).run P w=.ok v' w'/\w'.ownsRow base e s v' (m+m') (xs ++ news)/\GrB w w' v.ownBlock/\(v'.ownBlock=v.ownBlock\/v'.ownBlock=some w.heap.size) /\
      v'.oneCell'=true:=by
  have hvs:∃ ad c,v=.slice ad m c:=by
    rcases hown.2 with ⟨h1,h2⟩ | ⟨k,cap,cur,h1,_⟩
    · subst h2;exact⟨_,_,h1⟩
    · exact⟨_,_,h1⟩
  obtain⟨ad,c,hvs⟩:=hvs
  rcases hsrc with ⟨rfl,hx | ⟨a',c',hx⟩,rfl⟩ | ⟨b,o,cap,hx,hl,hmem,h1⟩
  · subst hx
    have hrun:=run_append_owned_none (P:=P) (w:=w) base t ty e ie s hu hi v m xs hown
    refine⟨v,w,hrun,by simpa using hown,⟨⟨rfl,rfl,rfl,dqt _,λ _ _ _=>rfl⟩,dqt _⟩,.inl rfl,by rw[hvs];rfl⟩
  · subst hx
    obtain ⟨v', w', hrun, hown', hg, _⟩ := run_append_own (P := P) w base t ty e ie z s ie.bytes hu hi hz hs rfl (by rw [hzs, hs]) hpos v m xs hown a' 0 c' [] (by simp)
      (λ j u hj=>by simp at hj) (λ u hu=>by simp at hu) (by simp only[maxLen];omega) hbytes hbase
    refine⟨v',w',hrun,hown',⟨hg,zpP (zcW _ _ _ _ hrun)⟩,?_,?_⟩
    · rw [hvs] at hrun
      have:=zld (P:=P) (t:=t) (ty:=ty) w v' w' hrun
      rw[hvs]
      cases ad <;> exact this
    · rcases hown'.2 with ⟨h1,_⟩ | ⟨k,cap,cur,h1,_⟩ <;> rw[h1] <;> rfl
  · subst hx
    obtain ⟨v', w', hrun, hown', hg, _⟩ := run_append_own (P := P) w base t ty e ie z s ie.bytes hu hi hz hs rfl (by rw [hzs, hs]) hpos v m xs hown ⟨b, o, none⟩ m' cap news hl
      (λ j u hj=>by rw[addr_add];exact hmem j u hj) h1 (by simp only[maxLen];omega) hbytes hbase
    refine⟨v',w',hrun,hown',⟨hg,zpP (zcW _ _ _ _ hrun)⟩,?_,?_⟩
    · rw [hvs] at hrun
      have:=zld (P:=P) (t:=t) (ty:=ty) w v' w' hrun
      rw[hvs]
      cases ad <;> exact this
    · rcases hown'.2 with ⟨h1,_⟩ | ⟨k,cap,cur,h1,_⟩ <;> rw[h1] <;> rfl

theorem znN {t e : TypeId} {ty : TypeId} {ie : TypeInfo} {base m m' s : Nat} {v x : Value} {xs : List Value} {new : Nat → List PV} (hu : P.underlying t = some (.slice e)) (hi : P.info? e = some ie)
    {z:Value} (hz:ie.zero=some z) (hzs:z.cells.size=ie.size) (hs:ie.size=s) (hpos:0 < s) (hbase:base<=w.heap.size) (hown:w.ownsRow base e s v m xs) (hsrc:zwF g w x m' s new)
    (hlen:m+m'<=9223372036854775807) (hbytes:(m+m') * ie.bytes<=140737488355328) :
    ∃ v' w' news,(Builtin.append_ #[t,t] ty #[v,x]).run P w=.ok v' w'/\w'.ownsRow base e s v' (m+m') (xs ++ news)/\GrB w w' v.ownBlock/\(v'.ownBlock=v.ownBlock\/v'.ownBlock=some w.heap.size) /\
      v'.oneCell'=true/\news.length=m' * s/\∀ k,k < m'->RL (Rep g.h) (new k) ((news.drop (k * s)).take s):=by
  rcases hsrc with ⟨rfl,hx⟩ | ⟨b,o,cap,news,hx,hl,hmem,h1,hr⟩
  · obtain ⟨v', w', h⟩ := ziL (P := P) (ty := ty) (news := []) hu hi hz hzs hs hpos hbase hown (.inl ⟨rfl, hx, rfl⟩) hlen hbytes
    exact⟨v',w',[],h.1,h.2.1,h.2.2.1,h.2.2.2.1,h.2.2.2.2,by simp,λ k hk=>absurd hk (by omega)⟩
  · obtain ⟨v', w', h⟩ := ziL (P := P) (ty := ty) (news := news) hu hi hz hzs hs hpos hbase hown (.inr ⟨b, o, cap, hx, hl, hmem, h1⟩) hlen hbytes
    exact⟨v',w',news,h.1,h.2.1,h.2.2.1,h.2.2.2.1,h.2.2.2.2,hl,hr⟩

theorem zCW {L e s b m m' : Nat} {get new : Nat → List PV} {v' : Value} {w' : World} {xs news : List Value} (hv0 : 0 < s ∧ ∃ i z, P.info? e = some i ∧ i.size = s ∧ i.bytes = b ∧ i.zero = some z ∧ z.cells.size = s)
    (hx:xs.length=m * s) (hr:∀ k,k < m->RL (Rep g.h) (get k) ((xs.drop (k * s)).take s)) (_hn:news.length=m' * s) (hrn:∀ k,k < m'->RL (Rep g.h) (new k) ((news.drop (k * s)).take s))
    (hown:w'.ownsRow B e s v' (m+m') (xs ++ news)):ztG P (g.setSv L v') w' B L e s b (m+m') (appG m get new):=by
  refine⟨hv0.1,hv0.2,xs ++ news,by rw[show (g.setSv L v').sv L=v' by simp[Gh.setSv]];exact hown,?_⟩
  intro k hk
  show RL (Rep g.h) (match Nat.ble m k with | true=>new (k - m) | false=>get k) _
  cases hb:Nat.ble m k with
  | true =>
    have hmk:=Nat.le_of_ble_eq_true hb
    have e:((xs ++ news).drop (k * s)).take s=(news.drop ((k - m) * s)).take s:=by
      rw[List.drop_append,show xs.drop (k * s)=[] from dqO (by rw[hx];exact dqw s hmk),List.nil_append,hx,<- Nat.sub_mul]
    rw[e];exact hrn (k - m) (by omega)
  | false =>
    have hmk:k < m:=by
      have : ¬ m<=k:=λ h=>by rw[Nat.ble_eq_true_of_le h] at hb;cases hb
      omega
    have hle:k * s+s<=m * s:=by have:=dqw s (Nat.succ_le_of_lt hmk);rw[dqV] at this;exact this
    have e:((xs ++ news).drop (k * s)).take s=(xs.drop (k * s)).take s:=by
      rw[List.drop_append_of_le_length (by omega),List.take_append_of_le_length (by simp;omega)]
    rw[e];exact hr k hmk

theorem zwG {α:Type}(f h:Nat->α) (n m:Nat):(List.range n).map f ++ (List.range m).map h=(List.range (n+m)).map λ j=>match Nat.ble n j with | true=>h (j - n) | false=>f j:=by
 apply List.ext_getElem?
 intro j
 by_cases hj:j < n
 ·have hb : Nat.ble n j = false := by cases hb : Nat.ble n j with | true => exact absurd (Nat.le_of_ble_eq_true hb) (by omega) | false => rfl
  rw[List.getElem?_append_left (by simpa using hj)]
  simp[hj,show j < n+m by omega,hb]
 ·have hb : Nat.ble n j = true := Nat.ble_eq_true_of_le (by omega)
  rw[List.getElem?_append_right (by simp;omega)]
  by_cases hj2:j < n+m
  ·simp[hj2,show j - n < m by omega,hb]
  ·simp[hj2,show ¬ j - n < m by omega]

theorem zp4 {o : Oper} {s x : Operand} {t e : TypeId} {ie : TypeInfo} {z : List Cl} {T dst : Nat} {A : OpAct} (S : Sim P nt B w0 h0 g σ a w) (hd : zck nt o.dst = true) (hnd : ∀ c, o.op ≠ .defer c)
    (hu:P.underlying t=some (.slice e)) (hi:P.info? e=some ie) (hz:zel P e=some z) (hdst:o.dst=some dst) (hx:evO σ.env x=.one (.c (.vec T)))
    (hrunOf:∀ (v':Value) (w':World),(Builtin.append_ #[t,t] o.type #[a.eval s,a.eval x]).run P w=.ok v' w'->(execOp a.eval o).run P w=.ok (.value v') w')
    (hA:zfm o e ie (evO σ.env s) T (lk σ.objs)=A) (hs:A.safe):zfi P nt B w0 h0 r n i o A σ a w Q:=by
  obtain⟨zv,hzv,hzs⟩:=zcX hz hi
  unfold zfm at hA
  split at hA
  · rename_i te' bb' e' s' b' m lnT zpK hT
    split at hA
    · rename_i L hsL
      split at hA
      · rename_i te bb e1 s1 b1 n0 ln get hL
        split at hA
        · rename_i hcond
          obtain⟨rfl,rfl,rfl,rfl,hsz1,rfl,rfl,rfl,hLT⟩:=hcond
          subst hA
          have hs':(n0+m) * ie.bytes<=140737488355328/\n0+m<=9223372036854775807:=hs
          obtain⟨h1,_⟩:=zbr S hsL
          obtain⟨h2,_⟩:=zbr S hx
          have hvT:=S.obj T _ hT
          have hvL:=S.obj L _ hL
          obtain⟨hpos,hinfo1,hinfo2,hown,hin,hdis⟩:=hvL
          obtain⟨_,_,_,hownT,hinT,hdisT⟩:=id hvT
          obtain⟨v',w',hrun,hown',hg,hpl,hone⟩:=ziL (P:=P) (ty:=o.type) hu hi hzv hzs hsz1 (by decide) S.bs hown (zCV hvT) hs'.2 hs'.1
          rw[<- h1.1,<- h2.1] at hrun
          rw[zwG] at hown'
          let iv':Nat->Value:=λ j=>match Nat.ble n0 j with | true=>g.iv T (j - n0) | false=>g.iv L j
          let g':=g.setVv L v' iv'
          have hsv:g'.sv L=v':=by simp[g',Gh.setVv]
          have hiv:g'.iv L=iv':=by simp[g',Gh.setVv]
          have hobL:∀ k,(g.sv L).ownBlock=some k->obk g L (.vv te' ie.bytes e1 s1 b1 n0 ln get) k:=λ k hk=>.inl hk
          have lo:∀ j,j < n0->iv' j=g.iv L j/\zFC n0 ln lnT j=ln j/\zq8 n0 get zpK j=get j:=by
            intro j hj
            have hb:Nat.ble n0 j=false:=by cases hb:Nat.ble n0 j with | true=>exact absurd (Nat.le_of_ble_eq_true hb) (by omega) | false=>rfl
            simp only[iv',zFC,zq8,hb,and_self]
          have hi':∀ j,n0<=j->iv' j=g.iv T (j - n0)/\zFC n0 ln lnT j=lnT (j - n0)/\zq8 n0 get zpK j=zpK (j - n0):=by
            intro j hj
            have hb:Nat.ble n0 j=true:=Nat.ble_eq_true_of_le hj
            simp only[iv',zFC,zq8,hb,and_self]
          have blk:∀ j k,j < n0+m->(iv' j).ownBlock=some k->(j < n0/\obk g L (.vv te' ie.bytes e1 s1 b1 n0 ln get) k/\(g.iv L j).ownBlock=some k)\/(n0<=j/\obk g T (.vv te' ie.bytes e1 s1 b1 m lnT zpK) k/\(g.iv T (j - n0)).ownBlock=some k):=by
            intro j k hj hk
            by_cases h:j < n0
            · rw[(lo j h).1] at hk;exact .inl ⟨h,.inr ⟨j,h,hk⟩,hk⟩
            · rw[(hi' j (by omega)).1] at hk;exact .inr ⟨by omega,.inr ⟨j - n0,by omega,hk⟩,hk⟩
          have hLTk:∀ k,obk g L (.vv te' ie.bytes e1 s1 b1 n0 ln get) k->obk g T (.vv te' ie.bytes e1 s1 b1 m lnT zpK) k->False:=λ k h h'=>hLT (S.sep L _ k T _ hL hT h h')
          have hlt:∀ j k,j < n0+m->(iv' j).ownBlock=some k->k < w.heap.size:=by
            intro j k hj hk
            rcases blk j k hj hk with ⟨_,h,_⟩ | ⟨_,h,_⟩
            · exact zc4 (S.obj L _ hL) h
            · exact zc4 (S.obj T _ hT) h
          have hkeep:∀ j k,j < n0+m->(iv' j).ownBlock=some k->w'.heap[k]? = w.heap[k]?:=by
            intro j k hj hk
            refine hg.block k (hlt j k hj hk) λ e=>?_
            rcases blk j k hj hk with ⟨h,_,h3⟩ | ⟨_,h,_⟩
            · exact (hdis j k h h3).1 e.symm
            · exact hLTk k (hobL k e.symm) h
          have hvv:vvR P g' w' B L te' ie.bytes e1 s1 b1 (n0+m) (zFC n0 ln lnT) (zq8 n0 get zpK):=by
            refine⟨hpos,hinfo1,hinfo2,by rw[hsv,hiv];exact hown',λ j hj=>?_,λ j k hj hk=>?_⟩
            · rw [hiv]
              by_cases h:j < n0
              · obtain ⟨e1, e2, e3⟩ := lo j h
                have hk:=hkeep j
                rw[e1] at hk ⊢;rw[e2,e3]
                obtain⟨h7,h70,xs,hxs,hr⟩:=hin j h
                exact⟨h7,h70,xs,zb1 hxs λ k=>hk k hj,hr⟩
              · obtain ⟨e1, e2, e3⟩ := hi' j (by omega)
                have hk:=hkeep j
                rw[e1] at hk ⊢;rw[e2,e3]
                obtain⟨h7,h70,xs,hxs,hr⟩:=hinT (j - n0) (by omega)
                exact⟨h7,h70,xs,zb1 hxs λ k=>hk k hj,hr⟩
            · rw [hiv] at hk
              rw[hsv,hiv]
              refine⟨λ e=>?_,λ q hq hk'=>?_⟩
              · rcases hpl with h | h
                · rw [h] at e
                  rcases blk j k hj hk with ⟨h3,_,h4⟩ | ⟨_,h3,_⟩
                  · exact (hdis j k h3 h4).1 e
                  · exact hLTk k (hobL k e) h3
                · rw [h] at e; simp only [dqa] at e
                  have:=hlt j k hj hk;omega
              · rcases blk j k hj hk with ⟨h3, h4, h5⟩ | ⟨h3, h4, h5⟩ <;> rcases blk q k hq hk' with ⟨h6, h7, h8⟩ | ⟨h6, h7, h8⟩
                · exact (hdis j k h3 h5).2 q h6 h8
                · exact (hLTk k h4 h7).elim
                · exact (hLTk k h7 h4).elim
                · have := (hdisT (j - n0) k (by omega) h5).2 (q - n0) (by omega) h8
                  omega
          have S1 := S.regrow (o' := .vv te' ie.bytes e1 s1 b1 (n0 + m) (zFC n0 ln lnT) (zq8 n0 get zpK)) (g' := g') (gs := [(T, .gone)]) (row := (g.sv L).ownBlock) hL rfl (fun _ => rfl) znM
            (λ x hx=>by simp only[dqi] at hx;subst hx;exact⟨rfl,λ e=>hLT e.symm⟩) hg (λ k hk=>hobL k hk)
            (λ k hk=>by
              rcases hk with hk | ⟨j,hj,hk⟩
              · rw [hsv] at hk
                rcases hpl with h | h
                · rw[h] at hk;exact .inl (hobL k hk)
                · rw[h] at hk;simp only[dqa] at hk;exact .inr (.inl (by omega))
              · rw [hiv] at hk
                rcases blk j k hj hk with ⟨_,h,_⟩ | ⟨_,h,_⟩
                · exact .inl h
                · exact .inr (.inr ⟨T,_,by simp,hT,h⟩)) hvv rfl σ.log
          refine zem hnd (hrunOf v' w' hrun) ⟨g',_,rfl,?_⟩
          rw[zlL]
          refine S1.put hd (d:=.cl (.vec L)) (v:=v') ⟨hsv.symm,hone⟩ ?_ σ.log
          intro M hM
          simp[zbf,zbN,zaE] at hM
          subst hM
          exact⟨_,by rw[zay,if_pos rfl]⟩
        · exact dq9 hA hs
      · exact dq9 hA hs
    · exact dq9 hA hs
  · exact dq9 hA hs

theorem zvj {o : Oper} {args : Array Operand} {ts : Array TypeId} {A : OpAct} (S : Sim P nt B w0 h0 g σ a w) (hd : zck nt o.dst = true) (hop : o.op = .call { callee := .builtin .append, args, argTypes := ts })
    (hA:act P Γ o (evO σ.env) (lk σ.objs)=A) (hs:A.safe):zfi P nt B w0 h0 r n i o A σ a w Q:=by
  simp only[act,hop] at hA
  split at hA
  · rename_i s x t t' hargs hts
    split at hA
    · rename_i e dst hu htt hdst
      have htt:=dqc htt
      subst htt
      have ha:args = #[s,x]:=by rw[<- Array.toArray_toList (xs:=args),hargs]
      have ht:ts = #[t,t]:=by rw[<- Array.toArray_toList (xs:=ts),hts]
      subst ha ht
      split at hA
      · rename_i ie z hi hz
        obtain⟨zv,hzv,hzs⟩:=zcX hz hi
        have hrunOf:∀ (v':Value) (w':World),(Builtin.append_ #[t,t] o.type #[a.eval s,a.eval x]).run P w=.ok v' w'->(execOp a.eval o).run P w=.ok (.value v') w':=by
          intro v' w' h
          refine fb hop ?_
          simp only[builtin,dqd,List.map_toArray,dqK,List.map_nil,h,dqb,dqe]
        split at hA
        · rename_i T hT
          unfold zks at hT
          split at hT
          · rename_i M hx
            split at hT
            · simp only [dqa] at hT; subst hT
              exact zp4 S hd (by simp[hop]) hu hi hz hdst hx hrunOf hA hs
            · cases hT
          · cases hT
        split at hA
        · rename_i src m sz new fps hsrc
          have hsrcOk:sz ≠ 0->zwF g w (a.eval x) m sz new:=by
            intro hsz
            have hsz:0 < sz:=by omega
            split at hsrc
            · rename_i hx
              simp only[dqa,dqh] at hsrc
              obtain⟨rfl,rfl,rfl,_⟩:=hsrc
              exact zEl S hsz (zcK S hx)
            · rename_i M hx
              obtain⟨h1,_⟩:=zbr S hx
              split at hsrc
              · rename_i hM
                simp only[dqa,dqh] at hsrc
                obtain⟨rfl,rfl,rfl,_⟩:=hsrc
                rw[h1.1];exact zFT (S.obj M _ hM)
              · rename_i hM
                simp only[dqa,dqh] at hsrc
                obtain⟨rfl,rfl,rfl,_⟩:=hsrc
                rw[h1.1];exact zEl S hsz (S.obj M _ hM).1
              · cases hsrc
            · cases hsrc
          split at hA
          · rename_i L hsL
            obtain⟨h1,_⟩:=zbr S hsL
            split at hA
            · rename_i e' s' b' m0 get hL
              split at hA
              · rename_i hcond
                obtain⟨rfl,rfl,rfl,hszs,hpos,_⟩:=hcond
                subst hA
                have hs':(m0+m) * ie.bytes<=140737488355328/\m0+m<=9223372036854775807:=hs
                have hsz0:sz ≠ 0:=by omega
                have hsrc':=hsrcOk hsz0
                rw[hszs] at hsrc'
                obtain⟨hp,hinfo,xs,hx,hr⟩:=S.obj L _ hL
                obtain⟨v',w',news,hrun,hown',hg,hpl,hone,hnl,hrn⟩:=znN (P:=P) (ty:=o.type) hu hi hzv hzs rfl hp S.bs hx hsrc' hs'.2 hs'.1
                rw[<- h1.1] at hrun
                have hvec:=zCW (P:=P) (L:=L) ⟨hp,hinfo⟩ hx.1 hr hnl hrn hown'
                have S':=S.grow (dst:=o.dst) hL hd hg (hpl.imp id .inl) hvec hone σ.log
                refine zem (by simp[hop]) (hrunOf v' w' hrun) ⟨g.setSv L v',σ.upd i o.dst ((L,true) :: fps) (.cl (.vec L)) [(L,.vec e' ie.size ie.bytes (m0+m) (appG m0 get new))] [L],rfl,?_⟩
                rw[zlL]
                exact S'
              · exact dq9 hA hs
            · exact dq9 hA hs
          · rename_i hsN
            split at hA
            · rename_i hfresh
              split at hA
              · rename_i hcond
                obtain⟨hszs,hpos⟩:=hcond
                subst hA
                have hs':m * ie.bytes<=140737488355328/\m<=9223372036854775807:=hs
                have hsrc':=hsrcOk (by omega)
                have hnil:a.eval s=.slice none 0 0:=by
                  have:=zcK S hsN
                  generalize a.eval s=v at this
                  cases this;rfl
                obtain ⟨v', w', news, hrun, hown', hg, hpl, hone, hnl, hrn⟩ := znN (P := P) (ty := o.type) (base := w.heap.size) (m := 0) (v := .slice none 0 0) (xs := []) hu hi hzv hzs hszs.symm hpos (dqt _)
                  (World.ownsRow_nil w _ e sz) hsrc' (by omega) (by rw[Nat.zero_add];exact hs'.1)
                rw[<- hnil] at hrun
                rw[Nat.zero_add,List.nil_append] at hown'
                have hownB:w'.ownsRow B e sz v' m news:=by
                  refine⟨hown'.1,?_⟩
                  rcases hown'.2 with h | ⟨k,cap,cur,h1,h2,h3⟩
                  · exact .inl h
                  · exact .inr ⟨k,cap,cur,h1,dqE S.bs h2,h3⟩
                have hvec:ztG P (g.setSv dst v') w' B dst e sz ie.bytes m new:=by
                  refine⟨hpos,⟨ie,zv,hi,hszs.symm,rfl,hzv,by rw[hzs,hszs]⟩,news,?_,hrn⟩
                  rw[show (g.setSv dst v').sv dst=v' by simp[Gh.setSv]]
                  exact hownB
                have hold:∀ b,b < w.heap.size->w'.heap[b]? = w.heap[b]?:=λ b hb=>hg.block b hb (by simp[Value.ownBlock])
                have S' := S.newVec (t := dst) (w' := w') hfresh ⟨⟨hg.os, hg.tape, hg.output, hg.size, fun k hk => hold k (dqS hk S.bs)⟩, hg.drawn⟩ hold
                  (λ b hb=>(hown'.lt b hb).1) hvec
                refine zem (by simp[hop]) (hrunOf v' w' hrun) ⟨g.setSv dst v',σ.upd i o.dst ((dst,true) :: fps) (.cl (.vec dst)) [(dst,.vec e sz ie.bytes m new)] [],rfl,?_⟩
                rw[zbi]
                refine S'.put (v:=v') hd (d:=.cl (.vec dst)) ⟨by simp[Gh.setSv],hone⟩ ?_ _
                intro L hL
                simp[zbf,zbN,zaE] at hL
                subst hL
                exact⟨_,by rw[zay,if_pos rfl]⟩
              · exact dq9 hA hs
            · exact dq9 hA hs
          · exact dq9 hA hs
        · exact dq9 hA hs
      · exact dq9 hA hs
    · exact dq9 hA hs
  · exact dq9 hA hs
end
end Go.Pm
namespace Go.Pm
variable [DrawZ]
open Go.RowKit (Below)

section
variable {P:Program}{Γ:Ctrs}{nt B:Nat}{w0:World}{h0:Fz}{g:Gh}{σ:St}{a:Act}{w:World}{r:Option Nat}{n i:Nat}{Q:Exit->Act->World->Prop}

theorem zFU (k:Option IntKind) (x:Int):clR g (.p (zEc k x)) (cellV k x):=by
 cases k with
 | none=>exact .bool _
 | some k=>exact .int _ _
theorem zEm (o : Option (List Int)) : ∀ (ks : List (Option IntKind)) (i : Nat), RL (clR g) ((zN8 o i ks).map .p) (zhO o i ks)
  | [],_=>trivial
  | k :: ks,i=>⟨zFU k _,zEm o ks (i+1)⟩
theorem zEn {vag:Bool}{ks:List (Option IntKind)}{o:Option (List Int)}{d:D1}(h:zJW vag ks o=some d):d1R g d (zfn vag ks o):=by
 have hr:=zEm (g:=g) o ks 0
 unfold zJW at h
 cases vag with
 | true =>
  simp only[dqa] at h
  rw[<- h]
  exact⟨_,rfl,hr⟩
 | false =>
  split at h
  ·rename_i l e;cases e
  ·rename_i v _ e
   simp only[dqa] at h
   rw[<- h]
   rw[e] at hr
   cases hc:zhO o 0 ks with
   | nil=>rw[hc] at hr;exact hr.elim
   | cons x l=>rw[hc] at hr;simp only[zfn,hc,List.headD_cons];exact hr.1
  ·cases h
theorem zlM {vag:Bool}{ks:List (Option IntKind)}{o:Option (List Int)}{d:D1}(h:zJW vag ks o=some d):zbN d=[]:=by
 unfold zJW at h
 split at h
 ·simp only[dqa] at h;rw[<- h];exact zdp _
 ·simp only[dqa] at h;rw[<- h];rfl
 ·cases h

def zKw (c:Cl) (acc:Option (List (Option IntKind))):Option (List (Option IntKind)):=match c,acc with
 | .p (.int k (.ofNat 0)),some l=>some (some k :: l)
 | .p (.bool false),some l=>some (none :: l)
 | _,_=>none
theorem zkx : ∀ (vs : List Value) (cs : List Cl) (ks : List (Option IntKind)) (i : Nat), zdt vs = some cs → cs.foldr zKw (some []) = some ks → vs = zhO none i ks
  | [],cs,ks,i,h1,h2=>by
    simp only[zdt,dqa] at h1
    subst h1
    simp only[List.foldr_nil,dqa] at h2
    subst h2;rfl
  | v :: vs,cs,ks,i,h1,h2=>by
    simp only[zdt] at h1
    split at h1
    · rename_i x l hx hl
      simp only[dqa] at h1
      subst h1
      rw[List.foldr_cons] at h2
      unfold zKw at h2
      split at h2
      · rename_i k l' e1 e2
        simp only[dqa] at h2
        subst h2
        simp only[Cl.p.injEq] at e1
        rw[zkx vs l l' (i+1) hl e2]
        have:v=.int k 0:=by
          rw[e1] at hx
          unfold zjH at hx
          split at hx <;> simp at hx
          obtain⟨rfl,rfl⟩:=hx;rfl
        rw[this];rfl
      · rename_i l' e1 e2
        simp only[dqa] at h2
        subst h2
        simp only[Cl.p.injEq] at e1
        rw[zkx vs l l' (i+1) hl e2]
        have:v=.bool false:=by
          rw[e1] at hx
          unfold zjH at hx
          split at hx <;> simp at hx
          subst hx;rfl
        rw[this];rfl
      · cases h2
    · cases h1

structure MapE (P : Program) (kt vt : Nat) (ag : KF) (m : Nat) (vag : Bool) (ks : List (Option IntKind)) : Prop where
  key:zCy P kt=some (ag,m)
  zero:∀ w,(zeroValue vt).run P w=.ok (zfn vag ks none) w
  one:vag=false->ks.length=1
theorem zoM {kt vt:Nat}{ag:KF}{m:Nat}{vag:Bool}{ks:List (Option IntKind)}(h:zl2 P kt vt=some (ag,m,vag,ks)):MapE P kt vt ag m vag ks:=by
 unfold zl2 at h
 split at h
 ·rename_i ag' m' ks' vag' h1 h3 h4
  have zero:∀ z,(P.info? vt).bind (·.zero)=some z->∀ w,(zeroValue vt).run P w=.ok z w/\z.cells.toList=zhO none 0 ks':=by
   intro z hz w
   unfold zEb at h3
   split at h3
   ·rename_i zc hzc
    obtain⟨i,v,hi,hv,ho,_⟩:=zeL hzc
    rw[hi] at hz
    simp only[Option.bind_some,hv,dqa] at hz
    subst hz
    exact⟨zdf hi hv,zkx _ _ _ 0 ho h3⟩
   ·cases h3
  cases hb:(vag' || Nat.beq ks'.length 1) with
  | false=>rw[hb] at h;cases h
  | true =>
   rw[hb] at h
   cases hz:(P.info? vt).bind (·.zero) with
   | none=>rw[hz] at h;cases h
   | some z =>
    rw[hz] at h
    cases vag' with
    | true =>
     cases z with
     | agg cs =>
      simp only[dqa,dqh] at h
      obtain⟨rfl,rfl,rfl,rfl⟩:=h
      refine⟨h1,λ w=>?_,λ e=>by cases e⟩
      obtain⟨r1,r2⟩:=zero _ hz w
      rw[r1]
      simp only[Value.cells] at r2
      simp only[zfn,<- r2]
     | _=>cases h
    | false =>
     have hlen:ks'.length=1:=by
      simp only[Bool.false_or] at hb
      exact dqc hb
     have fin:z.cells.toList=[z]->some (ag',m',false,ks')=some (ag,m,vag,ks)->MapE P kt vt ag m vag ks:=by
      intro hcz h
      simp only[dqa,dqh] at h
      obtain⟨rfl,rfl,rfl,rfl⟩:=h
      refine⟨h1,λ w=>?_,λ _=>hlen⟩
      obtain⟨r1,r2⟩:=zero _ hz w
      rw[r1]
      rw[hcz] at r2
      simp only[zfn,<- r2,List.headD_cons]
     cases z with
     | agg cs=>cases h
     | _=>exact fin rfl h
 ·cases h

theorem zEo : ∀ {cs : List Cl} {l : List Int} {vs : List Value}, zKa cs = some l → RL (clR g) cs vs → vs = l.map zhN ∧ zpG .bools l
  | [],l,[],h,_=>by simp only[zKa,dqa] at h;subst h;exact⟨rfl,λ x hx=>by cases hx⟩
  | [],_,_ :: _,_,hr=>hr.elim
  | _ :: _,_,[],_,hr=>hr.elim
  | c :: cs,l,v :: vs,h,hr=>by
    unfold zKa at h
    split at h
    · rename_i e;cases e
    · rename_i b r' e
      simp only[dqy] at e
      obtain⟨rfl,rfl⟩:=e
      split at h
      · rename_i l' hl'
        simp only[dqa] at h
        subst h
        obtain⟨i1,i2⟩:=zEo hl' hr.2
        have h1:=hr.1
        cases h1
        refine⟨by rw[i1];cases b <;> rfl,λ x hx=>?_⟩
        rcases dqq.1 hx with rfl | hx
        · cases b
          · exact .inl rfl
          · exact .inr rfl
        · exact i2 x hx
      · cases h
    · cases h
theorem ztT {ag:KF}{m:Nat}{d:DV}{c:List Int}{v:Value}(h:zJV ag m d=some c) (hag:ag=.one->m=1) (hv:dvR g d v):v=zcl ag c/\c.length=m/\zpG ag c:=by
 unfold zJV at h
 split at h
 ·rename_i cs
  split at h
  ·rename_i l hl
   split at h
   ·rename_i hb
    simp only[dqa] at h
    subst h
    obtain⟨vs,rfl,hr⟩:=hv
    exact⟨by rw[zrq hl hr];rfl,dqc hb,trivial⟩
   ·cases h
  ·cases h
 ·simp only [dqa] at h
  subst h
  cases hv
  exact⟨rfl,(hag rfl).symm,trivial⟩
 ·rename_i cs
  split at h
  ·rename_i l hl
   split at h
   ·rename_i hb
    simp only[dqa] at h
    subst h
    obtain⟨vs,rfl,hr⟩:=hv
    obtain⟨i1,i2⟩:=zEo hl hr
    exact⟨by rw[i1];rfl,dqc hb,i2⟩
   ·cases h
  ·cases h
 ·cases h

theorem zoN : ∀ (ks : List (Option IntKind)) (cs : List Cl) (l : List Int) (vs : List Value) (pre : List Int), zjK ks cs = some l → RL (clR g) cs vs → vs = zhO (some (pre ++ l)) pre.length ks
  | [],[],l,[],pre,h,_=>rfl
  | [],[],_,_ :: _,_,_,hr=>hr.elim
  | [],_ :: _,l,vs,pre,h,_=>by simp[zjK] at h
  | k :: ks,[],l,vs,pre,h,_=>by cases k <;> simp[zjK] at h
  | k :: ks,c :: cs,l,[],pre,h,hr=>hr.elim
  | k :: ks,c :: cs,l,v :: vs,pre,h,hr=>by
    unfold zjK at h
    split at h
    · rename_i e1 e2;cases e1
    · rename_i k' ks' k2 x r e1 e2
      simp only[dqy] at e1 e2
      obtain⟨rfl,rfl⟩:=e1
      obtain⟨rfl,rfl⟩:=e2
      split at h
      · rename_i hkk
        subst hkk
        split at h
        · rename_i l' hl'
          simp only[dqa] at h
          subst h
          have ih:=zoN ks cs l' vs (pre ++ [x]) hl' hr.2
          have h1:=hr.1
          cases h1
          rw[show pre ++ [x] ++ l'=pre ++ x :: l' by simp,show (pre ++ [x]).length=pre.length+1 by simp] at ih
          rw[ih]
          simp[zhO,cellV,zvS]
        · cases h
      · cases h
    · rename_i ks' b r e1 e2
      simp only[dqy] at e1 e2
      obtain⟨rfl,rfl⟩:=e1
      obtain⟨rfl,rfl⟩:=e2
      split at h
      · rename_i l' hl'
        simp only[dqa] at h
        subst h
        have h1:=hr.1
        cases h1
        have ih:∀ y:Int,vs=zhO (some (pre ++ y :: l')) (pre.length+1) ks:=λ y=>by
          have ih:=zoN ks cs l' vs (pre ++ [y]) hl' hr.2
          rw[show pre ++ [y] ++ l'=pre ++ y :: l' by simp,show (pre ++ [y]).length=pre.length+1 by simp] at ih
          exact ih
        rw[ih (match b with | true=>1 | false=>0)]
        cases b <;> simp[zhO,cellV,zvS]
      · cases h
    · cases h

theorem zwH {vag:Bool}{ks:List (Option IntKind)}{dv:D1}{l:List Int}{v:Value}(h:zjK ks dv.cells=some l) (hag:dv.isAgg=vag) (hv:d1R g dv v):v=zfn vag ks (some l):=by
 subst hag
 cases dv with
 | c x =>
  have:=zoN (g:=g) ks [x] l [v] [] h ⟨hv,trivial⟩
  simp only[List.nil_append,dqL] at this
  simp only[D1.isAgg,zfn,<- this,List.headD_cons]
 | agg cs =>
  obtain⟨vs,rfl,hr⟩:=hv
  have:=zoN (g:=g) ks cs l vs [] h hr
  simp only[List.nil_append,dqL] at this
  simp only[D1.isAgg,zfn,<- this]

theorem zoO {kt vt m : Nat} {ag : KF} {vag : Bool} {ks : List (Option IntKind)} (E : MapE P kt vt ag m vag ks) {es : Array MapEntry} {en : List (List Int × List Int)} (hen : es.toList.map (fun e => (e.key, e.val)) = en.map (fun x => (zcl ag x.1, zfn vag ks (some x.2))))
    (hl : ∀ x ∈ en, x.1.length = m ∧ zpG ag x.1) (hn : (en.map (·.1)).Nodup) {c : List Int} (hc : c.length = m ∧ zpG ag c) :
      ((Instr.findKey kt (zcl ag c) es.toList).run P w=.ok none w/\zfk c en=none/\∀ x∈en,x.1 ≠ c) \/
      ∃ (j:Nat) (e:MapEntry) (v:List Int),(Instr.findKey kt (zcl ag c) es.toList).run P w=.ok (some (j,zfn vag ks (some v))) w/\es[j]? = some e/\en[j]? = some (c,v)/\e.key=zcl ag c/\zfk c en=some v:=by
  have hk:es.toList.map (·.key)=en.map (λ x=>zcl ag x.1):=by
    have:=congrArg (List.map Prod.fst) hen
    simpa [List.map_map,Function.comp_def] using this
  rcases run_findKey (w:=w) E.key hc.1 hc.2 es.toList en hk hl with ⟨h1,h2⟩ | ⟨j,e,v,h1,h2,h3⟩
  · exact .inl ⟨h1,zkw h2,h2⟩
  · have h4 : (es.toList.map (fun e => (e.key, e.val)))[j]? = some (e.key, e.val) := by simp [h2]
    rw[hen] at h4
    simp only[dqH,h3,Option.map_some,dqa,dqh] at h4
    exact .inr ⟨j,e,v,by rw[h1,<- h4.2],by simpa using h2,h3,h4.1.symm,zgq hn h3⟩

theorem zjV {kt vt:Nat}{q:MQ}(h:zl2 P kt vt=some q):MapE P kt vt q.1 q.2.1 q.2.2.1 q.2.2.2:=by
 obtain⟨ag,m,vag,ks⟩:=q
 exact zoM h

def zwI (q:MQ) (ok:Bool) (o:Option (List Int)):Value :=
 match ok with
 | true=>.tuple #[zfn q.2.2.1 q.2.2.2 o,.bool o.isSome]
 | false=>zfn q.2.2.1 q.2.2.2 o
theorem zky {t kt vt b : Nat} {q : MQ} {ok : Bool} {F : List Int → Option (List Int)} {k : Nat} {es : Array MapEntry} {clock : Nat} (hu : P.underlying t = some (.map kt vt)) (E0 : zl2 P kt vt = some q)
    (hheap:w.heap[b]? = some (.map es clock)) (hm:moE q k F es clock) {c:List Int} (hc:c.length=q.2.1/\zpG q.1 c) :
    (Instr.lookup t (.map (some b)) (zcl q.1 c) ok).run P w=.ok (zwI q ok (F c)) w:=by
  obtain⟨en,M⟩:=hm
  have E:=zjV E0
  have hck:=zjT (P:=P) (w:=w) es.isEmpty E.key hc.1
  rw[M.find c hc.1]
  rcases zoO (w:=w) E M.ents (λ x hx=>⟨(M.len x hx).1,M.can x hx⟩) M.nodup hc with ⟨h1,h2,_⟩ | ⟨j,e,v,h1,_,_,_,h2⟩
  · rw [h2]
    simp only[Instr.lookup,dqd,run_underlying hu,dqb,MapKept.run_getObj_map hheap,dqe,hck,h1,E.zero w]
    cases ok <;> rfl
  · rw [h2]
    simp only[Instr.lookup,dqd,run_underlying hu,dqb,MapKept.run_getObj_map hheap,dqe,hck,h1]
    cases ok <;> rfl
theorem zrx {t kt vt : Nat} {q : MQ} {ok : Bool} (hu : P.underlying t = some (.map kt vt)) (E0 : zl2 P kt vt = some q) {c : List Int} (hc : c.length = q.2.1 ∧ zpG q.1 c) :
  (Instr.lookup t (.map none) (zcl q.1 c) ok).run P w=.ok (zwI q ok none) w:=by
 have E:=zjV E0
 have hck:=zjT (P:=P) (w:=w) true E.key hc.1
 have hck:(Instr.checkKey (#[]:Array MapEntry).isEmpty 10000 kt (zcl q.1 c)).run P w=.ok () w:=hck
 have hfk:(Instr.findKey kt (zcl q.1 c) (#[]:Array MapEntry).toList).run P w=.ok none w:=by
  rcases zoO (w:=w) E (es:=#[]) (en:=[]) rfl (λ x hx=>by simp at hx) List.nodup_nil hc with ⟨h1,_⟩ | ⟨j,e,v,_,h2,_⟩
  ·exact h1
  ·simp at h2
 simp only[Instr.lookup,dqd,run_underlying hu,dqb,dqe,hck,hfk,E.zero w]
 cases ok <;> rfl

theorem zme {o : Oper} {t : TypeId} {x y : Operand} {q : MQ} {ok : Bool} {A : OpAct} {F : List Int → Option (List Int)} {fin : DV → OpAct} {fp : List (Nat × Bool)} (S : Sim P nt B w0 h0 g σ a w) (hd : zck nt o.dst = true) (hop : o.op = .lookup t x y ok)
    (hA:found q (evO σ.env y) ok F fin=A) (hs:A.safe) (hone:q.1=.one->q.2.1=1)
    (hst:∀ d,(fin d).safe->zfL (fin d) i o.dst σ (σ.upd i o.dst fp d [] []))
    (hrun:∀ c d,fin d=A->c.length=q.2.1/\zpG q.1 c->(Instr.lookup t (a.eval x) (zcl q.1 c) ok).run P w=.ok (zwI q ok (F c)) w) :
    zfi P nt B w0 h0 r n i o A σ a w Q:=by
  unfold found at hA
  split at hA
  · rename_i c hc
    obtain⟨hyv,hcl⟩:=ztT hc hone (S.ev y)
    split at hA
    · rename_i d hdv
      have hvd:=zEn (g:=g) hdv
      have hlab:=zlM hdv
      cases ok with
      | true =>
        have hr:=hrun c _ hA hcl
        subst hA
        refine zaX S hd (by simp[hop]) (d:=.tup [d,.c (.p (.bool (F c).isSome))]) (v:=zwI q true (F c)) (fp:=fp) (hst _ hs) ?_ ?_ ?_
        · simp only[execOp,hop,hyv,dqd,hr,dqb,dqe]
        · exact⟨[_,_],rfl,hvd,.bool _,trivial⟩
        · intro M hM
          rw[show zbf (.tup [d,.c (.p (.bool (F c).isSome))])=zbN d ++ ([] ++ []) from rfl,hlab] at hM
          simp at hM
      | false =>
        have hr:=hrun c _ hA hcl
        subst hA
        refine zaX S hd (by simp[hop]) (d:=.one d) (v:=zwI q false (F c)) (fp:=fp) (hst _ hs) ?_ hvd ?_
        · simp only[execOp,hop,hyv,dqd,hr,dqb,dqe]
        · intro M hM
          simp[zbf,hlab] at hM
    · exact dq9 hA hs
  · exact dq9 hA hs

theorem zvk {o : Oper} {t : TypeId} {x y : Operand} {ok : Bool} {A : OpAct} (S : Sim P nt B w0 h0 g σ a w) (hd : zck nt o.dst = true) (hop : o.op = .lookup t x y ok)
    (hA:znz P t (evO σ.env x) (evO σ.env y) ok (lk σ.objs)=A) (hs:A.safe):zfi P nt B w0 h0 r n i o A σ a w Q:=by
  unfold znz at hA
  split at hA
  · rename_i kt vt L hu hx
    split at hA
    · rename_i q kt' vt' q' k F hE hL
      split at hA
      · rename_i hcond
        obtain⟨rfl,rfl,rfl⟩:=hcond
        have E:=zjV hE
        obtain⟨hxv,_⟩:=zbr S hx
        have hxv:a.eval x=.map (some (zdV (g.sv L))):=hxv
        obtain⟨es,clock,hheap,_,hm⟩:=S.obj L _ hL
        exact zme (fp:=[(L,false)]) S hd hop hA hs (zhQ E.key) (λ d _=>rfl) λ c d _ hc=>by rw[hxv];exact zky hu hE hheap hm hc
      · exact dq9 hA hs
    · exact dq9 hA hs
  · rename_i kt vt L ii hu hx
    split at hA
    · rename_i q te bb kt' vt' q' len mk nn F hE hL
      split at hA
      · rename_i hcond
        obtain⟨rfl,rfl,rfl⟩:=hcond
        have E:=zjV hE
        obtain⟨⟨hxv,b,hxb⟩,_⟩:=zbr S hx
        obtain⟨_,_,_,hel,_⟩:=S.obj L _ hL
        refine zme (fp:=[(L,false)]) S hd hop hA hs (zhQ E.key) (λ d _=>rfl) λ c d hfin hc=>?_
        have hlt:ii < len:=by rw[<- hfin] at hs;exact hs
        cases hmk:mk ii with
        | true =>
          obtain⟨b',es,clock,e1,e2,e3⟩:=(hel ii hlt).1 hmk
          rw[hxv,e1]
          exact zky hu hE e2 e3 hc
        | false =>
          have:=((hel ii hlt).2 hmk).1
          rw[hxv,this] at hxb
          cases hxb
      · exact dq9 hA hs
    · exact dq9 hA hs
  · rename_i kt vt q' n' F hu hx
    split at hA
    · rename_i q hE
      split at hA
      · rename_i hcond
        subst hcond
        have E:=zjV hE
        have hp:=zcK S hx
        refine zme (fp:=[]) S hd hop hA hs (zhQ E.key) (λ d _=>rfl) λ c d _ hc=>?_
        generalize hv:a.eval x=v at hp
        cases hp with
        | fmn _ _ hF=>rw[hF c hc.1];exact zrx hu hE hc
        | fm _ _ _ b es clock hb hm=>exact zky hu hE (S.hw.fz hb) hm hc
      · exact dq9 hA hs
    · exact dq9 hA hs
  · exact dq9 hA hs

theorem zp5 {c : List Int} (v : List Int) : ∀ {en : List (List Int × List Int)}, zfk c en = none → ∀ c', zfk c' (en ++ [(c, v)]) = if c' = c then some v else zfk c' en
  | [],_,c'=>by
    simp only[List.nil_append,zfk]
    by_cases h:c=c'
    · subst h;simp
    · rw[if_neg h,if_neg (λ e=>h e.symm)]
  | (k,u) :: r,hn,c'=>by
    simp only[zfk] at hn
    split at hn
    · cases hn
    · rename_i hkc
      simp only[List.cons_append,zfk]
      by_cases h:k=c'
      · subst h
        rw[if_pos rfl,if_pos rfl,if_neg hkc]
      · rw [if_neg h, if_neg h]
        exact zp5 v hn c'
theorem zp6 {c v v' : List Int} : ∀ {en : List (List Int × List Int)} {j : Nat}, (en.map (·.1)).Nodup → en[j]? = some (c, v) → ∀ c', zfk c' (en.set j (c, v')) = if c' = c then some v' else zfk c' en
  | [],j,_,h,_=>by simp at h
  | (k,u) :: r,j,hn,h,c'=>by
    simp only[dqK,List.nodup_cons] at hn
    cases j with
    | zero =>
      simp only[List.getElem?_cons_zero,dqa,dqh] at h
      obtain⟨rfl,rfl⟩:=h
      simp only[List.set_cons_zero,zfk]
      by_cases h:k=c'
      · subst h;simp
      · rw[if_neg h,if_neg (λ e=>h e.symm),if_neg h]
    | succ j =>
      simp only[dqC] at h
      have hkc:k ≠ c:=λ e=>hn.1 (dqz.2 ⟨_,dqx h,e.symm⟩)
      simp only[List.set_cons_succ,zfk]
      by_cases h2:k=c'
      · subst h2
        rw[if_pos rfl,if_pos rfl,if_neg hkc]
      · rw [if_neg h2, if_neg h2]
        exact zp6 hn.2 h c'
theorem zwJ (c v:List Int) (F:List Int->Option (List Int)) (x:List Int):ztB c v F x=if x=c then some v else F x:=by
 unfold ztB
 by_cases h:x=c <;> simp[h]

theorem zjW : ∀ {ks : List (Option IntKind)} {cs : List Cl} {l : List Int}, zjK ks cs = some l → l.length = ks.length
  | [],[],l,h=>by simp[zjK] at h;subst h;rfl
  | [],_ :: _,l,h=>by simp[zjK] at h
  | k :: ks,[],l,h=>by cases k <;> simp[zjK] at h
  | k :: ks,c :: cs,l,h=>by
    unfold zjK at h
    split at h
    · rename_i e1 e2;cases e1
    · rename_i k' ks' k2 x r e1 e2
      simp only[dqy] at e1 e2
      obtain⟨rfl,rfl⟩:=e1
      obtain⟨rfl,rfl⟩:=e2
      split at h
      · split at h
        · rename_i l' hl'
          simp only[dqa] at h
          subst h
          simp[zjW hl']
        · cases h
      · cases h
    · rename_i ks' b r e1 e2
      simp only[dqy] at e1 e2
      obtain⟨rfl,rfl⟩:=e1
      obtain⟨rfl,rfl⟩:=e2
      split at h
      · rename_i l' hl'
        simp only[dqa] at h
        subst h
        simp[zjW hl']
      · cases h
    · cases h

theorem zp7 {t kt vt b : Nat} {q : MQ} {F : List Int → Option (List Int)} {k : Nat} {es : Array MapEntry} {clock : Nat} (hu : P.underlying t = some (.map kt vt)) (E0 : zl2 P kt vt = some q)
    (hheap:w.heap[b]? = some (.map es clock)) (hm:moE q k F es clock) {c:List Int} (hc:c.length=q.2.1/\zpG q.1 c) (l:List Int) (hll:l.length=q.2.2.2.length) :
    ∃ es' clock',(Instr.mapUpdate t (.map (some b)) (zcl q.1 c) (zfn q.2.2.1 q.2.2.2 (some l))).run P w=.ok () { w with heap:=w.heap.setIfInBounds b (.map es' clock') }/\moE q (addN (F c) k) (ztB c l F) es' clock':=by
  obtain⟨ag,m,vag,ks⟩:=q
  obtain⟨en,h1',hcan,h2',hen,hl,hn,hF,hsz,hbo,hbn⟩:=hm
  simp only at h1' hcan h2' hen hl hn hF hc hll ⊢
  have E:=zoM E0
  have hck:=zjT (P:=P) (w:=w) false E.key hc.1
  rcases zoO (w:=w) E hen (λ x hx=>⟨(hl x hx).1,hcan x hx⟩) hn hc with ⟨h1,h2,h3⟩ | ⟨j,e,v,h1,h2,h3,h4,h5⟩
  · refine ⟨es.push { key := zcl ag c, val := zfn vag ks (some l), born := clock }, clock + 1, ?_, en ++ [(c, l)], h1', fun x hx => ?_, h2', ?_, ?_, ?_, ?_, ?_, ?_, ?_⟩
    · simp only[Instr.mapUpdate,dqd,run_underlying hu,dqb,MapKept.run_getObj_map hheap,hck,h1,MapKept.run_setObj_map _ hheap]
    · rcases dqg.1 hx with hx | hx
      · exact hcan x hx
      · simp only[dqi] at hx;subst hx;exact hc.2
    · rw[Array.toList_push,List.map_append,hen,List.map_append];rfl
    · intro x hx
      rcases dqg.1 hx with hx | hx
      · exact hl x hx
      · simp only[dqi] at hx;subst hx;exact⟨hc.1,hll⟩
    · rw [List.map_append, List.nodup_append]
      refine⟨hn,by simp,λ a ha b hb e=>?_⟩
      simp only[dqK,List.map_nil,dqi] at hb
      obtain⟨x,hx,hxa⟩:=dqz.1 ha
      exact h3 x hx (by rw[hxa,e,hb])
    · intro c' hc'
      rw[zwJ,zp5 l h2,hF c' hc']
    · rw[hF c hc.1,h2,hsz];simp[addN]
    · intro x hx
      rw[Array.toList_push] at hx
      rcases dqg.1 hx with hx | hx
      · exact Nat.lt_succ_of_lt (hbo x hx)
      · simp only[dqi] at hx;subst hx;exact Nat.lt_succ_self _
    · rw [Array.toList_push, List.map_append, List.nodup_append]
      refine⟨hbn,by simp,λ a ha b hb e=>?_⟩
      simp only[dqK,List.map_nil,dqi] at hb
      obtain⟨x,hx,hxa⟩:=dqz.1 ha
      have:=hbo x hx
      omega
  · have hmod:(es.modify j λ e=>{ e with key:=zcl ag c,val:=zfn vag ks (some l) }).toList=es.toList.set j { e with key:=zcl ag c,val:=zfn vag ks (some l) }:=by
      rw[Array.toList_modify]
      have h2':es.toList[j]? = some e:=by simpa using h2
      obtain⟨hj,he⟩:=dqn.1 h2'
      apply List.ext_getElem?
      intro q
      rw[List.getElem?_modify,List.getElem?_set]
      by_cases hq:j=q
      · subst hq
        rw[h2']
        have hj':j < es.size:=by simpa using hj
        simp[hj']
      · simp[hq]
    have hen':es.toList.map (λ e=>(e.key,e.val))=en.map (λ x=>(zcl ag x.1,zfn vag ks (some x.2))):=hen
    refine⟨es.modify j λ e=>{ e with key:=zcl ag c,val:=zfn vag ks (some l) },clock,?_,en.set j (c,l),h1',λ x hx=>?_,h2',?_,?_,?_,?_,?_,?_,?_⟩
    · have hkey : ((es[j]?).map (·.key)).getD (zcl ag c) = zcl ag c := by rw [h2]; simp [h4]
      have hst:(Instr.keyThatStays (zcl ag c) (zcl ag c)).run P w=.ok (zcl ag c) w:=by
        simp[Instr.keyThatStays,zvi]
      simp only[Instr.mapUpdate,dqd,run_underlying hu,dqb,MapKept.run_getObj_map hheap,hck,h1,hkey,hst,MapKept.run_setObj_map _ hheap]
    · rcases List.mem_or_eq_of_mem_set hx with hx | rfl
      · exact hcan x hx
      · exact hc.2
    · rw[hmod,List.map_set,List.map_set,hen']
    · intro x hx
      rcases List.mem_or_eq_of_mem_set hx with hx | rfl
      · exact hl x hx
      · exact⟨hc.1,hll⟩
    · rw [List.map_set]
      rw[show (en.map (·.1)).set j c=en.map (·.1) from ?_]
      · exact hn
      · have : (en.map (·.1))[j]? = some c := by simp [h3]
        obtain⟨hj,he⟩:=dqn.1 this
        apply List.ext_getElem?
        intro q
        rw[List.getElem?_set]
        by_cases hq:j=q
        · subst hq;rw[this];simp;simpa using hj
        · simp[hq]
    · intro c' hc'
      rw[zwJ,zp6 hn h3,hF c' hc']
    · rw[hF c hc.1,h5,List.length_set,hsz];rfl
    · intro x hx
      rw[hmod] at hx
      rcases List.mem_or_eq_of_mem_set hx with hx | rfl
      · exact hbo x hx
      · exact hbo e (dqx (by simpa using h2))
    · rw [hmod, List.map_set]
      rw[show (es.toList.map (·.born)).set j e.born=es.toList.map (·.born) from ?_]
      · exact hbn
      · have : (es.toList.map (·.born))[j]? = some e.born := by simp [h2]
        obtain⟨hj,he⟩:=dqn.1 this
        apply List.ext_getElem?
        intro q
        rw[List.getElem?_set]
        by_cases hq:j=q
        · subst hq;rw[this];simp;simpa using hj
        · simp[hq]

theorem zwK {o : Oper} {t : TypeId} {x y z : Operand} {A : OpAct} (S : Sim P nt B w0 h0 g σ a w) (hd : zck nt o.dst = true) (hop : o.op = .mapUpdate t x y z)
    (hA:zu5 P t (evO σ.env x) (evO σ.env y) (evO σ.env z) (lk σ.objs)=A) (hs:A.safe):zfi P nt B w0 h0 r n i o A σ a w Q:=by
  unfold zu5 at hA
  split at hA
  · rename_i kt vt L hu hx
    split at hA
    · rename_i q kt' vt' q' k F hE hL
      split at hA
      · rename_i c dv hc hz
        split at hA
        · rename_i l hl
          split at hA
          · rename_i hcond
            obtain⟨rfl,rfl,rfl,hag⟩:=hcond
            subst hA
            have E:=zjV hE
            obtain⟨hxv,_⟩:=zbr S hx
            have hxv:a.eval x=.map (some (zdV (g.sv L))):=hxv
            obtain⟨hyv,hcl⟩:=ztT hc (zhQ E.key) (S.ev y)
            have hzv:a.eval z=zfn q'.2.2.1 q'.2.2.2 (some l):=zwH hl hag (by have:=S.ev z;rw[hz] at this;exact this)
            obtain⟨es,clock,hheap,_,hm⟩:=S.obj L _ hL
            obtain⟨es',clock',hrun,hm'⟩:=zp7 (P:=P) hu hE hheap hm hcl l (zjW hl)
            have hlt:=(dqp.1 hheap).1
            have hB:=(S.own L _ (zdV (g.sv L)) hL rfl).1
            refine zgk (by simp[hop]) (w':={ w with heap:=w.heap.setIfInBounds (zdV (g.sv L)) (.map es' clock') }) ?_ ⟨g,_,rfl,?_⟩
            · simp only[execOp,hop,hxv,hyv,hzv,dqd,hrun,dqb,dqe]
            · rw [zbi]
              have hoth:∀ b,¬ (zdV (g.sv L)=b)->(w.heap.setIfInBounds (zdV (g.sv L)) (Obj.map es' clock'))[b]? = w.heap[b]?:=λ b hb=>by rw[Array.getElem?_setIfInBounds,if_neg hb]
              have S' := S.write (o' := .mo kt' vt' q' (addN (F c) k) (ztB c l F)) (w' := { w with heap := w.heap.setIfInBounds (zdV (g.sv L)) (.map es' clock') }) hL (fun b hb => hb)
                (ze0 hB (by simp) (λ q hq=>hoth q λ e=>hq e.symm) rfl rfl rfl rfl) (λ b hb=>hoth b hb)
                ⟨es',clock',by show (w.heap.setIfInBounds (zdV (g.sv L)) _)[zdV (g.sv L)]? = _;simp[hlt],hE,hm'⟩ (λ M hM=>by simp[zb8] at hM)
              exact S'.put (d:=.junk) hd trivial (λ M hM=>by simp[zbf,zbN,zaE] at hM) _
          · exact dq9 hA hs
        · exact dq9 hA hs
      · exact dq9 hA hs
    · exact dq9 hA hs
  · rename_i kt vt L ii hu hx
    split at hA
    · rename_i q te bb kt' vt' q' len mk nn F hE hL
      split at hA
      · rename_i c dv hc hz
        split at hA
        · rename_i l hl
          split at hA
          · rename_i hcond
            obtain⟨rfl,rfl,rfl,hag⟩:=hcond
            subst hA
            have hlt:ii < len:=hs
            have E:=zjV hE
            obtain⟨⟨hxv,b,hxb⟩,_⟩:=zbr S hx
            obtain⟨hyv,hcl⟩:=ztT hc (zhQ E.key) (S.ev y)
            have hzv:a.eval z=zfn q'.2.2.1 q'.2.2.2 (some l):=zwH hl hag (by have:=S.ev z;rw[hz] at this;exact this)
            obtain⟨_,hinf,hrow,hel,hsep⟩:=S.obj L _ hL
            have hmk:mk ii=true:=by
              cases hmk:mk ii with
              | true=>rfl
              | false=>have:=((hel ii hlt).2 hmk).1;rw[hxv,this] at hxb;cases hxb
            obtain⟨b',es,clock,e1,hheap,hm⟩:=(hel ii hlt).1 hmk
            rw[hxv,e1] at hxb
            simp only[Value.map.injEq,dqa] at hxb
            subst hxb
            obtain⟨es',clock',hrun,hm'⟩:=zp7 (P:=P) hu hE hheap hm hcl l (zjW hl)
            have hblt:=(dqp.1 hheap).1
            have hob:obk g L (.vm te bb kt' vt' q' len mk nn F) b':=.inr ⟨ii,hlt,e1⟩
            have hB:=(S.own L _ b' hL hob).1
            refine zgk (by simp[hop]) (w':={ w with heap:=w.heap.setIfInBounds b' (.map es' clock') }) ?_ ⟨g,_,rfl,?_⟩
            · simp only[execOp,hop,hxv,e1,hyv,hzv,dqd,hrun,dqb,dqe]
            · rw [zbi]
              have hoth:∀ b,b ≠ b'->(w.heap.setIfInBounds b' (Obj.map es' clock'))[b]? = w.heap[b]?:=λ b hb=>by rw[Array.getElem?_setIfInBounds,if_neg (λ e=>hb e.symm)]
              have S' := S.write (o' := .vm te bb kt' vt' q' len mk (zd6 ii (addN (F ii c) (nn ii)) nn) (zd6 ii (ztB c l (F ii)) F)) (w' := { w with heap := w.heap.setIfInBounds b' (.map es' clock') }) hL (fun b hb => hb)
                (ze0 hB (by simp) hoth rfl rfl rfl rfl) (λ b hb=>hoth b λ e=>hb (by rw[e];exact hob))
                ⟨hE,hinf,zb1 hrow λ k hk=>hoth k λ e=>by rw[e] at hk;exact (hsep ii b' hlt e1).1 hk,λ j hj=>by
                  by_cases e:j=ii
                  · subst e
                    have x2:zd6 j (addN (F j c) (nn j)) nn j=addN (F j c) (nn j):=by simp[zd6]
                    have x3:zd6 j (ztB c l (F j)) F j=ztB c l (F j):=by simp[zd6]
                    rw[x2,x3]
                    exact⟨λ _=>⟨b',es',clock',e1,by show (w.heap.setIfInBounds b' _)[b']? = _;simp[hblt],hm'⟩,λ h=>by rw[hmk] at h;cases h⟩
                  · have hbf : Nat.beq j ii = false := by cases hq : Nat.beq j ii with | true => exact absurd (dqc hq) e | false => rfl
                    have x2:zd6 ii (addN (F ii c) (nn ii)) nn j=nn j:=by simp only[zd6,hbf]
                    have x3:zd6 ii (ztB c l (F ii)) F j=F j:=by simp only[zd6,hbf]
                    rw[x2,x3]
                    refine⟨λ h=>?_,(hel j hj).2⟩
                    obtain⟨b2,es2,cl2,y1,y2,y3⟩:=(hel j hj).1 h
                    refine⟨b2,es2,cl2,y1,?_,y3⟩
                    rw[hoth b2 λ e2=>e ((hsep ii b' hlt e1).2 j hj (by rw[<- e2];exact y1)).symm];exact y2,hsep⟩ (λ M hM=>by simp[zb8] at hM)
              exact S'.put (d:=.junk) hd trivial (λ M hM=>by simp[zbf,zbN,zaE] at hM) _
          · exact dq9 hA hs
        · exact dq9 hA hs
      · exact dq9 hA hs
    · exact dq9 hA hs
  · exact dq9 hA hs

theorem zwL (c:List Int) (F:List Int->Option (List Int)) (x:List Int):zKc c F x=if x=c then none else F x:=by
 unfold zKc
 by_cases h:x=c <;> simp[h]
theorem zmf {c v : List Int} : ∀ {en : List (List Int × List Int)} {j : Nat}, (en.map (·.1)).Nodup → en[j]? = some (c, v) → ∀ c', zfk c' (en.eraseIdx j) = if c' = c then none else zfk c' en
  | [],j,_,h,_=>by simp at h
  | (k,u) :: r,j,hn,h,c'=>by
    simp only[dqK,List.nodup_cons] at hn
    cases j with
    | zero =>
      simp only[List.getElem?_cons_zero,dqa,dqh] at h
      obtain⟨rfl,rfl⟩:=h
      simp only[List.eraseIdx_cons_zero,zfk]
      by_cases h:c'=k
      · subst h
        rw[if_pos rfl]
        exact zkw λ x hx e=>hn.1 (dqz.2 ⟨x,hx,e⟩)
      · rw[if_neg h,if_neg (λ e=>h e.symm)]
    | succ j =>
      simp only[dqC] at h
      have hkc:k ≠ c:=λ e=>hn.1 (dqz.2 ⟨_,dqx h,e.symm⟩)
      simp only[List.eraseIdx_cons_succ,zfk]
      by_cases h2:k=c'
      · subst h2
        rw[if_pos rfl,if_pos rfl,if_neg hkc]
      · rw [if_neg h2, if_neg h2]
        exact zmf hn.2 h c'
theorem zhS {α β : Type} (f : α → β) : ∀ (l : List α) (j : Nat), (l.map f).eraseIdx j = (l.eraseIdx j).map f
  | [],_=>rfl
  | _ :: _,0=>rfl
  | a :: l,j+1=>by simp only[dqK,List.eraseIdx_cons_succ,zhS f l j]
theorem zwM {t t' ty kt vt b : Nat} {q : MQ} {F : List Int → Option (List Int)} {k : Nat} {es : Array MapEntry} {clock : Nat} (hu : P.underlying t = some (.map kt vt)) (E0 : zl2 P kt vt = some q)
    (hheap:w.heap[b]? = some (.map es clock)) (hm:moE q k F es clock) {c:List Int} (hc:c.length=q.2.1/\zpG q.1 c) :
    ∃ es' clock',(Builtin.delete_ #[t,t'] ty #[.map (some b),zcl q.1 c]).run P w=.ok (.tuple #[]) { w with heap:=w.heap.setIfInBounds b (.map es' clock') }/\moE q (zNL (F c) k) (zKc c F) es' clock':=by
  obtain⟨ag,m,vag,ks⟩:=q
  obtain⟨en,h1',hcan,h2',hen,hl,hn,hF,hsz,hbo,hbn⟩:=hm
  simp only at h1' hcan h2' hen hl hn hF hc ⊢
  have E:=zoM E0
  have hck:=zjT (P:=P) (w:=w) es.isEmpty E.key hc.1
  rcases zoO (w:=w) E hen (λ x hx=>⟨(hl x hx).1,hcan x hx⟩) hn hc with ⟨h1,h2,h3⟩ | ⟨j,e,v,h1,h2,h3,h4,h5⟩
  · refine ⟨es, clock, ?_, en, h1', hcan, h2', hen, hl, hn, ?_, ?_, hbo, hbn⟩
    · simp[Builtin.delete_,run_underlying hu,MapKept.run_getObj_map hheap,hck,h1,MapKept.run_setObj_map _ hheap]
    · intro c' hc'
      rw[zwL]
      by_cases e:c'=c
      · subst e;rw[if_pos rfl,h2]
      · rw[if_neg e];exact hF c' hc'
    · rw[hF c hc.1,h2,hsz];rfl
  · have hjl : j < es.toList.length := (dqn.1 (show es.toList[j]? = some e by simpa using h2)).1
    have her:(es.eraseIdxIfInBounds j).toList=es.toList.eraseIdx j:=by
      unfold Array.eraseIdxIfInBounds
      rw[dif_pos (by simpa using hjl)]
      simp
    refine⟨es.eraseIdxIfInBounds j,clock,?_,en.eraseIdx j,h1',λ x hx=>hcan x ((List.eraseIdx_sublist _ _).subset hx),h2',?_,?_,?_,?_,?_,?_,?_⟩
    · simp[Builtin.delete_,run_underlying hu,MapKept.run_getObj_map hheap,hck,h1,MapKept.run_setObj_map _ hheap]
    · rw[her,<- zhS,hen,zhS]
    · intro x hx
      exact hl x ((List.eraseIdx_sublist _ _).subset hx)
    · rw[<- zhS];exact hn.sublist (List.eraseIdx_sublist _ _)
    · intro c' hc'
      rw[zwL,zmf hn h3]
      by_cases e:c'=c
      · rw[if_pos e,if_pos e]
      · rw[if_neg e,if_neg e];exact hF c' hc'
    · rw [hF c hc.1, h5, hsz]
      have hj2:j < en.length:=(dqn.1 h3).1
      simp only[zNL,List.length_eraseIdx,if_pos hj2]
    · intro x hx
      rw[her] at hx
      exact hbo x ((List.eraseIdx_sublist _ _).subset hx)
    · rw[her,<- zhS];exact hbn.sublist (List.eraseIdx_sublist _ _)
theorem zFV {o : Oper} {args : Array Operand} {ts : Array TypeId} {A : OpAct} (S : Sim P nt B w0 h0 g σ a w) (hd : zck nt o.dst = true) (hop : o.op = .call { callee := .builtin .delete, args, argTypes := ts })
    (hA:zpJ P (args.toList.map (evO σ.env)) ts.toList (lk σ.objs)=A) (hs:A.safe):zfi P nt B w0 h0 r n i o A σ a w Q:=by
  unfold zpJ at hA
  split at hA
  · rename_i L kd t t' hargs hts
    obtain⟨x,y,rfl,hx,hy⟩:=zjU hargs
    have ht:ts = #[t,t']:=by rw[<- Array.toArray_toList (xs:=ts),hts]
    subst ht
    split at hA
    · rename_i kt vt hu
      split at hA
      · rename_i q kt' vt' q' k F hE hL
        split at hA
        · rename_i c hc
          split at hA
          · rename_i hcond
            obtain⟨rfl,rfl,rfl⟩:=hcond
            subst hA
            have E:=zjV hE
            obtain⟨hxv,_⟩:=zbr S hx
            have hxv:a.eval x=.map (some (zdV (g.sv L))):=hxv
            obtain⟨hyv,hcl⟩:=ztT hc (zhQ E.key) (by have:=S.ev y;rw[hy] at this;exact this)
            obtain⟨es,clock,hheap,_,hm⟩:=S.obj L _ hL
            obtain⟨es',clock',hrun,hm'⟩:=zwM (P:=P) (t:=t) (t':=t') (ty:=o.type) hu hE hheap hm hcl
            have hlt:=(dqp.1 hheap).1
            have hB:=(S.own L _ (zdV (g.sv L)) hL rfl).1
            refine zem (by simp[hop]) (v:=.tuple #[]) (w':={ w with heap:=w.heap.setIfInBounds (zdV (g.sv L)) (.map es' clock') }) ?_ ⟨g,_,rfl,?_⟩
            · refine fb hop ?_
              simp only[show ∀ ats ty cs args,builtin .delete ats ty cs args=(do pure (.value (<- Builtin.delete_ ats ty args))) from λ _ _ _ _=>rfl,dqK,List.map_nil,List.map_toArray,hxv,hyv,dqd,hrun,dqb,dqe]
            · rw [zbi]
              have hoth:∀ b,¬ (zdV (g.sv L)=b)->(w.heap.setIfInBounds (zdV (g.sv L)) (Obj.map es' clock'))[b]? = w.heap[b]?:=λ b hb=>by rw[Array.getElem?_setIfInBounds,if_neg hb]
              have S' := S.write (o' := .mo kt' vt' q' (zNL (F c) k) (zKc c F)) (w' := { w with heap := w.heap.setIfInBounds (zdV (g.sv L)) (.map es' clock') }) hL (fun b hb => hb)
                (ze0 hB (by simp) (λ q hq=>hoth q λ e=>hq e.symm) rfl rfl rfl rfl) (λ b hb=>hoth b hb)
                ⟨es',clock',by show (w.heap.setIfInBounds (zdV (g.sv L)) _)[zdV (g.sv L)]? = _;simp[hlt],hE,hm'⟩ (λ M hM=>by simp[zb8] at hM)
              exact S'.put (d:=.tup []) hd ⟨[],rfl,trivial⟩ (λ M hM=>by simp[zbf] at hM) _
          · exact dq9 hA hs
        · exact dq9 hA hs
      · exact dq9 hA hs
    · exact dq9 hA hs
  · exact dq9 hA hs

theorem Sim.newMo (S : Sim P nt B w0 h0 g σ a w) {t kt vt : Nat} {q : MQ} (ht : lk σ.objs t = none) (hE : zl2 P kt vt = some q) :
  Sim P nt B w0 h0 (g.setSv t (.map (some w.heap.size))) { σ with objs:=(t,.mo kt vt q 0 (λ _=>none)) :: σ.objs } a (w.alloc (.map #[] 0)):=by
 have hne:∀ L o,lk σ.objs L=some o->L ≠ t:=λ L o h e=>by subst e;rw[ht] at h;cases h
 have hsame:∀ L o,lk σ.objs L=some o->zd0 g (g.setSv t (.map (some w.heap.size))) L:=λ L o h=>⟨rfl,by simp[Gh.setSv,hne L o h],rfl⟩
 have hold:∀ b,b < w.heap.size->(w.alloc (.map #[] 0)).heap[b]? = w.heap[b]?:=λ b hb=>heap_alloc_old w _ b hb
 have hlk:∀ L o,lk ((t,AO.mo kt vt q 0 (λ _=>none)) :: σ.objs) L=some o->(L=t/\o=.mo kt vt q 0 (λ _=>none))\/(L ≠ t/\lk σ.objs L=some o):=by
  intro L o h
  rw[zay] at h
  split at h
  ·rename_i e;simp at h;exact .inl ⟨e.symm,h.symm⟩
  ·rename_i e;exact .inr ⟨λ e'=>e e'.symm,h⟩
 have hobkb:∀ L o b,lk σ.objs L=some o->obk (g.setSv t (.map (some w.heap.size))) L o b->obk g L o b:=λ L o b ho hob=>Eq.mp (congrFun (zbK (hsame L o ho)) _) hob
 refine S.change (g':=g.setSv t (.map (some w.heap.size))) hsame (λ _ _ h=>h) ?_ (λ b o h=>.inl h) (Bel.of ⟨(Below.refl B w).alloc S.bs _,dqt _⟩) ?_ ?_ ?_ ?_ ?_
 ·exact S.hw.same λ b o h=>hold b (ziK S.hw h)
 ·intro L o ho
  rcases hlk L o ho with ⟨rfl,rfl⟩ | ⟨_,ho⟩
  ·have E := zjV hE
   exact⟨#[],0,by rw[show zdV ((g.setSv L (.map (some w.heap.size))).sv L)=w.heap.size by simp[Gh.setSv,zdV]];exact heap_alloc_new w _,hE,[],zhQ E.key,(λ x hx=>by cases hx),E.one,rfl,λ x hx=>by simp at hx,List.nodup_nil,λ c _=>rfl,rfl,λ e he=>by simp at he,by simp⟩
  ·refine zcV (S.obj L o ho) (hsame L o ho) (fun M hM => ?_) (fun _ _ h => h) (fun b hob => hold b (zc4 (S.obj L o ho) hob))
   obtain⟨o',ho'⟩:=S.clO L o ho M hM
   exact hsame M o' ho'
 ·intro L o b ho hob
  rcases hlk L o ho with ⟨rfl,rfl⟩ | ⟨_,ho⟩
  ·simp [obk, Gh.setSv, zdV] at hob; subst hob
   refine⟨S.bs,?_⟩
   cases hh:g.h w.heap.size with
   | none=>exact hh
   | some x=>exact absurd (ziK S.hw hh) (by omega)
  ·exact S.own L o b ho (hobkb L o b ho hob)
 ·intro L o b L' o' ho ho' hob hob'
  rcases hlk L o ho with ⟨rfl,rfl⟩ | ⟨hn,ho2⟩ <;> rcases hlk L' o' ho' with ⟨rfl,rfl⟩ | ⟨hn',ho2'⟩
  ·rfl
  ·simp [obk, Gh.setSv, zdV] at hob; subst hob
   exact absurd (zc4 (S.obj L' o' ho2') (hobkb _ _ _ ho2' hob')) (by omega)
  ·simp [obk, Gh.setSv, zdV] at hob'; subst hob'
   exact absurd (zc4 (S.obj L o ho2) (hobkb _ _ _ ho2 hob)) (by omega)
  ·exact S.sep L o b L' o' ho2 ho2' (hobkb _ _ _ ho2 hob) (hobkb _ _ _ ho2' hob')
 ·intro L o ho
  refine⟨o,?_⟩
  rw[zay,if_neg (λ e=>hne L o ho e.symm)];exact ho
 ·intro L o ho M hM
  have fin:∀ M o,lk σ.objs M=some o->∃ o',lk ((t,AO.mo kt vt q 0 (λ _=>none)) :: σ.objs) M=some o':=λ M o h=>⟨o,by rw[zay,if_neg (λ e=>hne M o h e.symm)];exact h⟩
  rcases hlk L o ho with ⟨rfl,rfl⟩ | ⟨_,ho⟩
  ·simp[zb8] at hM
  ·obtain⟨o',ho'⟩:=S.clO L o ho M hM;exact fin M o' ho'

theorem zvl {o : Oper} {t kt vt : TypeId} {q : MQ} {A : OpAct} (S : Sim P nt B w0 h0 g σ a w) (hd : zck nt o.dst = true) (hop : o.op = .makeMap t none) (hE : zl2 P kt vt = some q)
    (hA:zrb (lk σ.objs) o.dst (.mo kt vt q 0 (λ _=>none)) (λ t=>.cl (.mo t))=A) (hs:A.safe):zfi P nt B w0 h0 r n i o A σ a w Q:=by
  unfold zrb at hA
  split at hA
  · rename_i L hL
    split at hA
    · rename_i hlk
      subst hA
      have S':=S.newMo (kt:=kt) (vt:=vt) hlk hE
      refine zem (by simp[hop]) (v:=.map (some w.heap.size)) (w':=w.alloc (.map #[] 0)) ?_ ⟨g.setSv L (.map (some w.heap.size)),_,rfl,?_⟩
      · simp[execOp,hop,Instr.makeMap]
      · rw [zbi]
        refine S'.put (σ:={ σ with objs:=(L,AO.mo kt vt q 0 (λ _=>none)) :: σ.objs }) hd (d:=.cl (.mo L)) ?_ ?_ _
        · simp[dvR,d1R,clR,Gh.setSv,zdV]
        · intro M hM
          simp[zbf,zbN,zaE] at hM
          subst hM
          exact⟨_,by rw[zay,if_pos rfl]⟩
    · exact dq9 hA hs
  · exact dq9 hA hs
end
end Go.Pm
namespace Go.Pm
variable [DrawZ]
open Go.RowKit (Below)

section
variable {P:Program}{Γ:Ctrs}{nt B:Nat}{w0:World}{h0:Fz}{g:Gh}{σ:St}{a:Act}{w:World}{r:Option Nat}{n i:Nat}{Q:Exit->Act->World->Prop}

theorem zCX {h : Fz} {n s l k : Nat} {get : Nat → List PV} {v : Value} (hr : Rep h (.sl n s get) v) (hl : l ≤ k) (hk : k ≤ n) :
  ∃ a len cap,v=.slice a len cap/\len=n/\len<=cap/\Rep h (.sl (k - l) s (slG get l)) (sliced a l k cap s):=by
 cases hr with
 | sl0=>exact⟨none,0,0,rfl,rfl,dqt _,by
   obtain rfl:k=0:=by omega
   obtain rfl:l=0:=by omega
   exact .sl0 _ _⟩
 | sle _ _ a cap=>exact⟨some a,0,cap,rfl,rfl,Nat.zero_le _,by
   obtain rfl:k=0:=by omega
   obtain rfl:l=0:=by omega
   unfold sliced
   split
   ·exact .sle _ _ _ _
   ·exact .sle _ _ _ _⟩
 | sl _ _ _ b o cap C ty fr vs hb hcap hlen hc hr =>
  refine⟨_,n,cap,rfl,rfl,hcap,?_⟩
  unfold sliced
  by_cases hkl:k - l=0
  ·rw [hkl]
   split
   ·exact .sle _ _ _ _
   ·exact .sle _ _ _ _
  ·rw [if_neg (by omega)]
   simp only[Option.map_some,addr_add]
   refine .sl (k - l) s (slG get l) b (o+l * s) (cap - l) C ty fr (λ i=>vs (i+l)) hb (by omega) (λ i hi=>hlen (i+l) (by omega)) (λ i j x hi hj=>?_) (λ i j x hi hj=>hr (i+l) j x (by omega) hj)
   have:=hc (i+l) j x (by omega) hj
   rw[Nat.add_mul] at this
   rw[show o+l * s+i * s+j=o+(i * s+l * s)+j by omega]
   exact this

theorem ztU (S:Sim P nt B w0 h0 g σ a w){x:Option Operand}{j:Option Int}(h:zu6 (evO σ.env) x=some j):(j=none/\x.map a.eval=none)\/∃ k q,j=some q/\x.map a.eval=some (.int k q):=by
 cases x with
 | none=>simp only[zu6,dqa] at h;exact .inl ⟨h.symm,rfl⟩
 | some x =>
  simp only[zu6] at h
  split at h
  ·rename_i k q hx
   simp only[dqa] at h
   exact .inr ⟨k,q,h.symm,by rw[Option.map_some,zdw S hx]⟩
  ·cases h

theorem zwN {o : Oper} {t : TypeId} {x : Operand} {lo hi : Option Operand} {A : OpAct} (S : Sim P nt B w0 h0 g σ a w) (hd : zck nt o.dst = true) (hop : o.op = .slice t x lo hi none)
    (hA:zlG P t (evO σ.env x) (zu6 (evO σ.env) lo) (zu6 (evO σ.env) hi)=A) (hs:A.safe):zfi P nt B w0 h0 r n i o A σ a w Q:=by
  unfold zlG at hA
  split at hA
  · rename_i e m s get lo' hi' hu hx hlo hhi
    split at hA
    · rename_i q hq
      split at hA
      · rename_i hb
        have hsq:=dqc hb
        subst hsq
        subst hA
        obtain⟨h1,h2,h3⟩:0<=lo'.getD 0/\lo'.getD 0<=hi'.getD (m:Int)/\hi'.getD (m:Int)<=(m:Int):=hs
        have hv:=zcK S hx
        obtain⟨ad,len,cap,hav,hlen,hcap,hr⟩:=zCX (l:=(lo'.getD 0).toNat) (k:=(hi'.getD (m:Int)).toNat) hv (by omega) (by omega)
        subst hlen
        have hue:P.underlying t=some (.slice (P.elem t)):=by simp[Program.elem,hu]
        have hel:P.elem t=e:=by simp[Program.elem,hu]
        have hsz:=run_sizeOf (w:=w) hq
        have hrun:(Instr.slice t (a.eval x) (lo.map a.eval) (hi.map a.eval) none).run P w=.ok (sliced ad (lo'.getD 0).toNat (hi'.getD (len:Int)).toNat cap s) w:=by
          rw[hav,run_slice_any w t ad len cap hue,hel]
          have hb:(Instr.sliceBounds true len cap (lo.map a.eval) (hi.map a.eval) none).run P w=.ok ((lo'.getD 0).toNat,(hi'.getD (len:Int)).toNat,cap) w:=by
            rcases ztU S hlo with ⟨rfl,e1⟩ | ⟨k1,q1,rfl,e1⟩ <;> rcases ztU S hhi with ⟨rfl,e2⟩ | ⟨k2,q2,rfl,e2⟩ <;> rw[e1,e2] <;> simp only[Option.getD_some,Option.getD_none] at h1 h2 h3 ⊢
            · simp[Instr.sliceBounds]
            · simp[Instr.sliceBounds,run_sliceBound w k2 q2 cap _ (by omega) (by omega)]
            · simp[Instr.sliceBounds,run_sliceBound w k1 q1 len _ (by omega) (by omega)]
            · simp[Instr.sliceBounds,run_sliceBound w k2 q2 cap _ (by omega) (by omega),run_sliceBound w k1 q1 q2.toNat _ (by omega) (by omega)]
          rw[hb]
          simp only[dqb,hsz]
        refine zaX S hd (by simp[hop]) (d:=.p (.sl (hi'.getD (len:Int) - lo'.getD 0).toNat s (slG get (lo'.getD 0).toNat))) (v:=sliced ad (lo'.getD 0).toNat (hi'.getD (len:Int)).toNat cap s) (fp:=[]) rfl ?_ ?_ (zd1 _)
        · simp[execOp,hop,Instr.sliceAt,run_underlying hu,hrun]
        · rw [show (hi'.getD (len : Int) - lo'.getD 0).toNat = (hi'.getD (len : Int)).toNat - (lo'.getD 0).toNat by omega]
          exact hr
      · exact dq9 hA hs
    · exact dq9 hA hs
  · exact dq9 hA hs
end
end Go.Pm
namespace Go.Pm
variable [DrawZ]
open Go.RowKit (Below)

section
variable {P:Program}{Γ:Ctrs}{nt B:Nat}{w0:World}{h0:Fz}{g:Gh}{σ:St}{a:Act}{w:World}{r:Option Nat}{n i:Nat}{Q:Exit->Act->World->Prop}

theorem Sim.newObj (S : Sim P nt B w0 h0 g σ a w) {t : Nat} {o : AO} {g' : Gh} {w' : World} (ht : lk σ.objs t = none) (hh : g'.h = g.h) (hs : ∀ M, M ≠ t → zd0 g g' M)
    (hb:BelD B w w') (hold:∀ b,b < w.heap.size->w'.heap[b]? = w.heap[b]?) (hv:∀ b,obk g' t o b->w.heap.size<=b) (hlab:zb8 o=[]) (hr:aoR P g' w' B t o) :
    Sim P nt B w0 h0 g' { σ with objs:=(t,o) :: σ.objs } a w':=by
  have hne:∀ L o,lk σ.objs L=some o->L ≠ t:=λ L o h e=>by subst e;rw[ht] at h;cases h
  have hsame:∀ L o,lk σ.objs L=some o->zd0 g g' L:=λ L o h=>hs L (hne L o h)
  have hlk:∀ L x,lk ((t,o) :: σ.objs) L=some x->(L=t/\x=o)\/(L ≠ t/\lk σ.objs L=some x):=by
    intro L x h
    rw[zay] at h
    split at h
    · rename_i e;simp at h;exact .inl ⟨e.symm,h.symm⟩
    · rename_i e;exact .inr ⟨λ e'=>e e'.symm,h⟩
  have hobkb:∀ L o b,lk σ.objs L=some o->obk g' L o b->obk g L o b:=λ L o b ho hob=>Eq.mp (congrFun (zbK (hsame L o ho)) _) hob
  have hle:Fle g.h g'.h:=by rw[hh];exact λ _ _ h=>h
  refine S.change (g':=g') hsame hle ?_ (λ b o h=>by rw[hh] at h;exact .inl h) (.of hb) ?_ ?_ ?_ ?_ ?_
  · rw[hh];exact S.hw.same λ b o h=>hold b (ziK S.hw h)
  · intro L x hx
    rcases hlk L x hx with ⟨rfl,rfl⟩ | ⟨_,hx⟩
    · exact hr
    · refine zcV (S.obj L x hx) (hsame L x hx) (fun M hM => ?_) hle (fun b hob => hold b (zc4 (S.obj L x hx) hob))
      obtain⟨o',ho'⟩:=S.clO L x hx M hM
      exact hsame M o' ho'
  · intro L x b' hx hob
    rcases hlk L x hx with ⟨rfl,rfl⟩ | ⟨_,hx⟩
    · have h1 := hv b' hob
      refine⟨dqE S.bs h1,?_⟩
      rw[hh]
      cases hq:g.h b' with
      | none=>rfl
      | some x=>exact absurd (ziK S.hw hq) (by omega)
    · rw[hh];exact S.own L x b' hx (hobkb L x b' hx hob)
  · intro L x b' L' x' hx hx' hob hob'
    rcases hlk L x hx with ⟨rfl,rfl⟩ | ⟨hn,hx2⟩ <;> rcases hlk L' x' hx' with ⟨rfl,rfl⟩ | ⟨hn',hx2'⟩
    · rfl
    · have := hv b' hob
      exact absurd (zc4 (S.obj L' x' hx2') (hobkb _ _ _ hx2' hob')) (by omega)
    · have := hv b' hob'
      exact absurd (zc4 (S.obj L x hx2) (hobkb _ _ _ hx2 hob)) (by omega)
    · exact S.sep L x b' L' x' hx2 hx2' (hobkb _ _ _ hx2 hob) (hobkb _ _ _ hx2' hob')
  · intro L o ho
    refine⟨o,?_⟩
    rw[zay,if_neg (λ e=>hne L o ho e.symm)];exact ho
  · intro L x hx M hM
    rcases hlk L x hx with ⟨rfl,rfl⟩ | ⟨_,hx⟩
    · rw[hlab] at hM;simp at hM
    · obtain ⟨o', ho'⟩ := S.clO L x hx M hM
      exact⟨o',by rw[zay,if_neg (λ e=>hne M o' ho' e.symm)];exact ho'⟩

theorem zmg {z:Array Value}{s m i:Nat}(hz:z.size=s) (hi:i < m):((madeCells z (m * s)).toList.drop (i * s)).take s=z.toList:=by
 have hii:i * s+s<=m * s:=by have:=dqw s (Nat.succ_le_of_lt hi);rw[dqV] at this;exact this
 apply List.ext_getElem?
 intro j
 rw[dqs]
 split
 ·rename_i hj
  rw[dqI]
  have:(madeCells z (m * s)).toList[i * s+j]? = some z[(i * s+j) % z.size]!:=by
   simp only[madeCells,Array.toList_map,dqH]
   rw[Array.toList_range,List.getElem?_range (by omega)]
   rfl
  rw[this,hz,Nat.mul_comm i s,Nat.mul_add_mod,Nat.mod_eq_of_lt hj]
  have hj':j < z.size:=by omega
  simp[hj']
 ·rename_i hj
  rw[dqM (by simp;omega)]

theorem zoP {o : Oper} {t : TypeId} {x y : Operand} {A : OpAct} (S : Sim P nt B w0 h0 g σ a w) (hd : zck nt o.dst = true) (hop : o.op = .makeSlice t x y)
    (hA:zhJ P Γ t (evO σ.env x) (evO σ.env y) o.dst (lk σ.objs)=A) (hs:A.safe):zfi P nt B w0 h0 r n i o A σ a w Q:=by
  unfold zhJ at hA
  split at hA
  · rename_i e k1 j k2 j2 dst hu hx hy hdst
    split at hA
    · rename_i ie z hi hz hfresh
      obtain⟨i',zv,hi2,hzv,hov,hlen⟩:=zeL hz
      rw[hi] at hi2;simp only[dqa] at hi2;subst hi2
      have hzs:zv.cells.size=ie.size:=by have:=(ze4 (g:=g) _ _ hov).length;simp at this;omega
      have hxv:=zdw S hx
      have hyv:=zdw S hy
      have made:∀ (hs:0<=j/\j=j2/\j<=1000000) (hbytes:ie.bytes<=1000000),∃ w',(execOp a.eval o).run P w=.ok (.value (.slice (some ⟨w.heap.size,0,none⟩) j.toNat j.toNat)) w' /\
          w'.ownsRow B e ie.size (.slice (some ⟨w.heap.size,0,none⟩) j.toNat j.toNat) j.toNat (madeCells zv.cells (j.toNat * ie.size)).toList/\BelD B w w'/\∀ b,b < w.heap.size->w'.heap[b]? = w.heap[b]?:=by
        intro hs hbytes
        obtain⟨h0,rfl,h1⟩:=hs
        have hj:j=((j.toNat:Nat):Int):=by omega
        have hmul:ie.bytes * j.toNat<=281474976710656:=dqE (Nat.mul_le_mul hbytes (show j.toNat<=1000000 by omega)) (by decide)
        obtain⟨w',hr,hown,hg⟩:=run_make_full (P:=P) w B t e ie zv ie.size hu hi hzv rfl k1 k2 j.toNat hmul (by simp only[maxLen];omega) S.bs
        refine⟨w',?_,hown,⟨⟨hg.os,hg.tape,hg.output,hg.size,λ k hk=>hg.block k (dqS hk S.bs) (by simp)⟩,zpP (zcW _ _ _ _ hr)⟩,λ b hb=>hg.block b hb (by simp)⟩
        rw[<- hj] at hr
        simp only[execOp,hop,hxv,hyv,dqd,hr,dqb,dqe]
      split at hA
      · split at hA
        · rename_i kt vt hum
          split at hA
          · rename_i q hE hcond
            simp only[dqm,Nat.ble_eq] at hcond
            have hs1:=dqc hcond.1
            subst hA
            obtain⟨w',hrun,hown,hbel,hold⟩:=made hs hcond.2
            have hsv:(g.setVv dst (.slice (some ⟨w.heap.size,0,none⟩) j.toNat j.toNat) (λ _=>.map none)).sv dst=.slice (some ⟨w.heap.size,0,none⟩) j.toNat j.toNat:=by simp[Gh.setVv]
            have hiv:(g.setVv dst (.slice (some ⟨w.heap.size,0,none⟩) j.toNat j.toNat) (λ _=>.map none)).iv dst=λ _=>.map none:=by simp[Gh.setVv]
            have hz1:zv.cells.toList=[.map none]:=by
              match hl:zv.cells.toList,hov with
              | [],h=>simp[zdt] at h
              | [v],h =>
                simp only[zdt] at h
                split at h
                · rename_i x' l' h1 h2
                  simp only[dqa] at h2;subst h2
                  simp only[dqa,dqy,Cl.p.injEq,and_true] at h;subst h
                  unfold zjH at h1
                  split at h1 <;> simp at h1
                  rfl
                · cases h
              | v :: u :: l,h =>
                simp only[zdt] at h
                split at h
                · rename_i x' l' h1 h2
                  simp only[dqa,dqy] at h
                  obtain⟨_,rfl⟩:=h
                  split at h2
                  · simp at h2
                  · cases h2
                · cases h
            have S2 := S.newObj (t := dst) (o := .vm e ie.bytes kt vt q j.toNat (fun _ => false) (fun _ => 0) (fun _ _ => none)) (g' := g.setVv dst (.slice (some ⟨w.heap.size, 0, none⟩) j.toNat j.toNat) (fun _ => .map none)) (w' := w')
              hfresh rfl (λ M hM=>⟨rfl,by simp[Gh.setVv,hM],by simp[Gh.setVv,hM]⟩) hbel hold (λ b hb=>by
                rcases hb with hb | ⟨i,_,hb⟩
                · rw[hsv] at hb;simp only[Value.ownBlock,dqa] at hb;omega
                · rw[hiv] at hb;cases hb) rfl (by
              refine⟨hE,⟨ie,zv,hi,hs1,rfl,hzv,by rw[hzs,hs1]⟩,?_,λ i hi'=>⟨λ h=>absurd h (by simp),λ _=>⟨congrFun hiv i,rfl,λ _ _=>rfl⟩⟩,λ i k _ h=>?_⟩
              rotate_left
              · rw[hiv] at h;cases h
              rw[hsv,hiv]
              rw[hs1] at hown
              have:(madeCells zv.cells (j.toNat * 1)).toList=(List.range j.toNat).map λ _=>Value.map none:=by
                apply List.ext_getElem?
                intro q
                by_cases hq:q < j.toNat
                · have h1 := zmg (z := zv.cells) (s := 1) (by rw [hzs, hs1]) hq
                  have h2:=congrArg (λ l=>l[0]?) h1
                  simp only[dqs,dqI] at h2
                  rw[if_pos (by decide)] at h2
                  simp only[Nat.mul_one,Nat.add_zero] at h2
                  rw[Nat.mul_one,h2,hz1]
                  simp[hq]
                · rw[dqM (by simp[madeCells];omega),dqM (by simp;omega)]
              rw[this] at hown
              exact hown)
            refine zem (by simp[hop]) hrun ⟨g.setVv dst (.slice (some ⟨w.heap.size,0,none⟩) j.toNat j.toNat) (λ _=>.map none),_,rfl,?_⟩
            rw[zbi]
            refine S2.put (v:=.slice (some ⟨w.heap.size,0,none⟩) j.toNat j.toNat) hd (d:=.cl (.vec dst)) ⟨hsv.symm,rfl⟩ ?_ _
            intro M hM
            simp[zbf,zbN,zaE] at hM
            subst hM
            exact⟨_,by rw[zay,if_pos rfl]⟩
          · exact dq9 hA hs
        · rename_i e2 hue
          split at hA
          · rename_i i2 z2 hi2' hz2' hcond
            simp only[dqm,Nat.ble_eq] at hcond
            have hs1:=dqc hcond.1
            split at hA
            · rename_i l2 hl2 hb2
              have hpos2:0 < i2.size:=Nat.lt_of_succ_le (Nat.le_of_ble_eq_true hb2)
              subst hA
              obtain⟨w',hrun,hown,hbel,hold⟩:=made hs hcond.2
              obtain⟨i3,zv2,hi3,zQH,zQI,hlen2⟩:=zeL hz2'
              rw[hi2'] at hi3;simp only[dqa] at hi3;subst hi3
              have hzs2:zv2.cells.size=i2.size:=by have:=(ze4 (g:=g) _ _ zQI).length;simp at this;omega
              have hsv:(g.setVv dst (.slice (some ⟨w.heap.size,0,none⟩) j.toNat j.toNat) (λ _=>.slice none 0 0)).sv dst=.slice (some ⟨w.heap.size,0,none⟩) j.toNat j.toNat:=by simp[Gh.setVv]
              have hiv:(g.setVv dst (.slice (some ⟨w.heap.size,0,none⟩) j.toNat j.toNat) (λ _=>.slice none 0 0)).iv dst=λ _=>.slice none 0 0:=by simp[Gh.setVv]
              have hz1:zv.cells.toList=[.slice none 0 0]:=by
                match hl:zv.cells.toList,hov with
                | [],h=>simp[zdt] at h
                | [v],h =>
                  simp only[zdt] at h
                  split at h
                  · rename_i x' l' h1 h2
                    simp only[dqa] at h2;subst h2
                    simp only[dqa,dqy,Cl.p.injEq,and_true] at h;subst h
                    unfold zjH at h1
                    split at h1 <;> simp at h1
                    rfl
                  · cases h
                | v :: u :: l,h =>
                  simp only[zdt] at h
                  split at h
                  · rename_i x' l' h1 h2
                    simp only[dqa,dqy] at h
                    obtain⟨_,rfl⟩:=h
                    split at h2
                    · simp at h2
                    · cases h2
                  · cases h
              have S2 := S.newObj (t := dst) (o := .vv e ie.bytes e2 i2.size i2.bytes j.toNat (fun _ => 0) (fun _ _ => l2)) (g' := g.setVv dst (.slice (some ⟨w.heap.size, 0, none⟩) j.toNat j.toNat) (fun _ => .slice none 0 0)) (w' := w')
                hfresh rfl (λ M hM=>⟨rfl,by simp[Gh.setVv,hM],by simp[Gh.setVv,hM]⟩) hbel hold (λ b hb=>by
                  rcases hb with hb | ⟨i,_,hb⟩
                  · rw[hsv] at hb;simp only[Value.ownBlock,dqa] at hb;omega
                  · rw[hiv] at hb;cases hb) rfl (by
                refine⟨hpos2,⟨ie,zv,hi,hs1,rfl,hzv,by rw[hzs,hs1]⟩,⟨i2,zv2,hi2',rfl,rfl,zQH,hzs2⟩,?_,λ i hi'=>?_,λ i k _ h=>?_⟩
                rotate_left
                · rw[hiv];exact⟨rfl,λ _=>rfl,[],World.ownsRow_nil _ _ _ _,λ _ h=>absurd h (dqW _)⟩
                · rw[hiv] at h;cases h
                rw[hsv,hiv]
                rw[hs1] at hown
                have:(madeCells zv.cells (j.toNat * 1)).toList=(List.range j.toNat).map λ _=>Value.slice none 0 0:=by
                  apply List.ext_getElem?
                  intro q
                  by_cases hq:q < j.toNat
                  · have h1 := zmg (z := zv.cells) (s := 1) (by rw [hzs, hs1]) hq
                    have h2:=congrArg (λ l=>l[0]?) h1
                    simp only[dqs,dqI] at h2
                    rw[if_pos (by decide)] at h2
                    simp only[Nat.mul_one,Nat.add_zero] at h2
                    rw[Nat.mul_one,h2,hz1]
                    simp[hq]
                  · rw[dqM (by simp[madeCells];omega),dqM (by simp;omega)]
                rw[this] at hown
                exact hown)
              refine zem (by simp[hop]) hrun ⟨g.setVv dst (.slice (some ⟨w.heap.size,0,none⟩) j.toNat j.toNat) (λ _=>.slice none 0 0),_,rfl,?_⟩
              rw[zbi]
              refine S2.put (v:=.slice (some ⟨w.heap.size,0,none⟩) j.toNat j.toNat) hd (d:=.cl (.vec dst)) ⟨hsv.symm,rfl⟩ ?_ _
              intro M hM
              simp[zbf,zbN,zaE] at hM
              subst hM
              exact⟨_,by rw[zay,if_pos rfl]⟩
            · exact dq9 hA hs
          · exact dq9 hA hs
        · exact dq9 hA hs
      · split at hA
        · rename_i l hl
          split at hA
          · rename_i hcond
            simp only[dqm,Nat.ble_eq] at hcond
            subst hA
            obtain⟨w',hrun,hown,hbel,hold⟩:=made hs hcond.2
            have hsv:(g.setSv dst (.slice (some ⟨w.heap.size,0,none⟩) j.toNat j.toNat)).sv dst=.slice (some ⟨w.heap.size,0,none⟩) j.toNat j.toNat:=by simp[Gh.setSv]
            have hrl:=ze4 (g:=g) _ _ hov
            rw[zeM hl] at hrl
            have hrl:=RL.map_left.1 hrl
            have S2 := S.newVec (t := dst) (w' := w') (e := e) (s := ie.size) (b := ie.bytes) (n := j.toNat) (get := fun _ => zCs P e l) (v := .slice (some ⟨w.heap.size, 0, none⟩) j.toNat j.toNat) hfresh hbel hold
              (λ b hb=>by simp[Value.ownBlock] at hb;omega) ⟨by omega,⟨ie,zv,hi,rfl,rfl,hzv,hzs⟩,_,by rw[hsv];exact hown,λ i hi'=>by rw[zmg hzs hi'];exact ztF hrl⟩
            refine zem (by simp[hop]) hrun ⟨g.setSv dst (.slice (some ⟨w.heap.size,0,none⟩) j.toNat j.toNat),_,rfl,?_⟩
            rw[zbi]
            refine S2.put (v:=.slice (some ⟨w.heap.size,0,none⟩) j.toNat j.toNat) hd (d:=.cl (.vec dst)) ⟨hsv.symm,rfl⟩ ?_ _
            intro M hM
            simp[zbf,zbN,zaE] at hM
            subst hM
            exact⟨_,by rw[zay,if_pos rfl]⟩
          · exact dq9 hA hs
        · exact dq9 hA hs
    · exact dq9 hA hs
  · exact dq9 hA hs

theorem zwO {o : Oper} {t : TypeId} {x : Operand} {A : OpAct} (S : Sim P nt B w0 h0 g σ a w) (hd : zck nt o.dst = true) (hop : o.op = .range t x)
    (hA:act P Γ o (evO σ.env) (lk σ.objs)=A) (hs:A.safe):zfi P nt B w0 h0 r n i o A σ a w Q:=by
  simp only[act,hop] at hA
  split at hA
  · rename_i q q' m F hq hx
    split at hA
    · rename_i e
      subst e
      unfold zrb at hA
      split at hA
      · rename_i dst hdst
        split at hA
        · rename_i hfresh
          subst hA
          have hp:=zcK S hx
          have hu:∃ kt vt,P.underlying t=some (.map kt vt):=by
            unfold zKb at hq
            split at hq
            · rename_i kt vt hu;exact⟨kt,vt,hu⟩
            · cases hq
          obtain⟨kt,vt,hu⟩:=hu
          have fin:∀ ob:Obj,(Instr.range t (a.eval x)).run P w=.ok (.pointer (some ⟨w.heap.size,0,none⟩)) (w.alloc ob)->zKl g.h (w.alloc ob) w.heap.size q' m F [] ->
              zfi P nt B w0 h0 r n i o (.val [(dst,true)] (.cl (.ptr dst 0)) [(dst,.mit q' m F [])] []) σ a w Q:=by
            intro ob hrun hm
            have hbk:(g.setBk dst w.heap.size).bk dst=w.heap.size:=by simp[Gh.setBk]
            have S2 := S.newObj (t := dst) (o := .mit q' m F []) (g' := g.setBk dst w.heap.size) (w' := w.alloc ob) hfresh rfl (fun M hM => ⟨by simp [Gh.setBk, hM], rfl, rfl⟩)
              ⟨(Below.refl B w).alloc S.bs _,dqt _⟩ (λ b hb=>heap_alloc_old w _ b hb) (λ b hb=>by simp only[obk,hbk] at hb;omega) rfl (by simp only[aoR,hbk];exact hm)
            refine zem (by simp[hop]) (v:=.pointer (some ⟨w.heap.size,0,none⟩)) (w':=w.alloc ob) (by simp only[execOp,hop,dqd,hrun,dqb,dqe]) ⟨g.setBk dst w.heap.size,_,rfl,?_⟩
            rw[zbi]
            refine S2.put (v:=.pointer (some ⟨w.heap.size,0,none⟩)) hd (d:=.cl (.ptr dst 0)) ?_ ?_ _
            · show _ = Value.pointer (some ⟨_, 0, none⟩)
              rw[hbk]
            · intro M hM
              simp[zbf,zbN,zaE] at hM
              subst hM
              exact⟨_,by rw[zay,if_pos rfl]⟩
          generalize hv:a.eval x=v at hp
          cases hp with
          | fmn _ _ hF =>
            refine fin (.mapIter none 0 #[] 0) ?_ (.inl ⟨heap_alloc_new w _,rfl,hF,rfl⟩)
            rw[hv]
            simp[Instr.range,run_underlying hu]
          | fm _ _ _ b es clock hb hm =>
            have hheap:=S.hw.fz hb
            obtain⟨en,hen⟩:=hm
            refine fin (.mapIter (some b) clock #[] clock) ?_ (.inr ⟨b,es,clock,#[],en,hb,hen,heap_alloc_new w _,λ j e x _ _=>by simp,λ c r h=>by cases h⟩)
            rw[hv]
            simp[Instr.range,run_underlying hu,MapKept.run_getObj_map hheap]
        · exact dq9 hA hs
      · exact dq9 hA hs
    · exact dq9 hA hs
  · exact dq9 hA hs

theorem find_born {es:List MapEntry}(hn:(es.map (·.born)).Nodup){j:Nat}{e:MapEntry}(he:es[j]? = some e):es.find? (·.born == e.born)=some e:=by
 induction es generalizing j with
 | nil=>simp at he
 | cons x r ih =>
  simp only[dqK,List.nodup_cons] at hn
  cases j with
  | zero=>simp at he;subst he;simp
  | succ j =>
   simp only[dqC] at he
   have hne:(x.born == e.born)=false:=by
    simp only[dqU]
    intro h
    exact hn.1 (dqz.2 ⟨e,dqx he,h.symm⟩)
   rw[List.find?_cons,hne]
   exact ih hn.2 he

theorem zKx {q : MQ} {m clock : Nat} {F : List Int → Option (List Int)} {es : Array MapEntry} {en : List (List Int × List Int)} (M : MoE q m F es clock en) {j : Nat} {e : MapEntry} {c v : List Int} (he : es[j]? = some e) (hx : en[j]? = some (c, v)) :
  e.key=zcl q.1 c/\e.val=zfn q.2.2.1 q.2.2.2 (some v):=by
 have h:=congrArg (λ l=>l[j]?) M.ents
 have he':es.toList[j]? = some e:=by simpa using he
 simp only[dqH,he',hx,Option.map_some,dqa,dqh] at h
 exact h

theorem zmh {b:Nat}{m:Option Nat}{since:Nat}{sb:Array Nat}{st:Nat}(h:w.heap[b]? = some (.mapIter m since sb st)):(getObj b).run P w=.ok (.mapIter m since sb st) w:=by
 simp[getObj,Sem.run,h]

theorem zKz {ag:KF}{c:List Int}{d:D1}(h:zKd ag c=some d):d1R g d (zcl ag c):=by
 unfold zKd at h
 split at h
 ·simp only [dqa] at h; subst h
  refine⟨c.map (Value.int .i64),rfl,?_⟩
  induction c with
  | nil=>trivial
  | cons y l ih=>exact⟨.int _ _,ih⟩
 ·simp only [dqa] at h; subst h
  exact .int _ _
 ·cases h
theorem ztV {ag:KF}{c:List Int}{d:D1}(h:zKd ag c=some d):zbN d=[]:=by
 unfold zKd at h
 split at h
 ·simp only [dqa] at h; subst h
  induction c with
  | nil=>rfl
  | cons y l ih=>exact ih
 ·simp only[dqa] at h;subst h;rfl
 ·cases h

theorem zwP {o : Oper} {x : Operand} {A : OpAct} (S : Sim P nt B w0 h0 g σ a w) (hd : zck nt o.dst = true) (hop : o.op = .entry x)
    (hA:act P Γ o (evO σ.env) (lk σ.objs)=A) (hs:A.safe):zfi P nt B w0 h0 r n i o A σ a w Q:=by
  simp only[act,hop] at hA
  split at hA
  · rename_i L hx
    split at hA
    · rename_i q m F c seen hL
      split at hA
      · rename_i kd vd hkd hvd
        subst hA
        have hxv:a.eval x=.pointer (some ⟨g.bk L,0,none⟩):=(zbr S hx).1
        rcases S.obj L _ hL with ⟨_,_,_,h⟩ | ⟨mb,es,clock,sb,en,hmb,M,hit,hseen,hcur⟩
        · cases h
        · obtain ⟨j, e, v, he, hen, hback⟩ := hcur c _ rfl
          have hlc:=M.len (c,v) (dqx hen)
          have hF:F c=some v:=by rw[M.find c hlc.1];exact zgq M.nodup hen
          rw[hF] at hvd
          have hmap:=S.hw.fz hmb
          obtain⟨hk,hvl⟩:=zKx M he hen
          have hfind:es.find? (·.born == e.born)=some e:=by
            rw[<- Array.find?_toList]
            exact find_born M.bornN (by simpa using he)
          have hrun:(Instr.entry (a.eval x)).run P w=.ok (.tuple #[zcl q.1 c,zfn q.2.2.1 q.2.2.2 (some v)]) w:=by
            rw[hxv]
            simp[Instr.entry,zmh hit,hback,MapKept.run_getObj_map hmap,hfind,hk,hvl]
          refine zaX S hd (by simp[hop]) (d:=.tup [kd,vd]) (v:=.tuple #[zcl q.1 c,zfn q.2.2.1 q.2.2.2 (some v)]) (fp:=_) rfl ?_ ?_ ?_
          · simp only[execOp,hop,dqd,hrun,dqb,dqe]
          · exact⟨[_,_],rfl,zKz hkd,zEn hvd,trivial⟩
          · intro M' hM
            have:zbf (.tup [kd,vd])=zbN kd ++ (zbN vd ++ []):=rfl
            rw[this,zlM hvd,ztV hkd] at hM
            simp at hM
      · exact dq9 hA hs
    · exact dq9 hA hs
  · exact dq9 hA hs
end
end Go.Pm
namespace Go.Pm
variable [DrawZ]
open Go.RowKit (Below)

section
variable {P:Program}{Γ:Ctrs}{nt B:Nat}{w0:World}{h0:Fz}{g:Gh}{σ:St}{a:Act}{w:World}{r:Option Nat}{n i:Nat}{Q:Exit->Act->World->Prop}

theorem zCY {h:Fz}{x:PA}{v:Value}(hx:paR h x v):d1R ⟨h,g.bk,g.sv,g.iv⟩ (paD x) v:=by
 cases x with
 | one p=>exact hx
 | agg cs =>
  obtain⟨vs,rfl,hr⟩:=hx
  exact⟨vs,rfl,RL.map_left.2 hr⟩
theorem ztW {h:Fz}{rs:List PA}{v:Value}(hr:zvT h rs v):dvR ⟨h,g.bk,g.sv,g.iv⟩ (resD rs) v:=by
 have tup:∀ l:List PA,(∃ vs:List Value,v=.tuple vs.toArray/\RL (paR h) l vs)->dvR ⟨h,g.bk,g.sv,g.iv⟩ (.tup (l.map paD)) v:=by
  rintro l ⟨vs,hv,hr2⟩
  exact⟨vs,hv,RL.map_left.2 (RL.mono hr2 λ _ _ h=>zCY h)⟩
 match rs,hr with
 | [],hr=>exact tup _ hr
 | [x],hr=>exact zCY hr
 | x :: y :: l,hr=>exact tup _ hr
theorem zoQ (x:PA):zbN (paD x)=[]:=by
 cases x with
 | one p=>rfl
 | agg cs=>exact zdp cs
theorem zlN (rs:List PA):zbf (resD rs)=[]:=by
 have tup:∀ l:List PA,zbf (.tup (l.map paD))=[]:=by
  intro l
  induction l with
  | nil=>rfl
  | cons x l ih=>simp only[dqK,zbf,dqJ,zoQ,List.nil_append] at ih ⊢;exact ih
 match rs with
 | []=>exact tup _
 | [x]=>exact zoQ x
 | x :: y :: l=>exact tup _

theorem zcG {f:FuncId}{args:Array Value}(h:zal P f):(callFunc f args).run P w=.ok (.enter f args) w:=by
 obtain⟨fn,h1,h2,h3⟩:=h
 have h2':fn.body.isNone=false:=by simpa using h2
 simp only[callFunc,dqd,run_program,dqb,h1,h3,h2',Bool.false_eq_true,if_false,dqe]

theorem zvm (S : Sim P nt B w0 h0 g σ a w) : ∀ (l : List Operand), RL (dvR g) (l.map (evO σ.env)) (l.map a.eval)
  | []=>trivial
  | x :: r=>⟨S.ev x,zvm S r⟩

theorem zwQ {h:Fz}{l:List PV}{vs:List Value}(hr:RL (Rep h) l vs):RL (paR h) (l.map .one) vs:=RL.map_left.2 hr

theorem zp8 {h:Fz}{l:List PV}{vs:List Value}(h1:l.length=vs.length) (h2:∀ (j:Nat) (x:PV) (v:Value),l[j]? = some x->vs[j]? = some v->Rep h x v):RL (Rep h) l vs:=RL.of_get h1 h2


theorem Sim.swap (S : Sim P nt B w0 h0 g σ a w) {u : List (Nat × AO)} {kl K : List Nat} {g' : Gh} {w' : World} (hle : Fle g.h g'.h) (hw' : Hw g'.h w') (hbk : ∀ M, g'.bk M = g.bk M) (hs : ∀ M, M ∉ kl → zd0 g g' M)
    (hkl:∀ L∈kl,lk u L ≠ none) (hX:BelX g.h K w w') (hK:∀ b∈K,∃ L o o',lk u L=some o/\lk σ.objs L=some o'/\obk g L o' b)
    (hv:∀ L o,lk u L=some o->aoR P g' w' B L o) (hob:∀ L o b,lk u L=some o->obk g' L o b->(b∈K\/w.heap.size<=b)/\g'.h b=none)
    (hsep:∀ L o b L' o',lk u L=some o->lk u L'=some o'->obk g' L o b->obk g' L' o' b->L=L')
    (hlab:∀ L o,lk u L=some o->∀ M∈zb8 o,∃ o',lk σ.objs M=some o') (hnK:∀ b o,g'.h b=some o->g.h b=some o\/w.heap.size<=b\/b∈K) (log:List (Nat×Nat×Nat)) :
    Sim P nt B w0 h0 g' ⟨kills (zdU kl) σ.env,u ++ kills (zdc kl) σ.objs,log⟩ a w':=by
  have hlk:∀ M x,lk (u ++ kills (zdc kl) σ.objs) M=some x->lk u M=some x\/(lk u M=none/\M ∉ kl/\∃ o,lk σ.objs M=some o/\x=zdc kl o):=by
    intro M x h
    rw[zdm] at h
    cases hM:lk u M with
    | some y=>rw[hM] at h;exact .inl h
    | none =>
      rw[hM] at h;simp only[] at h
      rw[zf7] at h
      obtain⟨o,ho,rfl⟩:=dqv.1 h
      exact .inr ⟨rfl,λ hk=>hkl M hk hM,o,ho,rfl⟩
  have hdom:∀ M o,lk σ.objs M=some o->∃ x,lk (u ++ kills (zdc kl) σ.objs) M=some x:=by
    intro M o h
    rw[zdm]
    cases lk u M with
    | some y=>exact⟨y,rfl⟩
    | none=>simp only[];rw[zf7,h];exact⟨_,rfl⟩
  have hobk:∀ M o,M ∉ kl->obk g' M (zdc kl o)=obk g M o:=by
    intro M o hne
    have:=hs M hne
    funext k
    cases o <;> simp[zdc,obk,this.1,this.2.1,this.2.2]
  have hKB:∀ b∈K,B<=b/\g.h b=none:=λ b hb=>by
    obtain⟨L,_,o',_,h2,h3⟩:=hK b hb;exact S.own L o' b h2 h3
  have hout:∀ M o k,lk u M=none->lk σ.objs M=some o->obk g M o k->k ∉ K:=λ M o k h1 h2 h3 hk=>by
    obtain⟨L,x,o',h4,h5,h6⟩:=hK k hk
    rw[S.sep M o k L o' h2 h5 h3 h6,h4] at h1;cases h1
  have hold:∀ M o k,lk u M=none->lk σ.objs M=some o->obk g M o k->w'.heap[k]? = w.heap[k]?:=λ M o k h1 h2 h3 =>
    hX.block k (zc4 (S.obj M o h2) h3) (hout M o k h1 h2 h3) λ F hF=>by rw[(S.own M o k h2 h3).2] at hF;cases hF
  refine⟨S.dfr.mono hle,S.size,?_,?_,?_,?_,hw',λ b o h=>hle _ _ (S.le0 b o h),?_,S.below.trans ⟨hX.os,hX.tape,hX.output,hX.size,hX.drawn,λ k hk hn=>hX.block k (dqS hk S.bs) (λ hkK=>by have:=(hKB k hkK).1;omega) λ F hF=>?_⟩,dqE S.bs hX.size,?_,?_,S.gl⟩
  · intro t d ht
    rw[zf7] at ht
    obtain⟨d',hd',rfl⟩:=dqv.1 ht
    exact zwE hle hbk hs (S.env t d' hd')
  · intro M x hx
    rcases hlk M x hx with hx | ⟨hn,hne,o,ho,rfl⟩
    · exact hv M x hx
    · have hw2 : ∀ k, obk g M o k → w'.heap[k]? = w.heap[k]? := fun k hk => hold M o k hn ho hk
      have hr:=S.obj M o ho
      have hsM:=hs M hne
      cases o with
      | box ty cs =>
        obtain⟨C,hC,hr⟩:=hr
        exact⟨C,by rw[hbk M,hw2 _ rfl];exact hC,zlK hle hbk hs hr⟩
      | _=>exact zcV (o:=zdc kl _) hr hsM (λ L hL=>by simp[zb8,zdc] at hL) hle hw2
  · intro M x k hx hk
    rcases hlk M x hx with hx | ⟨hn,hne,o,ho,rfl⟩
    · obtain ⟨h1, h2⟩ := hob M x k hx hk
      exact⟨h1.elim (λ h=>(hKB k h).1) (λ h=>dqE S.bs h),h2⟩
    · rw [hobk M o hne] at hk
      obtain⟨h1,h2⟩:=S.own M o k ho hk
      refine⟨h1,?_⟩
      cases hh:g'.h k with
      | none=>rfl
      | some y =>
        rcases hnK k y hh with h3 | h3 | h3
        · rw[h2] at h3;cases h3
        · exact absurd (zc4 (S.obj M o ho) hk) (by omega)
        · exact (hout M o k hn ho hk h3).elim
  · intro M x k M' x' hx hx' hk hk'
    have cross:∀ M o L y,lk u M=none->lk σ.objs M=some o->obk g M o k->lk u L=some y->obk g' L y k->False:=by
      intro M o L y hn ho hk hy hk'
      rcases (hob L y k hy hk').1 with h | h
      · exact hout M o k hn ho hk h
      · exact absurd (zc4 (S.obj M o ho) hk) (by omega)
    rcases hlk M x hx with hx | ⟨hn,hne,o,ho,rfl⟩ <;> rcases hlk M' x' hx' with hx' | ⟨hn',hne',o2,ho2,rfl⟩
    · exact hsep M x k M' x' hx hx' hk hk'
    · rw [hobk M' o2 hne'] at hk'
      exact (cross M' o2 M x hn' ho2 hk' hx hk).elim
    · rw [hobk M o hne] at hk
      exact (cross M o M' x' hn ho hk hx' hk').elim
    · rw [hobk M o hne] at hk; rw [hobk M' o2 hne'] at hk'
      exact S.sep M o k M' o2 ho ho2 hk hk'
  · intro b o h
    rcases hnK b o h with h | h | h
    · exact S.hn b o h
    · exact .inr (dqE S.bs h)
    · exact .inr (hKB b h).1
  · rcases S.hn k _ hF with h | h
    · exact hn F h
    · omega
  · intro t d ht M hM
    rw[zf7] at ht
    obtain⟨d',hd',rfl⟩:=dqv.1 ht
    obtain⟨o,ho⟩:=S.clE t d' hd' M (zp2 M hM)
    exact hdom M o ho
  · intro M x hx N hN
    rcases hlk M x hx with hx | ⟨hn,hne,o,ho,rfl⟩
    · obtain⟨o',ho'⟩:=hlab M x hx N hN;exact hdom N o' ho'
    · obtain ⟨o2, ho2⟩ := S.clO M o ho N (zp3 N hN)
      exact hdom N o2 ho2

theorem Sim.frozen0 (S:Sim P nt B w0 h0 g σ a w):Frozen g (lk σ.objs) [] g.h :=
 ⟨λ _ _ h=>h,λ _ _ h=>h,λ _ _ _ _ _ _ _ h=>by simp at h,λ L s n get h=>(S.obj L _ h).1,λ _ _ _ _ _ _ _ _ _ _ h=>by simp at h,λ _ _ _ _ _ _ _ _ _ _ _ h=>by simp at h,
  λ _ _ _ _ _ _ _ h=>by simp at h,λ _ _ _ _ _ _ _ _ h=>by simp at h,λ L l h=>S.obj L _ h,λ b hb o ho=>by rw[hb] at ho;cases ho⟩

def kO (g : Gh) (L : Nat) : AO → List Nat
  | .box _ _=>[g.bk L]
  | .vec _ _ _ _ _=>(g.sv L).ownBlock.toList
  | .mo _ _ _ _ _=>[zdV (g.sv L)]
  | _=>[]
theorem zwR {L:Nat}{o:AO}{b:Nat}(h:b∈kO g L o):obk g L o b:=by
 cases o with
 | box ty cs=>simp only[kO,dqi] at h;exact h.symm
 | vec e s b' n get=>simpa [kO,obk] using h
 | mo kt vt q n F=>simp only[kO,dqi] at h;exact h.symm
 | _=>simp[kO] at h
theorem zCZ (L:Nat) (o:AO):(kO g L o).Nodup:=by
 cases o with
 | vec e s b' n get=>simp only[kO];cases (g.sv L).ownBlock <;> simp
 | _=>simp[kO]
def zJ0 : AO → Prop
  | .box _ _=>True
  | .vec _ _ _ _ _=>True
  | .mo _ _ _ _ _=>True
  | _=>False
theorem zwS {L:Nat}{o:AO}{b:Nat}(ho:zJ0 o) (h:obk g L o b):b∈kO g L o:=by
 cases o with
 | box ty cs=>simp only[kO,dqi];exact h.symm
 | vec e s b' n get=>simpa [kO,obk] using h
 | mo kt vt q n F=>simp only[kO,dqi];exact h.symm
 | _=>exact ho.elim
def kB (g:Gh) (ob:Nat->Option AO) (L:Nat):List Nat:=match ob L with | some o=>kO g L o | none=>[]

theorem znO {α : Type} {f : α → List Nat} : ∀ {l : List α}, l.Nodup → (∀ x ∈ l, (f x).Nodup) → (∀ x y b, x ∈ l → y ∈ l → b ∈ f x → b ∈ f y → x = y) → (l.flatMap f).Nodup
  | [],_,_,_=>by simp
  | x :: l,hn,h1,h2=>by
    rw[dqJ,List.nodup_append]
    obtain⟨hx,hl⟩:=List.nodup_cons.1 hn
    refine⟨h1 x dqj,znO hl (λ y hy=>h1 y (dqf _ hy)) (λ y z b hy hz=>h2 y z b (dqf _ hy) (dqf _ hz)),?_⟩
    intro b hb c hc e
    subst e
    obtain⟨y,hy,hby⟩:=dqo.1 hc
    exact hx (by rw[h2 x y b dqj (dqf _ hy) hb hby];exact hy)
theorem zp9 {α : Type} {f : α → List Nat} : ∀ {l : List α}, (l.flatMap f).Nodup → ∀ x y b, x ∈ l → y ∈ l → b ∈ f x → b ∈ f y → x = y
  | [],_,_,_,_,hx,_,_,_=>by simp at hx
  | z :: l,hn,x,y,b,hx,hy,h1,h2=>by
    rw[dqJ,List.nodup_append] at hn
    obtain⟨_,hl,hd⟩:=hn
    rcases dqq.1 hx with ex | hx' <;> rcases dqq.1 hy with ey | hy'
    · rw[ex,ey]
    · rw[ex] at h1;exact (hd b h1 b (dqo.2 ⟨y,hy',h2⟩) rfl).elim
    · rw[ey] at h2;exact (hd b h2 b (dqo.2 ⟨x,hx',h1⟩) rfl).elim
    · exact zp9 hl x y b hx' hy' h1 h2
theorem zle : ∀ {l : List Nat}, zpL l = true → l.Nodup
  | [],_=>List.nodup_nil
  | x :: l,h=>by
    simp only[zpL,dqm,Bool.not_eq_true'] at h
    exact List.nodup_cons.2 ⟨by simpa using h.1,zle h.2⟩

theorem zwT (S:Sim P nt B w0 h0 g σ a w):∀ {cells:List Cl}{cs:List XC}{ms:List Nat}{vs:List Value},zeD (lk σ.objs) cells=some (cs,ms)->RL (clR g) cells vs ->
  RL (xcR P g.h w B) cs vs/\zCv cs vs=ms.flatMap (kB g (lk σ.objs))/\∀ M∈ms,∃ o,lk σ.objs M=some o/\zJ0 o
 | [],cs,ms,[],h,_=>by
  simp only[zeD,dqa,dqh] at h;obtain⟨rfl,rfl⟩:=h
  exact⟨trivial,rfl,λ M hM=>by simp at hM⟩
 | [],_,_,_ :: _,_,hr=>hr.elim
 | _ :: _,_,_,[],_,hr=>hr.elim
 | c :: cells,cs,ms,v :: vs,h,hr=>by
  simp only[zeD] at h
  split at h
  ·rename_i l ms' h1
   obtain⟨i1,i2,i3⟩:=zwT S h1 hr.2
   split at h
   ·rename_i p
    simp only[dqa,dqh] at h;obtain⟨rfl,rfl⟩:=h
    exact⟨⟨hr.1,i1⟩,by simp only[zCv,xcK,List.nil_append];exact i2,i3⟩
   ·rename_i M
    split at h
    ·rename_i e s b n get hM
     simp only[dqa,dqh] at h;obtain⟨rfl,rfl⟩:=h
     obtain⟨hp,hi,hx⟩:=S.obj M _ hM
     have hv:v=g.sv M:=hr.1.1
     refine⟨⟨⟨hr.1.2,hp,hi,by rw[hv];exact hx⟩,i1⟩,?_,λ K hK=>?_⟩
     ·simp only [zCv, xcK, dqJ, i2, hv]
      rw[show kB g (lk σ.objs) M=(g.sv M).ownBlock.toList by simp only[kB,hM,kO]]
     ·rcases dqq.1 hK with e | hK
      ·rw[e];exact⟨_,hM,trivial⟩
      ·exact i3 K hK
    ·cases h
   ·rename_i M
    split at h
    ·rename_i kt vt q n F hM
     simp only[dqa,dqh] at h;obtain⟨rfl,rfl⟩:=h
     obtain⟨es,clock,hh,hx⟩:=S.obj M _ hM
     have hv:v=.map (some (zdV (g.sv M))):=hr.1
     refine⟨⟨⟨_,es,clock,hv,hh,hx⟩,i1⟩,?_,λ K hK=>?_⟩
     ·simp only [zCv, xcK, dqJ, i2, hv]
      rw[show kB g (lk σ.objs) M=[zdV (g.sv M)] by simp only[kB,hM,kO]];rfl
     ·rcases dqq.1 hK with e | hK
      ·rw[e];exact⟨_,hM,trivial⟩
      ·exact i3 K hK
    ·cases h
   ·cases h
  ·cases h

def isB (ob:Nat->Option AO) (L:Nat):Prop:=∃ o,ob L=some o/\zJ0 o
theorem zKA (S : Sim P nt B w0 h0 g σ a w) {d : DV} {x : XA} {ls ms : List Nat} {v : Value} (h : zq3 (lk σ.objs) d = some (x, ls, ms)) (hr : dvR g d v) :
  xaR P g.h w B x v/\xaK w x v=ls.flatMap (kB g (lk σ.objs))/\∀ L∈ls,isB (lk σ.objs) L:=by
 have data:znk (lk σ.objs) d=some (x,ls,ms)->xaR P g.h w B x v/\xaK w x v=ls.flatMap (kB g (lk σ.objs))/\∀ L∈ls,isB (lk σ.objs) L:=by
  intro h
  unfold znk at h
  split at h
  ·rename_i y hy
   simp only[dqa,dqh] at h;obtain⟨rfl,rfl,rfl⟩:=h
   exact⟨S.frozen0.repD hy (λ _ h=>h) hr,rfl,λ L hL=>by simp at hL⟩
  ·cases h
 unfold zq3 at h
 split at h
 ·rename_i L
  split at h
  ·rename_i ty cells hL
   split at h
   ·rename_i cs ms' hc
    simp only[dqa,dqh] at h;obtain⟨rfl,rfl,rfl⟩:=h
    obtain⟨C,hC,hcr⟩:=S.obj L _ hL
    obtain⟨i1,i2,i3⟩:=zwT S hc hcr
    have hv:v=.pointer (some ⟨g.bk L,0,none⟩):=hr
    subst hv
    refine⟨⟨_,C,rfl,hC,i1⟩,?_,λ K hK=>?_⟩
    ·simp only [xaK, hC, dqJ, i2]
     rw[show kB g (lk σ.objs) L=[g.bk L] by simp only[kB,hL,kO]];rfl
    ·rcases dqq.1 hK with e | hK
     ·rw[e];exact⟨_,hL,trivial⟩
     ·exact i3 K hK
   ·cases h
  ·exact data h
 ·exact data h
theorem zwU (S:Sim P nt B w0 h0 g σ a w):∀ {ds:List DV}{xs:List XA}{ls ms:List Nat}{vs:List Value},zgn (lk σ.objs) ds=some (xs,ls,ms)->RL (dvR g) ds vs ->
  RL (xaR P g.h w B) xs vs/\xsK w xs vs=ls.flatMap (kB g (lk σ.objs))/\∀ L∈ls,isB (lk σ.objs) L
 | [],xs,ls,ms,[],h,_=>by
  simp only[zgn,dqa,dqh] at h;obtain⟨rfl,rfl,rfl⟩:=h
  exact⟨trivial,rfl,λ L hL=>by simp at hL⟩
 | [],_,_,_,_ :: _,_,hr=>hr.elim
 | _ :: _,_,_,_,[],_,hr=>hr.elim
 | d :: ds,xs,ls,ms,v :: vs,h,hr=>by
  simp only[zgn] at h
  split at h
  ·rename_i x bl m1 xs' bls m2 h1 h2
   simp only[dqa,dqh] at h;obtain⟨rfl,rfl,rfl⟩:=h
   obtain⟨i1,i2,i3⟩:=zKA S h1 hr.1
   obtain⟨j1,j2,j3⟩:=zwU S h2 hr.2
   refine⟨⟨i1,j1⟩,by simp only[xsK,i2,j2,List.flatMap_append],λ L hL=>?_⟩
   rcases dqg.1 hL with h | h
   ·exact i3 L h
   ·exact j3 L h
  ·cases h
theorem zry (S:Sim P nt B w0 h0 g σ a w){ls:List Nat}(hn:ls.Nodup):(ls.flatMap (kB g (lk σ.objs))).Nodup:=by
 refine znO hn (λ L _=>?_) λ L L' b _ _ h1 h2=>?_
 ·unfold kB; split
  ·exact zCZ L _
  ·exact List.nodup_nil
 ·unfold kB at h1 h2
  split at h1
  ·rename_i o ho
   split at h2
   ·rename_i o' ho'
    exact S.sep L o b L' o' ho ho' (zwR h1) (zwR h2)
   ·simp at h2
  ·simp at h1

def cN : List Cl → List Value → List (Nat × Value)
  | .vec M :: cs,v :: vs=>(M,v) :: cN cs vs
  | .mo M :: cs,v :: vs=>(M,v) :: cN cs vs
  | _ :: cs,_ :: vs=>cN cs vs
  | _,_=>[]
def aN (w:World) (ob:Nat->Option AO) (d:DV) (v:Value):List (Nat×Value) :=
 match d,v with
 | .one (.c (.ptr L 0)),.pointer (some a)=>match ob L,w.heap[a.block]? with
  | some (.box _ cells),some (.cells C _ _)=>cN cells C.toList
  | _,_=>[]
 | _,_=>[]
def asN (w : World) (ob : Nat → Option AO) : List DV → List Value → List (Nat × Value)
  | d :: ds,v :: vs=>aN w ob d v ++ asN w ob ds vs
  | _,_=>[]

theorem zf8 {ob:Nat->Option AO}{L:Nat} : zq3 ob (.one (.c (.ptr L 0)))=match ob L with
  | some (.box ty cells)=>match zeD ob cells with
   | some (cs,ms)=>some (.box ty cs,L :: ms,ms)
   | none=>none
  | _=>znk ob (.one (.c (.ptr L 0))):=rfl
section put
variable {h':Fz}{w':World}{g':Gh}(hh:g'.h=h') (hbk:∀ M,g'.bk M=g.bk M)
include hh
theorem zoR:∀ {cells l:List Cl}{ys cs:List XC}{u:List (Nat×AO)}{ls:List Nat}{vs:List Value},zhr cells ys=some (l,u)->zeD (lk σ.objs) cells=some (cs,ls)->RL (xcR P h' w' B) ys vs->(∀ x∈cN cells vs,g'.sv x.1=x.2) ->
  RL (clR g') l vs/\(∀ x∈u,zJ0 x.2/\zb8 x.2=[]/\aoR P g' w' B x.1 x.2)/\zCv ys vs=u.flatMap (λ x=>kO g' x.1 x.2)/\u.map (·.1)=ls/\(cN cells vs).map (·.1)=ls/\∀ M∈l.flatMap zaE,M∈cells.flatMap zaE
 | [],l,[],cs,u,ls,vs,h,h2,hr,_=>by
  simp only[zhr,dqa,dqh] at h;obtain⟨rfl,rfl⟩:=h
  simp only[zeD,dqa,dqh] at h2;obtain⟨rfl,rfl⟩:=h2
  cases vs with
  | nil=>exact⟨trivial,λ x hx=>by simp at hx,rfl,rfl,rfl,λ M hM=>hM⟩
  | cons=>exact hr.elim
 | c :: cells,l,y :: ys,cs,u,ls,[],h,h2,hr,_=>hr.elim
 | c :: cells,l,y :: ys,cs,u,ls,v :: vs,h,h2,hr,hsv=>by
  unfold zhr at h
  split at h
  ·rename_i e;simp at e
  ·rename_i p cells' q ys' e1 e2
   simp only[dqy] at e1 e2
   obtain⟨rfl,rfl⟩:=e1;obtain⟨rfl,rfl⟩:=e2
   split at h
   ·rename_i l1 u1 hp
    simp only[dqa,dqh] at h;obtain⟨rfl,rfl⟩:=h
    simp only[zeD] at h2
    split at h2
    ·rename_i c1 m1 hc
     simp only[dqa,dqh] at h2;obtain⟨rfl,rfl⟩:=h2
     obtain⟨i1,i2,i3,i4,i5,i6⟩:=zoR hp hc hr.2 (λ x hx=>hsv x hx)
     refine⟨⟨by have:=hr.1;show Rep g'.h q v;rw[hh];exact this,i1⟩,i2,by simp only[zCv,xcK,List.nil_append];exact i3,i4,i5,λ M hM=>?_⟩
     simp only[dqJ,zaE,List.nil_append] at hM ⊢;exact i6 M hM
    ·cases h2
   ·cases h
  ·rename_i M cells' e s b n get ys' e1 e2
   simp only[dqy] at e1 e2
   obtain⟨rfl,rfl⟩:=e1;obtain⟨rfl,rfl⟩:=e2
   split at h
   ·rename_i l1 u1 hp
    simp only[dqa,dqh] at h;obtain⟨rfl,rfl⟩:=h
    simp only[zeD] at h2
    split at h2
    ·rename_i c1 m1 hc
     split at h2
     ·simp only [dqa, dqh] at h2; obtain ⟨rfl, rfl⟩ := h2
      obtain⟨i1,i2,i3,i4,i5,i6⟩:=zoR hp hc hr.2 (λ x hx=>hsv x (dqf _ hx))
      have hv:g'.sv M=v:=hsv (M,v) dqj
      obtain⟨h1,hp1,hi1,hx1⟩:=hr.1
      refine⟨⟨⟨hv.symm,h1⟩,i1⟩,λ x hx=>?_,?_,by simp[i4],by simp[cN,i5],λ K hK=>?_⟩
      ·rcases dqq.1 hx with e | hx
       ·subst e
        refine⟨trivial,rfl,hp1,hi1,?_⟩
        show zv8 g'.h w' B e s (g'.sv M) n get
        rw[hv,hh];exact hx1
       ·exact i2 x hx
      ·simp only[zCv,xcK,dqJ,kO,hv,i3]
      ·simp only [dqJ, dqg] at hK ⊢
       exact hK.imp_right (i6 K)
     ·cases h2
    ·cases h2
   ·cases h
  ·rename_i M cells' kt vt q n F ys' e1 e2
   simp only[dqy] at e1 e2
   obtain⟨rfl,rfl⟩:=e1;obtain⟨rfl,rfl⟩:=e2
   split at h
   ·rename_i l1 u1 hp
    simp only[dqa,dqh] at h;obtain⟨rfl,rfl⟩:=h
    simp only[zeD] at h2
    split at h2
    ·rename_i c1 m1 hc
     split at h2
     ·simp only [dqa, dqh] at h2; obtain ⟨rfl, rfl⟩ := h2
      obtain⟨i1,i2,i3,i4,i5,i6⟩:=zoR hp hc hr.2 (λ x hx=>hsv x (dqf _ hx))
      have hv:g'.sv M=v:=hsv (M,v) dqj
      obtain⟨b,es,clock,h1,hh1,hx1⟩:=hr.1
      subst h1
      have hb:zdV (g'.sv M)=b:=by rw[hv];rfl
      refine⟨⟨by show Value.map (some b)=.map (some (zdV (g'.sv M)));rw[hb],i1⟩,λ x hx=>?_,?_,by simp[i4],by simp[cN,i5],λ K hK=>?_⟩
      ·rcases dqq.1 hx with e | hx
       ·subst e
        exact⟨trivial,rfl,es,clock,by rw[hb];exact hh1,hx1⟩
       ·exact i2 x hx
      ·simp only[zCv,xcK,dqJ,kO,hb,i3];rfl
      ·simp only [dqJ, dqg] at hK ⊢
       exact hK.imp_right (i6 K)
     ·cases h2
    ·cases h2
   ·cases h
  ·cases h
 | [],_,_ :: _,_,_,_,_,h,_,_,_=>by simp[zhr] at h
 | _ :: _,_,[],_,_,_,_,h,_,_,_=>by simp[zhr] at h
include hbk
theorem zKB (S : Sim P nt B w0 h0 g σ a w) {d : DV} {x y : XA} {u : List (Nat × AO)} {ls ms : List Nat} {v : Value} (h : zvY (lk σ.objs) d y = some u) (h2 : zq3 (lk σ.objs) d = some (x, ls, ms)) (hd : dvR g d v) (hr : xaR P h' w' B y v)
    (hsv:∀ x∈aN w' (lk σ.objs) d v,g'.sv x.1=x.2) :
    (∀ x∈u,zJ0 x.2/\(∀ M∈zb8 x.2,∃ o',lk σ.objs M=some o')/\aoR P g' w' B x.1 x.2)/\xaK w' y v=u.flatMap (λ x=>kO g' x.1 x.2)/\u.map (·.1)=ls/\(aN w' (lk σ.objs) d v).map (·.1)=ms:=by
  have data:znk (lk σ.objs) d=some (x,ls,ms)->ls=[]/\ms=[]:=by
    intro h
    unfold znk at h
    split at h
    · simp only[dqa,dqh] at h;exact⟨h.2.1.symm,h.2.2.symm⟩
    · cases h
  unfold zvY at h
  split at h
  · rename_i L
    split at h
    · rename_i ty' cells hL
      rw[zf8,hL] at h2
      dsimp only at h2
      split at h2
      · rename_i cs ms' hc
        simp only[dqa,dqh] at h2;obtain⟨rfl,rfl,rfl⟩:=h2
        split at h
        · rename_i ty cs'
          split at h
          · rename_i l u' hty hp
            simp only[dqa] at h;subst h
            have hty:=dqc hty
            subst hty
            obtain⟨k,C,rfl,hC,hrl⟩:=hr
            have hk:k=g.bk L:=by
              have hd:Value.pointer (some ⟨k,0,none⟩)=.pointer (some ⟨g.bk L,0,none⟩):=hd
              simpa using hd
            subst hk
            simp only[aN,hL,hC] at hsv ⊢
            obtain⟨i1,i2,i3,i4,i5,i6⟩:=zoR (P:=P) (B:=B) hh hp hc hrl hsv
            refine⟨λ x hx=>?_,?_,by simp[i4],i5⟩
            · rcases dqq.1 hx with e | hx
              · subst e
                refine⟨trivial,λ M hM=>S.clO L _ hL M (i6 M hM),C,?_,i1⟩
                show w'.heap[g'.bk L]? = _
                rw[hbk];exact hC
              · obtain ⟨j1, j2, j3⟩ := i2 x hx
                exact⟨j1,λ M hM=>by rw[j2] at hM;simp at hM,j3⟩
            · simp only[xaK,hC,dqJ,kO,hbk,i3];rfl
          · cases h
        · cases h
      · cases h2
    · rename_i hno
      have hx:znk (lk σ.objs) (.one (.c (.ptr L 0)))=some (x,ls,ms):=by
        rw[zf8] at h2
        cases hL:lk σ.objs L with
        | none=>rw[hL] at h2;exact h2
        | some o =>
          rw[hL] at h2
          cases o with
          | box ty cells=>exact absurd hL (hno _ _)
          | _=>exact h2
      obtain⟨rfl,rfl⟩:=data hx
      split at h
      · simp only [dqa] at h; subst h
        refine⟨λ x hx=>by simp at hx,rfl,rfl,?_⟩
        have e:aN w' (lk σ.objs) (.one (.c (.ptr L 0))) v=[]:=by
          cases v with
          | pointer p=>cases p with
            | none=>rfl
            | some ad =>
              simp only[aN]
              cases hL:lk σ.objs L with
              | none=>rfl
              | some o =>
                cases o with
                | box ty cells=>exact (hno _ _ hL).elim
                | _=>rfl
          | _=>rfl
        rw[e];rfl
      · cases h
  · rename_i hno
    have hx:znk (lk σ.objs) d=some (x,ls,ms):=by
      unfold zq3 at h2
      split at h2
      · exact (hno _ rfl).elim
      · exact h2
    obtain⟨rfl,rfl⟩:=data hx
    split at h
    · simp only [dqa] at h; subst h
      refine⟨λ x hx=>by simp at hx,rfl,rfl,?_⟩
      have e:aN w' (lk σ.objs) d v=[]:=by
        unfold aN
        split
        · exact (hno _ rfl).elim
        · rfl
      rw[e];rfl
    · cases h
theorem zwV (S:Sim P nt B w0 h0 g σ a w):∀ {ds:List DV}{xs ys:List XA}{u:List (Nat×AO)}{ls ms:List Nat}{vs:List Value},zhs (lk σ.objs) ds ys=some u->zgn (lk σ.objs) ds=some (xs,ls,ms)->RL (dvR g) ds vs->RL (xaR P h' w' B) ys vs ->
  (∀ x∈asN w' (lk σ.objs) ds vs,g'.sv x.1=x.2) ->
  (∀ x∈u,zJ0 x.2/\(∀ M∈zb8 x.2,∃ o',lk σ.objs M=some o')/\aoR P g' w' B x.1 x.2)/\xsK w' ys vs=u.flatMap (λ x=>kO g' x.1 x.2)/\u.map (·.1)=ls/\(asN w' (lk σ.objs) ds vs).map (·.1)=ms
 | [],xs,[],u,ls,ms,vs,h,h2,hd,hr,_=>by
  simp only[zhs,dqa] at h;subst h
  simp only[zgn,dqa,dqh] at h2;obtain⟨rfl,rfl,rfl⟩:=h2
  cases vs with
  | nil=>exact⟨λ x hx=>by simp at hx,rfl,rfl,rfl⟩
  | cons=>exact hr.elim
 | d :: ds,xs,y :: ys,u,ls,ms,[],h,h2,hd,hr,_=>hr.elim
 | d :: ds,xs,y :: ys,u,ls,ms,v :: vs,h,h2,hd,hr,hsv=>by
  simp only[zhs] at h
  split at h
  ·rename_i u1 u2 e1 e2
   simp only[dqa] at h;subst h
   simp only[zgn] at h2
   split at h2
   ·rename_i x bl m1 xs' bls m2 h3 h4
    simp only[dqa,dqh] at h2;obtain⟨rfl,rfl,rfl⟩:=h2
    obtain⟨i1,i2,i3,i4⟩:=zwV S e2 h4 hd.2 hr.2 (λ x hx=>hsv x (dqg.2 (.inr hx)))
    obtain⟨j1,j2,j3,j4⟩:=zKB hh hbk S e1 h3 hd.1 hr.1 (λ x hx=>hsv x (dqg.2 (.inl hx)))
    exact⟨λ x hx=>(dqg.1 hx).elim (j1 x) (i1 x),by simp only[xsK,i2,j2,List.flatMap_append],by simp[i3,j3],by simp[asN,i4,j4]⟩
   ·cases h2
  ·cases h
 | [],_,_ :: _,_,_,_,_,h,_,_,_,_=>by simp[zhs] at h
 | _ :: _,_,[],_,_,_,_,h,_,_,_,_=>by simp[zhs] at h
end put

theorem zqa {α : Type} : ∀ {l : List (Nat × α)} {k : Nat} {x : α}, (l.map (·.1)).Nodup → (k, x) ∈ l → lk l k = some x
  | [],_,_,_,h=>by simp at h
  | (j,y) :: l,k,x,hn,h=>by
    rw[dqK,List.nodup_cons] at hn
    rw[zay]
    rcases dqq.1 h with e | h'
    · simp only[dqh] at e;rw[if_pos e.1.symm,e.2]
    · rw [if_neg (fun e => hn.1 (by rw [e]; exact dqz.2 ⟨_, h', rfl⟩))]
      exact zqa hn.2 h'
theorem zwW {α:Type}{l:List (Nat×α)}{k:Nat}(h:k∈l.map (·.1)):∃ x,lk l k=some x:=by
 cases hk:lk l k with
 | some x=>exact⟨x,rfl⟩
 | none =>
  obtain⟨⟨j,x⟩,hx,rfl⟩:=dqz.1 h
  exact (zrk hk x hx).elim
theorem zC0 {ob:Nat->Option AO}{d:DV}{x:XA}{ls ms:List Nat}(h:zq3 ob d=some (x,ls,ms)):∀ M∈ms,M∈ls:=by
 have data:znk ob d=some (x,ls,ms)->∀ M∈ms,M∈ls:=by
  intro h
  unfold znk at h
  split at h
  ·simp only[dqa,dqh] at h;rw[<- h.2.2];exact λ M hM=>by simp at hM
  ·cases h
 unfold zq3 at h
 split at h
 ·split at h
  ·split at h
   ·simp only[dqa,dqh] at h;rw[<- h.2.1,<- h.2.2];exact λ M hM=>dqf _ hM
   ·cases h
  ·exact data h
 ·exact data h
theorem zmi {ob : Nat → Option AO} : ∀ {ds : List DV} {xs : List XA} {ls ms : List Nat}, zgn ob ds = some (xs, ls, ms) → ∀ M ∈ ms, M ∈ ls
  | [],xs,ls,ms,h=>by
    simp only[zgn,dqa,dqh] at h;rw[<- h.2.2];exact λ M hM=>by simp at hM
  | d :: ds,xs,ls,ms,h=>by
    simp only[zgn] at h
    split at h
    · rename_i x bl m1 xs' bls m2 h1 h2
      simp only[dqa,dqh] at h;obtain⟨rfl,rfl,rfl⟩:=h
      intro M hM
      exact dqg.2 ((dqg.1 hM).imp (zC0 h1 M) (zmi h2 M))
    · cases h
theorem zkz (x:Cl):zco [] x=x:=by cases x <;> rfl
theorem zmj (x:D1):zc3 [] x=x:=by
 cases x with
 | c y=>simp only[zc3,zkz]
 | agg cs=>simp only[zc3,show zco []=id from funext zkz,List.map_id]
theorem zvn (x:DV):zdU [] x=x:=by
 cases x with
 | one y=>simp only[zdU,zmj]
 | tup ds=>simp only[zdU,show zc3 []=id from funext zmj,List.map_id]
theorem zvo (x:AO):zdc [] x=x:=by
 cases x with
 | box ty cs=>simp only[zdc,show zco []=id from funext zkz,List.map_id]
 | _=>rfl
theorem zoS {α : Type} {f : α → α} (hf : ∀ x, f x = x) : ∀ l : List (Nat × α), kills f l = l
  | []=>rfl
  | (k,x) :: l=>by simp only[kills,hf x,zoS hf l]
theorem zKC {dst : Option Nat} {fp : List (Nat × Bool)} {d : DV} {u : List (Nat × AO)} {ms : List Nat} :
  σ.upd i dst fp d u ms=⟨zFM dst d (kills (zdU ms) σ.env),u ++ kills (zdc ms) σ.objs,σ.log⟩:=by
 cases ms with
 | nil=>rw[zbi,zoS zvn,zoS zvo]
 | cons L r=>cases dst <;> rfl

theorem zwX {ob : Nat → Option AO} {h' : Fz} {w' : World} : ∀ {cells : List Cl} {l : List Cl} {ys cs : List XC} {u : List (Nat × AO)} {ms : List Nat} {vs : List Value}, zhr cells ys = some (l, u) → zeD ob cells = some (cs, ms) → RL (xcR P h' w' B) ys vs → (cN cells vs).map (·.1) = ms
  | [],l,ys,cs,u,ms,vs,h,h2,hr=>by
    simp only[zeD,dqa,dqh] at h2;rw[<- h2.2]
    cases vs <;> rfl
  | c :: cells,l,[],cs,u,ms,vs,h,h2,hr=>by simp[zhr] at h
  | c :: cells,l,y :: ys,cs,u,ms,[],h,h2,hr=>hr.elim
  | c :: cells,l,y :: ys,cs,u,ms,v :: vs,h,h2,hr=>by
    have hx:∃ l1 u1,zhr cells ys=some (l1,u1):=by
      unfold zhr at h
      split at h
      · rename_i e;simp at e
      · rename_i e1 e2
        simp only[dqy] at e1 e2
        obtain⟨rfl,rfl⟩:=e1;obtain⟨rfl,rfl⟩:=e2
        split at h
        · rename_i hp;exact⟨_,_,hp⟩
        · cases h
      · rename_i e1 e2
        simp only[dqy] at e1 e2
        obtain⟨rfl,rfl⟩:=e1;obtain⟨rfl,rfl⟩:=e2
        split at h
        · rename_i hp;exact⟨_,_,hp⟩
        · cases h
      · rename_i e1 e2
        simp only[dqy] at e1 e2
        obtain⟨rfl,rfl⟩:=e1;obtain⟨rfl,rfl⟩:=e2
        split at h
        · rename_i hp;exact⟨_,_,hp⟩
        · cases h
      · cases h
    obtain⟨l1,u1,hp⟩:=hx
    simp only[zeD] at h2
    split at h2
    · rename_i c1 m1 hc
      have ih:=zwX hp hc hr.2
      split at h2
      · simp only[dqa,dqh] at h2;rw[<- h2.2];exact ih
      · split at h2
        · simp only[dqa,dqh] at h2;rw[<- h2.2];simp only[cN,dqK,ih]
        · cases h2
      · split at h2
        · simp only[dqa,dqh] at h2;rw[<- h2.2];simp only[cN,dqK,ih]
        · cases h2
      · cases h2
    · cases h2
theorem zFW {ob:Nat->Option AO}{h':Fz}{w':World}{d:DV}{x y:XA}{u:List (Nat×AO)}{ls ms:List Nat}{v:Value}(h:zvY ob d y=some u) (h2:zq3 ob d=some (x,ls,ms)) (hr:xaR P h' w' B y v):(aN w' ob d v).map (·.1)=ms:=by
 have data:znk ob d=some (x,ls,ms)->ms=[]:=by
  intro h
  unfold znk at h
  split at h
  ·simp only[dqa,dqh] at h;exact h.2.2.symm
  ·cases h
 unfold zvY at h
 split at h
 ·rename_i L
  split at h
  ·rename_i ty' cells hL
   rw[zf8,hL] at h2
   dsimp only at h2
   split at h2
   ·rename_i cs ms' hc
    simp only[dqa,dqh] at h2;obtain⟨rfl,rfl,rfl⟩:=h2
    split at h
    ·split at h
     ·rename_i l u' hty hp
      obtain⟨k,C,rfl,hC,hrl⟩:=hr
      simp only[aN,hL,hC]
      exact zwX hp hc hrl
     ·cases h
    ·cases h
   ·cases h2
  ·rename_i hno
   have hx:znk ob (.one (.c (.ptr L 0)))=some (x,ls,ms):=by
    rw[zf8] at h2
    cases hL:ob L with
    | none=>rw[hL] at h2;exact h2
    | some o =>
     rw[hL] at h2
     cases o with
     | box ty cells=>exact absurd hL (hno _ _)
     | _=>exact h2
   rw[data hx]
   have e:aN w' ob (.one (.c (.ptr L 0))) v=[]:=by
    cases v with
    | pointer p=>cases p with
     | none=>rfl
     | some ad =>
      simp only[aN]
      cases hL:ob L with
      | none=>rfl
      | some o =>
       cases o with
       | box ty cells=>exact absurd hL (hno _ _)
       | _=>rfl
    | _=>rfl
   rw[e];rfl
 ·rename_i hno
  have hx:znk ob d=some (x,ls,ms):=by
   unfold zq3 at h2
   split at h2
   ·exact (hno _ rfl).elim
   ·exact h2
  rw[data hx]
  have e:aN w' ob d v=[]:=by
   unfold aN
   split
   ·exact (hno _ rfl).elim
   ·rfl
  rw[e];rfl
theorem ztX {ob : Nat → Option AO} {h' : Fz} {w' : World} : ∀ {ds : List DV} {xs ys : List XA} {u : List (Nat × AO)} {ls ms : List Nat} {vs : List Value}, zhs ob ds ys = some u → zgn ob ds = some (xs, ls, ms) → RL (xaR P h' w' B) ys vs → (asN w' ob ds vs).map (·.1) = ms
  | [],xs,ys,u,ls,ms,vs,h,h2,hr=>by
    simp only[zgn,dqa,dqh] at h2;rw[<- h2.2.2]
    cases vs <;> rfl
  | d :: ds,xs,[],u,ls,ms,vs,h,h2,hr=>by simp[zhs] at h
  | d :: ds,xs,y :: ys,u,ls,ms,[],h,h2,hr=>hr.elim
  | d :: ds,xs,y :: ys,u,ls,ms,v :: vs,h,h2,hr=>by
    simp only[zhs] at h
    split at h
    · rename_i u1 u2 e1 e2
      simp only[zgn] at h2
      split at h2
      · rename_i x bl m1 xs' bls m2 h3 h4
        simp only[dqa,dqh] at h2;rw[<- h2.2.2]
        simp only[asN,List.map_append,zFW e1 h3 hr.1, ztX e2 h4 hr.2]
      · cases h2
    · cases h

theorem zwY {o : Oper} {A : OpAct} {gf : FuncId} {C : MK} {ds : List DV} {vals : List Value} (hall : OkAll P Γ) (S : Sim P nt B w0 h0 g σ a w) (hd : zck nt o.dst = true) (hnd : ∀ c, o.op ≠ .defer c)
    (hC:Γ.mt gf=some C) (hrun:zal P gf->(execOp a.eval o).run P w=.ok (.enter gf vals.toArray) w) (hds:RL (dvR g) ds vals)
    (hA:zla C ds (lk σ.objs)=A) (hs:A.safe):zfi P nt B w0 h0 r n i o A σ a w Q:=by
  unfold zla at hA
  split at hA
  · rename_i xs ls ms has
    split at hA
    · rename_i s rs ys hCx
      split at hA
      · rename_i u hput hcond
        subst hA
        simp only[dqm,Nat.ble_eq] at hcond
        have hs':s:=hs
        obtain⟨x1,x2,x3⟩:=zwU S has hds
        have hkb:∀ b∈xsK w xs vals,∃ L∈ls,∃ o',lk σ.objs L=some o'/\obk g L o' b:=λ b hb=>by
          rw[x2] at hb
          obtain⟨L,hL,hb⟩:=dqo.1 hb
          unfold kB at hb
          split at hb
          · rename_i o' ho';exact⟨L,hL,o',ho',zwR hb⟩
          · simp at hb
        obtain⟨hcall,hcalls⟩:=hall.mt gf C hC xs ys s rs hCx hs' w g.h B vals x1 (by rw[x2];exact zry S (zle hcond.1)) (λ b hb=>by
          obtain⟨L,_,o',h1,h2⟩:=hkb b hb;exact S.own L o' b h1 h2) S.hw (S.gl.mono S.le0) S.bs
        refine zen hnd (w':=w) (f:=gf) (args:=vals.toArray) (hrun hcall) (hcalls.mono ?_)
        rintro e w' ⟨h',v,rfl,hres,hys,hnd',hown,hle,hw',hn',hX⟩
        refine⟨v,rfl,?_⟩
        let nv:=asN w' (lk σ.objs) ds vals
        let g':Gh:=⟨h',g.bk,λ M=>match lk nv M with | some x=>x | none=>g.sv M,g.iv⟩
        have hmsn:ms.Nodup:=by
          match ms,hcond.2 with
          | [],_=>exact List.nodup_nil
          | [x],_=>simp
          | _ :: _ :: _,h=>simp at h
        have hkeys:nv.map (·.1)=ms:=ztX hput has hys
        obtain⟨p1,p2,p3,p4⟩:=zwV (P:=P) (B:=B) (g:=g) (h':=h') (w':=w') (g':=g') rfl (λ _=>rfl) S hput has hds hys (λ x hx=>by
          have:=zqa (l:=nv) (by rw[hkeys];exact hmsn) (show (x.1,x.2)∈nv from hx)
          show (match lk nv x.1 with | some x=>x | none=>g.sv x.1)=x.2
          rw[this])
        have hul:∀ L∈ls,∃ o',lk u L=some o':=λ L hL=>zwW (by rw[p3];exact hL)
        have S1:=S.swap (u:=u) (kl:=ms) (K:=xsK w xs vals) (g':=g') hle hw' (λ _=>rfl) (λ M hM=>⟨rfl,by
            show (match lk nv M with | some x=>x | none=>g.sv M)=g.sv M
            cases hk:lk nv M with
            | none=>rfl
            | some x=>exact (hM (by rw[<- hkeys];exact dqz.2 ⟨_,zcP hk,rfl⟩)).elim,rfl⟩)
          (λ L hL=>by obtain⟨x,hx⟩:=hul L (zmi has L hL);rw[hx];simp) hX
          (λ b hb=>by obtain⟨L,hL,o',h1,h2⟩:=hkb b hb;obtain⟨x,hx⟩:=hul L hL;exact⟨L,x,o',hx,h1,h2⟩)
          (λ L x hx=>(p1 _ (zcP hx)).2.2)
          (λ L x b hx hb=>hown b (by rw[p2];exact dqo.2 ⟨_,zcP hx,zwS (p1 _ (zcP hx)).1 hb⟩))
          (λ L x b L' x' hx hx' hb hb'=>by
            rw[p2] at hnd'
            have:=zp9 hnd' (L,x) (L',x') b (zcP hx) (zcP hx') (zwS (p1 _ (zcP hx)).1 hb) (zwS (p1 _ (zcP hx')).1 hb')
            exact congrArg Prod.fst this)
          (λ L x hx=>(p1 _ (zcP hx)).2.1) (λ b o h=>hn' b o h) σ.log
        refine⟨g',_,rfl,?_⟩
        rw[zKC]
        exact S1.put (v:=v) (d:=resD rs) hd (ztW (g:=g') hres) (λ L hL=>by rw[zlN] at hL;simp at hL) σ.log
      · exact dq9 hA hs
    · exact dq9 hA hs
  · exact dq9 hA hs
end
end Go.Pm
