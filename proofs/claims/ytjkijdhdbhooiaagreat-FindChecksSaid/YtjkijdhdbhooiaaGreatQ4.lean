/- Part 4 of what the proof rests on: a machine that runs functions of the program on pure values, proved sound; the functions that the law reaches, what they compute, and plain laws of that. -/
import Derived.Test.YtjkijdhdbhooiaaGreatQ3
import Derived.Test.YtjkijdhdbhooiaaGreatProg
import Derived.ProofKit
import Derived.Deep.Slices
import Derived.OpenShut
set_option linter.all false
namespace Go.Pm
variable [DrawZ]
open Go.RowKit (Below)

def xlab (i j : Nat) : Nat := i + 4096 * (j + 1)
def xEnv : Nat → List XA → List (Nat × DV)
  | _, [] => []
  | i, .d a :: r => (i, .one (paD a)) :: xEnv (i + 1) r
  | i, .box _ _ :: r => (i, .cl (.ptr i 0)) :: xEnv (i + 1) r
def slfCaps : Nat → Nat → List CapE
  | _, 0 => []
  | np, n + 1 => .b np :: slfCaps (np + 1) n
def xCells (i : Nat) : Nat → List XC → List Cl
  | _, [] => []
  | j, .p v :: r => .p v :: xCells i (j + 1) r
  | j, .vec _ _ _ _ _ :: r => .vec (xlab i j) :: xCells i (j + 1) r
  | j, .mo _ _ _ _ _ :: r => .mo (xlab i j) :: xCells i (j + 1) r
  | j, .slf f np n :: r => .clo f (slfCaps np n) :: xCells i (j + 1) r
def xVecs (i : Nat) : Nat → List XC → List (Nat × AO)
  | _, [] => []
  | j, .p _ :: r => xVecs i (j + 1) r
  | j, .vec e s b n get :: r => (xlab i j, .vec e s b n get) :: xVecs i (j + 1) r
  | j, .mo kt vt q n F :: r => (xlab i j, .mo kt vt q n F) :: xVecs i (j + 1) r
  | j, .slf _ _ _ :: r => xVecs i (j + 1) r
def xObjs : Nat → List XA → List (Nat × AO)
  | _, [] => []
  | i, .d _ :: r => xObjs (i + 1) r
  | i, .box ty cs :: r => (i, .box ty (xCells i 0 cs)) :: (xVecs i 0 cs ++ xObjs (i + 1) r)
def xBox : Nat → List XA → List Nat
  | _, [] => []
  | i, .d _ :: r => xBox (i + 1) r
  | i, .box _ _ :: r => i :: xBox (i + 1) r

def slfCs : List XC → Option (FuncId × Nat × Nat)
  | [] => none
  | .slf f np n :: _ => some (f, np, n)
  | _ :: r => slfCs r
def slfXs : List XA → Option (FuncId × Nat × Nat)
  | [] => none
  | .d _ :: r => slfXs r
  | .box _ cs :: r => match slfCs cs with
    | some x => some x
    | none => slfXs r
def slfEnv (env : List (Nat × DV)) : Nat → Nat → Option (List Nat)
  | _, 0 => some []
  | np, n + 1 => match lk env np, slfEnv env (np + 1) n with
    | some (.one (.c (.ptr L 0))), some l => some (L :: l)
    | _, _ => none
def slfEnd (env : List (Nat × DV)) (xs : List XA) : SlfS := match slfXs xs with
  | some (f, np, n) => match slfEnv env np n with
    | some l => some (f, np, l)
    | none => none
  | none => none
def slfBox (bx : List Nat) : Nat → Nat → Bool
  | _, 0 => true
  | np, n + 1 => bx.contains np && slfBox bx (np + 1) n
def slfCB (bx : List Nat) : List XC → Bool
  | [] => true
  | .slf _ np n :: r => slfBox bx np n && slfCB bx r
  | _ :: r => slfCB bx r
def slfXB (bx : List Nat) : List XA → Bool
  | [] => true
  | .d _ :: r => slfXB bx r
  | .box _ cs :: r => slfCB bx cs && slfXB bx r
section
variable (P : Program)
def resPU (σ : St) : List ResultVar → Option (List PA × List (Nat × AO))
  | [] => some ([], [])
  | .tmp t :: r => match lk σ.env t with
    | some d => match frzD (lk σ.objs) d, resPU σ r with
      | some (x, u), some (l, us) => some (x :: l, u ++ us)
      | _, _ => none
    | none => none
  | .cell t ty :: r => match lk σ.env t, aggT P ty, szT P ty with
    | some (.one (.c (.ptr L off))), some g, some n => match lk σ.objs L with
      | some (.box _ cells) => match rdCl g n cells off with
        | some d => match frzD (lk σ.objs) (.one d), resPU σ r with
          | some (x, u), some (l, us) => some (x :: l, u ++ us)
          | _, _ => none
        | none => none
      | _ => none
    | _, _, _ => none
def xOut (sf : SlfS) (ob : Nat → Option AO) (env : List (Nat × DV)) : Nat → List XA → Option (List XA × List Nat)
  | _, [] => some ([], [])
  | i, .d a :: r => match xOut sf ob env (i + 1) r with
    | some (ys, ls) => some (.d a :: ys, ls)
    | none => none
  | i, .box _ _ :: r => match lk env i, xOut sf ob env (i + 1) r with
    | some (.one (.c (.ptr L 0))), some (ys, ls) => match xaOf sf ob (.one (.c (.ptr L 0))) with
      | some (y, l, _) => some (y :: ys, l ++ ls)
      | none => none
    | _, _ => none
def finM (fn : Func) (xs : List XA) (K : List PA → List XA → Prop) (σ : St) : Prop :=
  match resPU P σ fn.results.toList with
  | some (l, u) => match xOut (slfEnd σ.env xs) (lk (u ++ σ.objs)) σ.env 0 xs with
    | some (ys, ls) => match nodupN ls with
      | true => K l ys
      | false => False
    | none => False
  | none => False
def bodyM (fn : Func) (xs : List XA) (K : List PA → List XA → Prop) : Exit → St → Prop
  | .ret, σ => finM P fn xs K σ
  | .normal, σ => finM P fn xs K σ
  | _, _ => False
def vcMut (Γ : Ctrs) (ann : Ann) (f : FuncId) (xs : List XA) (K : List PA → List XA → Prop) : Prop :=
  match P.funcs[f]? with
  | some fn => match fn.body with
    | some c => match Nat.beq ann.nt fn.ntmps && Nat.ble xs.length ann.nt && nodupN ((xObjs 0 xs).map (·.1)) && slfXB (xBox 0 xs) xs && disj (xBox 0 xs) (dstC c) with
      | true => vc P Γ ann c (bodyM P fn xs K) ⟨xEnv 0 xs, xObjs 0 xs, []⟩
      | false => False
    | none => False
  | none => False
end

section
variable {P : Program} {Γ : Ctrs}

def cellsAt (w : World) (v : Value) : List Value := match v with
  | .pointer (some a) => match w.heap[a.block]? with
    | some (.cells C _ _) => C.toList
    | _ => []
  | _ => []
def xVV (i : Nat) : Nat → List XC → List Value → List (Nat × Value)
  | j, .p _ :: r, _ :: vs => xVV i (j + 1) r vs
  | j, .vec _ _ _ _ _ :: r, v :: vs => (xlab i j, v) :: xVV i (j + 1) r vs
  | j, .mo _ _ _ _ _ :: r, v :: vs => (xlab i j, v) :: xVV i (j + 1) r vs
  | j, .slf _ _ _ :: r, _ :: vs => xVV i (j + 1) r vs
  | _, _, _ => []
def xVals (w : World) : Nat → List XA → List Value → List (Nat × Value)
  | i, .d _ :: r, _ :: vs => xVals w (i + 1) r vs
  | i, .box _ cs :: r, v :: vs => (i, v) :: (xVV i 0 cs (cellsAt w v) ++ xVals w (i + 1) r vs)
  | _, _, _ => []
def blkV : Value → Nat
  | .pointer (some a) => a.block
  | _ => 0

theorem slfCaps_lab : ∀ (n np : Nat) (bx : List Nat), slfBox bx np n = true → ∀ M ∈ capLab (slfCaps np n), M ∈ bx
  | 0, _, _, _, M, hM => by simp [slfCaps, capLab] at hM
  | n + 1, np, bx, h, M, hM => by
    simp only [slfBox, Bool.and_eq_true] at h
    simp only [slfCaps, capLab, List.mem_cons] at hM
    rcases hM with rfl | hM
    · simpa using h.1
    · exact slfCaps_lab n (np + 1) bx h.2 M hM
theorem slfBox_mem : ∀ (n np : Nat) (bx : List Nat), slfBox bx np n = true → ∀ k, k < n → np + k ∈ bx
  | 0, _, _, _, k, h => absurd h (by omega)
  | n + 1, np, bx, h, k, hk => by
    simp only [slfBox, Bool.and_eq_true] at h
    cases k with
    | zero => simpa using h.1
    | succ k => rw [show np + (k + 1) = np + 1 + k by omega]; exact slfBox_mem n (np + 1) bx h.2 k (by omega)
theorem slfCaps_R {g : Gh} : ∀ (bs : List Nat) (np : Nat), (∀ k b, bs[k]? = some b → g.bk (np + k) = b) → RL (capR g) (slfCaps np bs.length) (bs.map ptrV)
  | [], _, _ => trivial
  | b :: bs, np, h => ⟨by show ptrV b = _; rw [← h 0 b rfl]; rfl, slfCaps_R bs (np + 1) fun k b' hk => by rw [← h (k + 1) b' (by simpa using hk)]; congr 1; omega⟩
section start
variable {h : Fz} {w : World} {B : Nat} {g : Gh} (hle : ∀ p x, Rep h p x → Rep g.h p x)
include hle
theorem xVV_R [SelfV] {i : Nat} {bx : List Nat} (hslf : ∀ k b, (SelfV.bs)[k]? = some b → SelfV.np + k ∈ bx → g.bk (SelfV.np + k) = b) : ∀ {cs : List XC} {j : Nat} {vs : List Value}, RL (xcR P h w B) cs vs → slfCB bx cs = true → (∀ x ∈ xVV i j cs vs, g.sv x.1 = x.2) →
    RL (clR g) (xCells i j cs) vs ∧ (∀ x ∈ xVecs i j cs, isBV x.2 ∧ aoLab x.2 = [] ∧ aoR P g w B x.1 x.2) ∧ xcsK cs vs = (xVecs i j cs).flatMap (fun x => kO g x.1 x.2) ∧ (xVV i j cs vs).map (·.1) = (xVecs i j cs).map (·.1) ∧
      ∀ M ∈ (xCells i j cs).flatMap clLab, M ∈ (xVecs i j cs).map (·.1) ∨ M ∈ bx
  | [], j, [], _, _, _ => ⟨trivial, fun x hx => by simp [xVecs] at hx, rfl, rfl, fun M hM => by simp [xCells] at hM⟩
  | [], _, _ :: _, hr, _, _ => hr.elim
  | _ :: _, _, [], hr, _, _ => hr.elim
  | .slf f np n :: cs, j, v :: vs, hr, hb, hs => by
    simp only [slfCB, Bool.and_eq_true] at hb
    obtain ⟨i1, i2, i3, i4, i5⟩ := xVV_R (j := j + 1) hslf hr.2 hb.2 hs
    obtain ⟨rfl, rfl, rfl, rfl⟩ := hr.1
    refine ⟨⟨⟨_, rfl, slfCaps_R _ _ fun k b hk => hslf k b hk (slfBox_mem _ _ _ hb.1 k (List.getElem?_eq_some_iff.1 hk).1)⟩, i1⟩, i2, by simp only [xcsK, xcK, List.nil_append]; exact i3, i4, fun M hM => ?_⟩
    simp only [xCells, List.flatMap_cons, List.mem_append] at hM
    rcases hM with hM | hM
    · exact .inr (slfCaps_lab _ _ _ hb.1 M hM)
    · exact i5 M hM
  | .p p :: cs, j, v :: vs, hr, hb, hs => by
    obtain ⟨i1, i2, i3, i4, i5⟩ := xVV_R (j := j + 1) hslf hr.2 hb hs
    exact ⟨⟨hle _ _ hr.1, i1⟩, i2, by simp only [xcsK, xcK, List.nil_append]; exact i3, i4, fun M hM => i5 M (by simpa [xCells, clLab] using hM)⟩
  | .vec e s b n get :: cs, j, v :: vs, hr, hb, hs => by
    obtain ⟨i1, i2, i3, i4, i5⟩ := xVV_R (j := j + 1) hslf hr.2 hb (fun x hx => hs x (List.mem_cons_of_mem _ hx))
    have hv : g.sv (xlab i j) = v := hs (xlab i j, v) List.mem_cons_self
    obtain ⟨h1, h2, h3, xs, hx, hx2⟩ := hr.1
    refine ⟨⟨⟨hv.symm, h1⟩, i1⟩, fun x hx => ?_, ?_, by simp [xVV, xVecs, i4], fun M hM => ?_⟩
    · rcases List.mem_cons.1 hx with e1 | hx
      · subst e1
        refine ⟨trivial, rfl, h2, h3, xs, ?_, fun q hq => (hx2 q hq).mono hle⟩
        show w.ownsRow B e s (g.sv (xlab i j)) n xs
        rw [hv]; assumption
      · exact i2 x hx
    · simp only [xcsK, xcK, xVecs, List.flatMap_cons, kO, hv, i3]
    · simp only [xCells, List.flatMap_cons, List.mem_append, clLab, List.mem_singleton] at hM
      simp only [xVecs, List.map_cons, List.mem_cons]
      rcases hM with hM | hM
      · exact .inl (.inl hM)
      · exact (i5 M hM).imp_left .inr
  | .mo kt vt q n F :: cs, j, v :: vs, hr, hbx, hs => by
    obtain ⟨i1, i2, i3, i4, i5⟩ := xVV_R (j := j + 1) hslf hr.2 hbx (fun x hx => hs x (List.mem_cons_of_mem _ hx))
    have hv : g.sv (xlab i j) = v := hs (xlab i j, v) List.mem_cons_self
    obtain ⟨b, es, clock, rfl, h2, h3⟩ := hr.1
    have hb : mapB (g.sv (xlab i j)) = b := by rw [hv]; rfl
    refine ⟨⟨by show Value.map (some b) = .map (some (mapB (g.sv (xlab i j)))); rw [hb], i1⟩, fun x hx => ?_, ?_, by simp [xVV, xVecs, i4], fun M hM => ?_⟩
    · rcases List.mem_cons.1 hx with e1 | hx
      · subst e1
        exact ⟨trivial, rfl, es, clock, by rw [hb]; exact h2, h3⟩
      · exact i2 x hx
    · simp only [xcsK, xcK, xVecs, List.flatMap_cons, kO, hb, i3]; rfl
    · simp only [xCells, List.flatMap_cons, List.mem_append, clLab, List.mem_singleton] at hM
      simp only [xVecs, List.map_cons, List.mem_cons]
      rcases hM with hM | hM
      · exact .inl (.inl hM)
      · exact (i5 M hM).imp_left .inr
theorem xVals_R [SelfV] {bx : List Nat} (hslf : ∀ k b, (SelfV.bs)[k]? = some b → SelfV.np + k ∈ bx → g.bk (SelfV.np + k) = b) : ∀ {xs : List XA} {i : Nat} {vs : List Value}, RL (xaR P h w B) xs vs → slfXB bx xs = true → (∀ x ∈ xVals w i xs vs, g.sv x.1 = x.2 ∧ g.bk x.1 = blkV x.2) →
    (∀ x ∈ xObjs i xs, isBV x.2 ∧ (∀ M ∈ aoLab x.2, M ∈ (xObjs i xs).map (·.1) ∨ M ∈ bx) ∧ aoR P g w B x.1 x.2) ∧ xsK w xs vs = (xObjs i xs).flatMap (fun x => kO g x.1 x.2) ∧ (xVals w i xs vs).map (·.1) = (xObjs i xs).map (·.1)
  | [], i, [], _, _, _ => ⟨fun x hx => by simp [xObjs] at hx, rfl, rfl⟩
  | [], _, _ :: _, hr, _, _ => hr.elim
  | _ :: _, _, [], hr, _, _ => hr.elim
  | .d a :: xs, i, v :: vs, hr, hbx, hs => by
    obtain ⟨i1, i2, i3⟩ := xVals_R (i := i + 1) hslf hr.2 hbx hs
    exact ⟨i1, by simp only [xsK, xaK, List.nil_append]; exact i2, i3⟩
  | .box ty cs :: xs, i, v :: vs, hr, hbx, hs => by
    simp only [slfXB, Bool.and_eq_true] at hbx
    obtain ⟨i1, i2, i3⟩ := xVals_R (i := i + 1) hslf hr.2 hbx.2 (fun x hx => hs x (List.mem_cons_of_mem _ (List.mem_append.2 (.inr hx))))
    obtain ⟨k, C, rfl, hC, hrl⟩ := hr.1
    have hca : cellsAt w (.pointer (some ⟨k, 0, none⟩)) = C.toList := by simp only [cellsAt, hC]
    obtain ⟨j1, j2, j3, j4, j5⟩ := xVV_R (i := i) (j := 0) hle hslf hrl hbx.1 (fun x hx => (hs x (List.mem_cons_of_mem _ (List.mem_append.2 (.inl (by rw [hca]; exact hx))))).1)
    have hb : g.bk i = k := (hs (i, _) List.mem_cons_self).2
    refine ⟨fun x hx => ?_, ?_, ?_⟩
    · simp only [xObjs] at hx
      rcases List.mem_cons.1 hx with e | hx
      · subst e
        refine ⟨trivial, fun M hM => ?_, C, by rw [hb]; exact hC, j1⟩
        simp only [xObjs, List.map_cons, List.map_append, List.mem_cons, List.mem_append]
        exact (j5 M hM).imp_left fun h => .inr (.inl h)
      · rcases List.mem_append.1 hx with hx | hx
        · obtain ⟨q1, q2, q3⟩ := j2 x hx
          exact ⟨q1, fun M hM => by rw [q2] at hM; simp at hM, q3⟩
        · obtain ⟨q1, q2, q3⟩ := i1 x hx
          refine ⟨q1, fun M hM => ?_, q3⟩
          simp only [xObjs, List.map_cons, List.map_append, List.mem_cons, List.mem_append]
          exact (q2 M hM).imp_left fun h => .inr (.inr h)
    · simp only [xsK, xaK, hC, xObjs, List.flatMap_cons, List.flatMap_append, kO, hb, j3, i2]; simp
    · simp only [xVals, xObjs, List.map_cons, List.map_append, hca, j4, i3]
end start

theorem xEnv_lk : ∀ (xs : List XA) (i t : Nat) (d : DV), lk (xEnv i xs) t = some d → ∃ x, xs[t - i]? = some x ∧ i ≤ t ∧ d = match x with | .d a => .one (paD a) | .box _ _ => .cl (.ptr t 0)
  | [], i, t, d, h => by simp [xEnv, lk] at h
  | x :: r, i, t, d, h => by
    have key : lk (xEnv (i + 1) r) t = some d → i ≠ t → ∃ y, (x :: r)[t - i]? = some y ∧ i ≤ t ∧ d = match y with | .d a => .one (paD a) | .box _ _ => .cl (.ptr t 0) := fun h hne => by
      obtain ⟨y, h1, h2, h3⟩ := xEnv_lk r (i + 1) t d h
      refine ⟨y, ?_, by omega, h3⟩
      rw [show t - i = (t - (i + 1)) + 1 by omega, List.getElem?_cons_succ]; exact h1
    cases x with
    | d a =>
      simp only [xEnv] at h
      rw [lk_cons] at h
      split at h
      · rename_i e; subst e; simp only [Option.some.injEq] at h; exact ⟨.d a, by simp, Nat.le_refl _, h.symm⟩
      · rename_i e; exact key h e
    | box ty cs =>
      simp only [xEnv] at h
      rw [lk_cons] at h
      split at h
      · rename_i e; subst e; simp only [Option.some.injEq] at h; exact ⟨.box ty cs, by simp, Nat.le_refl _, h.symm⟩
      · rename_i e; exact key h e
theorem xObjs_box : ∀ {xs : List XA} {i t : Nat} {ty : Nat} {cs : List XC}, xs[t - i]? = some (.box ty cs) → i ≤ t → t ∈ (xObjs i xs).map (·.1)
  | [], i, t, ty, cs, h, _ => by simp at h
  | x :: xs, i, t, ty, cs, h, hi => by
    by_cases e : t = i
    · subst e
      simp at h; subst h
      simp [xObjs]
    · rw [show t - i = (t - (i + 1)) + 1 by omega, List.getElem?_cons_succ] at h
      have := xObjs_box (i := i + 1) h (by omega)
      cases x with
      | d a => exact this
      | box ty' cs' =>
        simp only [xObjs, List.map_cons, List.map_append, List.mem_cons, List.mem_append]
        exact .inr (.inr this)
theorem xVals_box {w : World} : ∀ {xs : List XA} {i t : Nat} {ty : Nat} {cs : List XC} {vs : List Value} {v : Value}, xs[t - i]? = some (.box ty cs) → vs[t - i]? = some v → i ≤ t → (t, v) ∈ xVals w i xs vs
  | [], i, t, ty, cs, vs, v, h, _, _ => by simp at h
  | _ :: _, i, t, ty, cs, [], v, _, h, _ => by simp at h
  | x :: xs, i, t, ty, cs, u :: vs, v, h, h2, hi => by
    by_cases e : t = i
    · subst e
      simp at h h2; subst h h2
      simp [xVals]
    · rw [show t - i = (t - (i + 1)) + 1 by omega, List.getElem?_cons_succ] at h h2
      have := xVals_box (w := w) (i := i + 1) h h2 (by omega)
      cases x with
      | d a => exact this
      | box ty' cs' =>
        simp only [xVals, List.mem_cons, List.mem_append]
        exact .inr (.inr this)

def pinned (h : Fz) (K : List Nat) (w : World) : Fz := fun b =>
  match h b with
  | some (.fz (.cells C ty fr)) => some (.fz (.cells C ty fr))
  | _ => match K.contains b with
    | true => none
    | false => (w.heap[b]?).map .pin
theorem pinned_data {h : Fz} {K : List Nat} {w : World} {b : Nat} {o : FzO} (hb : h b = some o) (ho : (∃ C ty fr, o = .fz (.cells C ty fr))) : pinned h K w b = some o := by
  obtain ⟨C, ty, fr, rfl⟩ := ho; simp only [pinned, hb]
def PinC (h : Fz) (K : List Nat) (w : World) (b : Nat) : Prop :=
  (∃ o, h b = some o ∧ pinned h K w b = some o ∧ ((∃ C ty fr, o = .fz (.cells C ty fr)))) ∨
    (b ∈ K ∧ pinned h K w b = none) ∨ (b ∉ K ∧ pinned h K w b = (w.heap[b]?).map .pin)
theorem pinned_rest {h : Fz} {K : List Nat} {w : World} {b : Nat} (e : pinned h K w b = (match K.contains b with | true => none | false => (w.heap[b]?).map .pin)) : PinC h K w b := by
  cases hk : K.contains b with
  | true => rw [hk] at e; exact .inr (.inl ⟨by simpa using hk, e⟩)
  | false => rw [hk] at e; exact .inr (.inr ⟨by simpa using hk, e⟩)
theorem pinned_cases {h : Fz} {K : List Nat} {w : World} (b : Nat) : PinC h K w b := by
  cases hb : h b with
  | none => exact pinned_rest (by simp only [pinned, hb])
  | some o =>
    cases o with
    | pin o => exact pinned_rest (by simp only [pinned, hb])
    | fz o =>
      cases o with
      | cells C ty fr => exact .inl ⟨_, hb, by simp only [pinned, hb], C, ty, fr, rfl⟩
      | _ => exact pinned_rest (by simp only [pinned, hb])
theorem pinned_rep {h : Fz} {K : List Nat} {w : World} {p : PV} {x : Value} (hr : Rep h p x) : Rep (pinned h K w) p x := hr.mono' fun _ _ hb ho => pinned_data hb ho
theorem pinned_hw {h : Fz} {K : List Nat} {w : World} (H : Hw h w) : Hw (pinned h K w) w := by
  intro b x hb
  rcases pinned_cases (h := h) (K := K) (w := w) b with ⟨o, h1, h2, _⟩ | ⟨_, h2⟩ | ⟨_, h2⟩
  · rw [h2] at hb; simp only [Option.some.injEq] at hb; subst hb; exact H b _ h1
  · rw [h2] at hb; cases hb
  · rw [h2] at hb
    obtain ⟨o, ho, rfl⟩ := Option.map_eq_some_iff.1 hb
    exact ⟨o, ho, rfl⟩

theorem paR_rep {h h' : Fz} (hle : ∀ p x, Rep h p x → Rep h' p x) {a : PA} {v : Value} (hr : paR h a v) : paR h' a v := by
  cases a with
  | one p => exact hle _ _ hr
  | agg cs => obtain ⟨vs, rfl, hr⟩ := hr; exact ⟨vs, rfl, hr.mono hle⟩
theorem resR_rep {h h' : Fz} (hle : ∀ p x, Rep h p x → Rep h' p x) {rs : List PA} {v : Value} (hr : resR h rs v) : resR h' rs v := by
  match rs, hr with
  | [], ⟨vs, e, r⟩ => exact ⟨vs, e, r.mono fun _ _ => paR_rep hle⟩
  | [x], hr => exact paR_rep hle hr
  | x :: y :: l, ⟨vs, e, r⟩ => exact ⟨vs, e, r.mono fun _ _ => paR_rep hle⟩
theorem xcR_rep [SelfV] {h h' : Fz} {w : World} {B : Nat} (hle : ∀ p x, Rep h p x → Rep h' p x) {c : XC} {v : Value} (hr : xcR P h w B c v) : xcR P h' w B c v := by
  cases c with
  | p v => exact hle _ _ hr
  | vec e s b n get => obtain ⟨h1, h2, h3, xs, h4, h5⟩ := hr; exact ⟨h1, h2, h3, xs, h4, fun q hq => (h5 q hq).mono hle⟩
  | mo kt vt q n F => exact hr
  | slf f np n => exact hr
theorem xaR_rep [SelfV] {h h' : Fz} {w : World} {B : Nat} (hle : ∀ p x, Rep h p x → Rep h' p x) {c : XA} {v : Value} (hr : xaR P h w B c v) : xaR P h' w B c v := by
  cases c with
  | d a => exact paR_rep hle hr
  | box ty cs => obtain ⟨k, C, h1, h2, h3⟩ := hr; exact ⟨k, C, h1, h2, h3.mono fun _ _ => xcR_rep hle⟩

theorem xBox_mem : ∀ {xs : List XA} {i M : Nat}, M ∈ xBox i xs → i ≤ M ∧ ∃ ty cs, xs[M - i]? = some (.box ty cs)
  | [], _, _, h => by simp [xBox] at h
  | .d a :: xs, i, M, h => by
    obtain ⟨h1, ty, cs, h2⟩ := xBox_mem (i := i + 1) h
    exact ⟨by omega, ty, cs, by rw [show M - i = (M - (i + 1)) + 1 by omega, List.getElem?_cons_succ]; exact h2⟩
  | .box ty cs :: xs, i, M, h => by
    rcases List.mem_cons.1 h with rfl | h
    · exact ⟨Nat.le_refl _, ty, cs, by simp⟩
    obtain ⟨h1, ty, cs, h2⟩ := xBox_mem (i := i + 1) h
    exact ⟨by omega, ty, cs, by rw [show M - i = (M - (i + 1)) + 1 by omega, List.getElem?_cons_succ]; exact h2⟩
theorem sim_mut [SelfV] {nt m : Nat} {xs : List XA} {w : World} {h : Fz} {B : Nat} {vs : List Value} (hnt : nt = m) (hlen : xs.length ≤ nt) (hvs : RL (xaR P h w B) xs vs) (hn : (xsK w xs vs).Nodup)
    (hK : ∀ b ∈ xsK w xs vs, B ≤ b ∧ h b = none) (hw : Hw h w) (hB : B ≤ w.heap.size) (hlab : ((xObjs 0 xs).map (·.1)).Nodup) (hbx : slfXB (xBox 0 xs) xs = true) (hsv : ∀ k b, (SelfV.bs)[k]? = some b → vs[SelfV.np + k]? = some (ptrV b)) :
    ∃ g, Sim P nt B w (pinned h (xsK w xs vs) w) g ⟨xEnv 0 xs, xObjs 0 xs, []⟩ { tmps := vs.toArray ++ Array.replicate (m - vs.toArray.size) undef, defers := [] } w := by
  let nv := xVals w 0 xs vs
  let h0 := pinned h (xsK w xs vs) w
  let g : Gh := ⟨h0, fun L => blkV ((lk nv L).getD undef), fun L => (lk nv L).getD undef, fun _ _ => undef⟩
  have hle : ∀ p x, Rep h p x → Rep g.h p x := fun p x hr => pinned_rep hr
  have hkeys : nv.map (·.1) = (xObjs 0 xs).map (·.1) := by
    have : ∀ {xs : List XA} {i : Nat} {vs : List Value}, RL (xaR P h w B) xs vs → (xVals w i xs vs).map (·.1) = (xObjs i xs).map (·.1) := by
      intro xs
      induction xs with
      | nil => intro i vs hr; cases vs with
        | nil => rfl
        | cons => exact hr.elim
      | cons x xs ih =>
        intro i vs hr
        cases vs with
        | nil => exact hr.elim
        | cons v vs =>
          cases x with
          | d a => exact ih hr.2
          | box ty cs =>
            obtain ⟨k, C, rfl, hC, hrl⟩ := hr.1
            have hv : ∀ {cs : List XC} {j : Nat} {vs : List Value}, RL (xcR P h w B) cs vs → (xVV i j cs vs).map (·.1) = (xVecs i j cs).map (·.1) := by
              intro cs
              induction cs with
              | nil => intro j vs hr; cases vs with
                | nil => rfl
                | cons => exact hr.elim
              | cons c cs ih2 =>
                intro j vs hr
                cases vs with
                | nil => exact hr.elim
                | cons v vs => cases c with
                  | p q => exact ih2 hr.2
                  | vec e s b n get => simp only [xVV, xVecs, List.map_cons]; rw [ih2 hr.2]
                  | mo kt vt q n F => simp only [xVV, xVecs, List.map_cons]; rw [ih2 hr.2]
                  | slf f np n => exact ih2 hr.2
            simp only [xVals, xObjs, List.map_cons, List.map_append, cellsAt, hC]
            rw [hv hrl, ih hr.2]
    exact this hvs
  have hlkv : ∀ x ∈ nv, lk nv x.1 = some x.2 := fun x hx => lk_of_mem (by rw [hkeys]; exact hlab) hx
  obtain ⟨o1, o2, o3⟩ := xVals_R (g := g) (i := 0) hle (bx := xBox 0 xs) (fun k b hk hm => by
    obtain ⟨_, ty, cs, hx⟩ := xBox_mem hm
    have := hlkv _ (xVals_box (w := w) (i := 0) hx (by rw [Nat.sub_zero]; exact hsv k b hk) (Nat.zero_le _))
    show blkV ((lk nv (SelfV.np + k)).getD undef) = b
    rw [show lk nv (SelfV.np + k) = some (ptrV b) from this]; rfl) hvs hbx (fun x hx => ⟨by show (lk nv x.1).getD undef = x.2; rw [hlkv x hx]; rfl, by show blkV ((lk nv x.1).getD undef) = _; rw [hlkv x hx]; rfl⟩)
  have hmem : ∀ L o, lk (xObjs 0 xs) L = some o → (L, o) ∈ xObjs 0 xs := fun L o h => lk_mem h
  have hl := hvs.length
  have hblk : ∀ L o b, lk (xObjs 0 xs) L = some o → obk g L o b → b ∈ (xObjs 0 xs).flatMap (fun x => kO g x.1 x.2) := fun L o b hL hb => List.mem_flatMap.2 ⟨_, hmem L o hL, obk_kO (o1 _ (hmem L o hL)).1 hb⟩
  refine ⟨g, Marks.nil _ _, by simp; omega, ?_, fun L o hL => (o1 _ (hmem L o hL)).2.2, ?_, ?_, pinned_hw hw, fun _ _ h => h, fun b o h => .inl h, Bel.refl _ _ _, hB, ?_, ?_⟩
  · intro t d ht
    obtain ⟨x, hx, _, rfl⟩ := xEnv_lk xs 0 t d ht
    obtain ⟨v, hv, hxv⟩ := hvs.get t x (by simpa using hx)
    have hlt := (List.getElem?_eq_some_iff.1 hv).1
    have : (vs.toArray ++ Array.replicate (m - vs.toArray.size) undef).getD t undef = v := by
      rw [Array.getD_eq_getD_getElem?, Array.getElem?_append_left (by simpa using hlt)]
      simp [hv]
    rw [this]
    cases x with
    | d a => exact paD_R (g := g) (paR_rep hle hxv)
    | box ty cs =>
      obtain ⟨k, C, rfl, hC, _⟩ := hxv
      have := hlkv _ (xVals_box (w := w) (i := 0) hx (by simpa using hv) (Nat.zero_le _))
      show Value.pointer (some ⟨k, 0, none⟩) = .pointer (some ⟨blkV ((lk nv t).getD undef), 0, none⟩)
      rw [show lk nv t = some (.pointer (some ⟨k, 0, none⟩)) from this]; rfl
  · intro L o b hL hb
    have hbK : b ∈ xsK w xs vs := by rw [o2]; exact hblk L o b hL hb
    refine ⟨(hK b hbK).1, ?_⟩
    show pinned h (xsK w xs vs) w b = none
    rcases pinned_cases (h := h) (K := xsK w xs vs) (w := w) b with ⟨o, h1, _⟩ | ⟨_, h2⟩ | ⟨h2, _⟩
    · rw [(hK b hbK).2] at h1; cases h1
    · exact h2
    · exact (h2 hbK).elim
  · intro L o b L' o' hL hL' hb hb'
    rw [o2] at hn
    have := flat_same hn (L, o) (L', o') b (hmem L o hL) (hmem L' o' hL') (obk_kO (o1 _ (hmem L o hL)).1 hb) (obk_kO (o1 _ (hmem L' o' hL')).1 hb')
    exact congrArg Prod.fst this
  · intro t d ht L hL
    obtain ⟨x, hx, _, rfl⟩ := xEnv_lk xs 0 t d ht
    cases x with
    | d a => rw [show dvLab (.one (paD a)) = d1Lab (paD a) from rfl, paD_lab] at hL; simp at hL
    | box ty cs =>
      simp [dvLab, d1Lab, clLab] at hL; subst hL
      exact lk_isSome (xObjs_box (i := 0) hx (Nat.zero_le _))
  · intro L o hL M hM
    rcases (o1 _ (hmem L o hL)).2.1 M hM with h | h
    · exact lk_isSome h
    · obtain ⟨_, ty, cs, hx⟩ := xBox_mem h
      exact lk_isSome (xObjs_box (i := 0) hx (Nat.zero_le _))

theorem resPU_run {nt B : Nat} {w0 : World} {h0 : Fz} {g : Gh} {σ : St} {a : Act} {w : World} (S : Sim P nt B w0 h0 g σ a w) : ∀ (rs : List ResultVar) (l : List PA) (u : Upd), resPU P σ rs = some (l, u) →
    ∃ (vs : List Value), UpdOk (lk σ.objs) u ∧ (rs.mapM (resV a.tmps)).run P w = .ok vs w ∧ ∀ (u' : Upd) (h' : Fz), (∀ y ∈ u, y ∈ u') → Frozen g (lk σ.objs) u' h' → RL (paR h') l vs
  | [], l, u, h => by
    simp [resPU] at h; obtain ⟨rfl, rfl⟩ := h
    exact ⟨[], UpdOk.nil _, rfl, fun _ _ _ _ => trivial⟩
  | .tmp t :: r, l, u, h => by
    simp only [resPU] at h
    split at h
    · rename_i d hd
      split at h
      · rename_i x u1 l2 u2 h1 h2
        simp only [Option.some.injEq, Prod.mk.injEq] at h; obtain ⟨rfl, rfl⟩ := h
        obtain ⟨vs, hu2, hrun, hr⟩ := resPU_run S r l2 u2 h2
        refine ⟨a.tmps.getD t undef :: vs, (frzD_ok h1).append hu2, ?_, fun u' h' hu F => ⟨F.repD h1 (fun y hy => hu y (List.mem_append.2 (.inl hy))) (S.env t d hd), hr u' h' (fun y hy => hu y (List.mem_append.2 (.inr hy))) F⟩⟩
        rw [List.mapM_cons]
        simp only [resV, Sem.run_bind, Sem.run_pure, Result.andThen_ok]
        rw [hrun]; rfl
      · cases h
    · cases h
  | .cell t ty :: r, l, u, h => by
    simp only [resPU] at h
    split at h
    · rename_i L off ag m ht hg hs
      split at h
      · rename_i ty' cells hL
        split at h
        · rename_i d hd
          split at h
          · rename_i x u1 l2 u2 h1 h2
            simp only [Option.some.injEq, Prod.mk.injEq] at h; obtain ⟨rfl, rfl⟩ := h
            obtain ⟨vs, hu2, hrun, hr⟩ := resPU_run S r l2 u2 h2
            obtain ⟨C, hC, hcr⟩ := S.obj L _ hL
            obtain ⟨v, hload, hv⟩ := rdCl_d1R (P := P) hg hs hC 0 (fun j y hj => by obtain ⟨v, hv, hyv⟩ := hcr.get j y hj; exact ⟨v, by simpa using hv, hyv⟩) hd
            have hp : a.tmps.getD t undef = .pointer (some ⟨g.bk L, off, none⟩) := S.env t _ ht
            rw [Nat.zero_add] at hload
            refine ⟨v :: vs, (frzD_ok h1).append hu2, ?_, fun u' h' hu F => ⟨F.repD h1 (fun y hy => hu y (List.mem_append.2 (.inl hy))) hv, hr u' h' (fun y hy => hu y (List.mem_append.2 (.inr hy))) F⟩⟩
            have h1 : (resV a.tmps (.cell t ty)).run P w = .ok v w := by
              simp only [resV, Sem.run_bind, hp, run_asAddr, Result.andThen_ok, hload]
            rw [List.mapM_cons]
            simp only [Sem.run_bind, h1, Result.andThen_ok]
            rw [hrun]; rfl
          · cases h
        · cases h
      · cases h
    · cases h
theorem resultsU_run {nt B : Nat} {w0 : World} {h0 : Fz} {g : Gh} {σ : St} {a : Act} {w : World} (S : Sim P nt B w0 h0 g σ a w) {fn : Func} {l : List PA} {u : Upd} (h : resPU P σ fn.results.toList = some (l, u)) :
    ∃ (v : Value), UpdOk (lk σ.objs) u ∧ (results fn a.tmps).run P w = .ok v w ∧ ∀ (h' : Fz), Frozen g (lk σ.objs) u h' → resR h' l v := by
  obtain ⟨vs, hu, hrun, hr⟩ := resPU_run S fn.results.toList l u h
  refine ⟨if h : vs.toArray.size = 1 then vs.toArray[0] else .tuple vs.toArray, hu, ?_, fun h' F => ?_⟩
  · have e : results fn a.tmps = (do let vs ← fn.results.mapM (resV a.tmps); pure (if h : vs.size = 1 then vs[0] else .tuple vs)) := rfl
    rw [e, Array.mapM_eq_mapM_toList]
    simp only [Sem.run_bind, Sem.run_map]
    rw [hrun]
    simp only [Result.andThen_ok, Sem.run_pure]
  · have hrl := hr u h' (fun y hy => hy) F
    match l, vs, hrl with
    | [], [], _ => exact ⟨[], rfl, trivial⟩
    | [x], [v], hrl => exact hrl.1
    | x :: y :: l, v :: v2 :: vs, hrl =>
      refine ⟨v :: v2 :: vs, ?_, hrl⟩
      rw [dif_neg (by simp)]
    | [], _ :: _, hrl => exact hrl.elim
    | [_], [], hrl => exact hrl.elim
    | [_], _ :: _ :: _, hrl => exact hrl.2.elim
    | _ :: _ :: _, [], hrl => exact hrl.elim
    | _ :: _ :: _, [_], hrl => exact hrl.2.elim

theorem slfCs_mem [SelfV] {h : Fz} {B : Nat} {w : World} {bx : List Nat} : ∀ {cs : List XC} {vs : List Value} {f : FuncId} {np n : Nat}, slfCs cs = some (f, np, n) → RL (xcR P h w B) cs vs → slfCB bx cs = true → f = SelfV.f ∧ np = SelfV.np ∧ n = (SelfV.bs).length ∧ slfBox bx np n = true
  | [], _, _, _, _, h1, _, _ => by cases h1
  | _ :: _, [], _, _, _, _, hr, _ => hr.elim
  | c :: cs, v :: vs, f, np, n, h1, hr, hb => by
    cases c with
    | slf f' np' n' =>
      simp only [slfCs, Option.some.injEq, Prod.mk.injEq] at h1
      obtain ⟨rfl, rfl, rfl⟩ := h1
      simp only [slfCB, Bool.and_eq_true] at hb
      obtain ⟨q1, q2, q3, _⟩ := hr.1
      exact ⟨q1, q2, q3, hb.1⟩
    | p q => exact slfCs_mem (cs := cs) h1 hr.2 hb
    | vec e s b n get => exact slfCs_mem (cs := cs) h1 hr.2 hb
    | mo kt vt q n F => exact slfCs_mem (cs := cs) h1 hr.2 hb
theorem slfXs_mem [SelfV] {h : Fz} {B : Nat} {w : World} {bx : List Nat} : ∀ {xs : List XA} {vs : List Value} {f : FuncId} {np n : Nat}, slfXs xs = some (f, np, n) → RL (xaR P h w B) xs vs → slfXB bx xs = true → f = SelfV.f ∧ np = SelfV.np ∧ n = (SelfV.bs).length ∧ slfBox bx np n = true
  | [], _, _, _, _, h1, _, _ => by cases h1
  | _ :: _, [], _, _, _, _, hr, _ => hr.elim
  | .d a :: xs, v :: vs, f, np, n, h1, hr, hb => slfXs_mem (xs := xs) h1 hr.2 hb
  | .box ty cs :: xs, v :: vs, f, np, n, h1, hr, hb => by
    simp only [slfXB, Bool.and_eq_true] at hb
    simp only [slfXs] at h1
    split at h1
    · rename_i y hy
      simp only [Option.some.injEq] at h1; subst h1
      obtain ⟨k, C, _, _, hrl⟩ := hr.1
      exact slfCs_mem hy hrl hb.1
    · exact slfXs_mem (xs := xs) h1 hr.2 hb.2
theorem slfEnv_R {nt B : Nat} {w0 : World} {h0 : Fz} {g : Gh} {σ : St} {a : Act} {w : World} (S : Sim P nt B w0 h0 g σ a w) : ∀ (bs : List Nat) (np : Nat) (l : List Nat), slfEnv σ.env np bs.length = some l → (∀ k b, bs[k]? = some b → a.tmps.getD (np + k) undef = ptrV b) → bs = l.map g.bk
  | [], _, l, h1, _ => by simp only [List.length_nil, slfEnv, Option.some.injEq] at h1; subst h1; rfl
  | b :: bs, np, l, h1, h2 => by
    simp only [List.length_cons, slfEnv] at h1
    split at h1
    · rename_i L l' hL hl'
      simp only [Option.some.injEq] at h1; subst h1
      have e1 : a.tmps.getD np undef = .pointer (some ⟨g.bk L, 0, none⟩) := S.env np _ hL
      have e2 := h2 0 b rfl
      rw [Nat.add_zero, e1] at e2
      have e3 : g.bk L = b := by simpa [ptrV] using e2
      rw [List.map_cons, e3, ← slfEnv_R S bs (np + 1) l' hl' fun k b' hk => by rw [show np + 1 + k = np + (k + 1) by omega]; exact h2 (k + 1) b' (by simpa using hk)]
    · cases h1
theorem slfEnd_R [SelfV] {nt B : Nat} {w0 : World} {h0 h : Fz} {g : Gh} {σ : St} {a : Act} {w w1 : World} (S : Sim P nt B w0 h0 g σ a w) {xs : List XA} {vs : List Value} (hvs : RL (xaR P h w1 B) xs vs) (hbx : slfXB (xBox 0 xs) xs = true)
    (hsv : ∀ k b, (SelfV.bs)[k]? = some b → vs[SelfV.np + k]? = some (ptrV b)) (hkeep : ∀ t u, vs[t]? = some u → t ∈ xBox 0 xs → a.tmps.getD t undef = u) : SlfR g (slfEnd σ.env xs) := by
  intro f np ls h1
  unfold slfEnd at h1
  split at h1
  · rename_i f' np' n hx
    split at h1
    · rename_i l hl
      simp only [Option.some.injEq, Prod.mk.injEq] at h1
      obtain ⟨rfl, rfl, rfl⟩ := h1
      obtain ⟨rfl, rfl, rfl, hbb⟩ := slfXs_mem hx hvs hbx
      exact ⟨rfl, rfl, slfEnv_R S _ _ _ hl fun k b hk => hkeep _ _ (hsv k b hk) (slfBox_mem _ _ _ hbb k (List.getElem?_eq_some_iff.1 hk).1)⟩
    · cases h1
  · cases h1
theorem xOut_R [SelfV] {sf : SlfS} {nt B : Nat} {w0 : World} {h0 : Fz} {g : Gh} {σ : St} {a : Act} {w w1 : World} {h : Fz} (S : Sim P nt B w0 h0 g σ a w) (hsf : SlfR g sf) (hle : ∀ p x, Rep h p x → Rep g.h p x) :
    ∀ {xs ys : List XA} {ls : List Nat} {i : Nat} {vs : List Value}, xOut sf (lk σ.objs) σ.env i xs = some (ys, ls) → RL (xaR P h w1 B) xs vs → (∀ t v, vs[t]? = some v → i + t ∈ xBox i xs → a.tmps.getD (i + t) undef = v) →
    RL (xaR P g.h w B) ys vs ∧ xsK w ys vs = ls.flatMap (kB g (lk σ.objs)) ∧ ∀ L ∈ ls, isB (lk σ.objs) L
  | [], ys, ls, i, [], h1, _, _ => by
    simp only [xOut, Option.some.injEq, Prod.mk.injEq] at h1; obtain ⟨rfl, rfl⟩ := h1
    exact ⟨trivial, rfl, fun L hL => by simp at hL⟩
  | [], _, _, _, _ :: _, _, hr, _ => hr.elim
  | _ :: _, _, _, _, [], _, hr, _ => hr.elim
  | .d p :: xs, ys, ls, i, v :: vs, h1, hr, ht => by
    simp only [xOut] at h1
    split at h1
    · rename_i ys' ls' h2
      simp only [Option.some.injEq, Prod.mk.injEq] at h1; obtain ⟨rfl, rfl⟩ := h1
      obtain ⟨i1, i2, i3⟩ := xOut_R S hsf hle h2 hr.2 (fun t u hu hb => by
        have := ht (t + 1) u (by simpa using hu) (by rw [show i + (t + 1) = i + 1 + t by omega]; exact hb)
        rw [show i + 1 + t = i + (t + 1) by omega]; exact this)
      exact ⟨⟨paR_rep hle hr.1, i1⟩, by simp only [xsK, xaK, List.nil_append]; exact i2, i3⟩
    · cases h1
  | .box ty cs :: xs, ys, ls, i, v :: vs, h1, hr, ht => by
    simp only [xOut] at h1
    split at h1
    · rename_i L ys' ls' hL h2
      split at h1
      · rename_i y l ms hy
        simp only [Option.some.injEq, Prod.mk.injEq] at h1; obtain ⟨rfl, rfl⟩ := h1
        obtain ⟨i1, i2, i3⟩ := xOut_R S hsf hle h2 hr.2 (fun t u hu hb => by
          have := ht (t + 1) u (by simpa using hu) (by rw [show i + (t + 1) = i + 1 + t by omega]; exact List.mem_cons_of_mem _ hb)
          rw [show i + 1 + t = i + (t + 1) by omega]; exact this)
        have hv : a.tmps.getD i undef = v := ht 0 v rfl (by simp [xBox])
        obtain ⟨j1, j2, j3⟩ := xaOf_R S hsf hy (S.env i _ hL)
        rw [hv] at j1 j2
        exact ⟨⟨j1, i1⟩, by simp only [xsK, i2, j2, List.flatMap_append], fun M hM => (List.mem_append.1 hM).elim (j3 M) (i3 M)⟩
      · cases h1
    · cases h1

def MutPost [SelfV] (P : Program) (h : Fz) (base : Nat) (w : World) (xs : List XA) (vs : List Value) (K : List PA → List XA → Prop) (e : Ending) (w' : World) : Prop :=
  ∃ (h' : Fz) (v : Value) (rs : List PA) (ys : List XA), K rs ys ∧ e = .returned v ∧ resR h' rs v ∧ RL (xaR P h' w' base) ys vs ∧ (xsK w' ys vs).Nodup ∧
      (∀ b ∈ xsK w' ys vs, (b ∈ xsK w xs vs ∨ w.heap.size ≤ b) ∧ h' b = none) ∧ Fle h h' ∧ Hw h' w' ∧ (∀ b o, h' b = some o → h b = some o ∨ w.heap.size ≤ b ∨ b ∈ xsK w xs vs) ∧ BelX h (xsK w xs vs) w w'
theorem mut_run [SelfV] {G : Ctrs} (hok : OkAll P G) {f : FuncId} {ann : Ann} {xs : List XA} {K : List PA → List XA → Prop} {w : World} {h : Fz} {base : Nat} {vs : List Value} (hv : vcMut P G ann f xs K) (hvs : RL (xaR P h w base) xs vs)
    (hn : (xsK w xs vs).Nodup) (hK : ∀ b ∈ xsK w xs vs, base ≤ b ∧ h b = none) (hw : Hw h w) (hB : base ≤ w.heap.size) (hsv : ∀ k b, (SelfV.bs)[k]? = some b → vs[SelfV.np + k]? = some (ptrV b)) :
    Calls P f vs.toArray w (MutPost P h base w xs vs K) := by
  unfold vcMut at hv
  split at hv
  · rename_i fn hfn
    split at hv
    · rename_i c hbody
      split at hv
      · rename_i hc
        simp only [Bool.and_eq_true, Nat.ble_eq] at hc
        obtain ⟨⟨⟨⟨hnt, hlen⟩, hlab⟩, hbx⟩, hdisj⟩ := hc
        obtain ⟨g0, S⟩ := sim_mut (P := P) (Nat.eq_of_beq_eq_true hnt) hlen hvs hn hK hw hB (nodupN_nodup hlab) hbx hsv
        have hwp := vc_snd (B := base) (w0 := w) hok ann c none 0 (pinned h (xsK w xs vs) w) (dstC c) _ (bodyM P fn xs K) _ _ _ _ (fun _ h => h) (Rnd.none _) hv S (Kp.refl _ _)
        refine (callsIn_wide (n := 0)).1 ?_
        refine callsIn_of_wp_marks (F := FR none) hfn hbody trivial (wpIn_mono hwp ?_)
        have h0b : ∀ b, pinned h (xsK w xs vs) w b = some (.fz (.deferred (some []))) → b < base := fun b hb => by
          rcases pinned_cases (h := h) (K := xsK w xs vs) (w := w) b with ⟨o, h1, h2, h3⟩ | ⟨_, h2⟩ | ⟨_, h2⟩
          · rw [h2] at hb; simp only [Option.some.injEq] at hb; subst hb
            obtain ⟨C, ty, fr, e⟩ := h3; cases e
          · rw [h2] at hb; cases hb
          · rw [h2] at hb
            obtain ⟨o, _, e⟩ := Option.map_eq_some_iff.1 hb
            cases e
        rintro e a' w' ⟨g', σ', hK', S', hkp⟩
        have fin : finM P fn xs K σ' → LeavesInM (FR none) 0 P fn a'.tmps (MutPost P h base w xs vs K) a'.defers .returning w' := by
          intro hf
          obtain ⟨Ds, h1, h2, h3, h4⟩ := S'.dfr
          refine leavesM h0b Ds g' a' w' h1 h2 h3 h4 S' fun g2 a2 w2 ht S2 => ?_
          unfold finM at hf
          split at hf
          · rename_i l u hl
            split at hf
            · rename_i ys ls ho
              split at hf
              · rename_i hnl
                obtain ⟨v, hu, hrun, hres⟩ := resultsU_run S2 hl
                obtain ⟨h3', S3, F⟩ := S2.freeze hu
                have hle3 : ∀ p x, Rep h p x → Rep h3' p x := fun p x hr => (pinned_rep (K := xsK w xs vs) (w := w) hr).mono S3.le0
                have hkeep : ∀ t u, vs[t]? = some u → t ∈ xBox 0 xs → a2.tmps.getD t undef = u := fun t u hu hb => by
                  rw [ht, hkp.1 t (fun hd => by
                    have := List.all_eq_true.1 hdisj t hb
                    simp at this; exact this hd)]
                  have hlt := (List.getElem?_eq_some_iff.1 hu).1
                  rw [Array.getD_eq_getD_getElem?, Array.getElem?_append_left (by simpa using hlt)]
                  simp [hu]
                obtain ⟨o1, o2, o3⟩ := xOut_R S3 (slfEnd_R S3 hvs hbx hsv hkeep) (w1 := w) hle3 ho hvs (fun t u hu hb => by
                  rw [Nat.zero_add] at hb ⊢
                  exact hkeep t u hu hb)
                let h' : Fz := fun b => match h3' b with | some (.pin _) => h b | x => x
                have hnp : ∀ b o, h3' b = some o → (∀ x, o ≠ .pin x) → h' b = some o := fun b o hb hx => by
                  show (match h3' b with | some (.pin _) => h b | x => x) = some o
                  rw [hb]
                  cases o with
                  | pin x => exact (hx x rfl).elim
                  | _ => rfl
                have hpn : ∀ b x, h3' b = some (.pin x) → h' b = h b := fun b x hb => by
                  show (match h3' b with | some (.pin _) => h b | x => x) = h b
                  rw [hb]
                have hnn : ∀ b, h3' b = none → h' b = none := fun b hb => by
                  show (match h3' b with | some (.pin _) => h b | x => x) = none
                  rw [hb]
                have hrep : ∀ p x, Rep h3' p x → Rep h' p x := fun p x hr => hr.mono' fun b o hb ho => hnp b o hb fun x e => by
                  subst e; obtain ⟨C, ty, fr, e⟩ := ho; cases e
                have hpin : ∀ b y, pinned h (xsK w xs vs) w b = some y → h3' b = some y := fun b y hb => S3.le0 b y hb
                have hlt : ∀ b, b < w.heap.size → ∃ o, w.heap[b]? = some o := fun b hb => ⟨_, Array.getElem?_eq_getElem hb⟩
                have hnd := nodupN_nodup hnl
                refine ⟨v, hrun, h', v, l, ys, hf, rfl, resR_rep hrep (hres h3' F), o1.mono fun _ _ => xaR_rep hrep, by rw [o2]; exact given_nodup S3 hnd, fun b hb => ?_, fun b x hb => ?_, fun b x hb => ?_, fun b x hb => ?_, ⟨S3.below.os, S3.below.tape, S3.below.output, S3.below.size, S3.below.drawn, fun k hk hkK => ?_⟩⟩
                · rw [o2] at hb
                  obtain ⟨L, hL, hb⟩ := List.mem_flatMap.1 hb
                  unfold kB at hb
                  split at hb
                  · rename_i o' ho'
                    have hob : base ≤ b ∧ h3' b = none := S3.own L o' b ho' (kO_obk hb)
                    refine ⟨?_, hnn b hob.2⟩
                    by_cases hbs : b < w.heap.size
                    · refine .inl ?_
                      rcases pinned_cases (h := h) (K := xsK w xs vs) (w := w) b with ⟨o, _, h2, _⟩ | ⟨h2, _⟩ | ⟨_, h2⟩
                      · have := hpin b _ h2; rw [hob.2] at this; cases this
                      · exact h2
                      · obtain ⟨o, ho⟩ := hlt b hbs
                        rw [ho] at h2
                        have := hpin b _ h2; rw [hob.2] at this; cases this
                    · exact .inr (by omega)
                  · simp at hb
                · rcases pinned_cases (h := h) (K := xsK w xs vs) (w := w) b with ⟨o, h1, h2, h3⟩ | ⟨h2, _⟩ | ⟨_, h2⟩
                  · rw [h1] at hb; simp only [Option.some.injEq] at hb; subst hb
                    exact hnp b _ (hpin b _ h2) fun x e => by subst e; obtain ⟨C, ty, fr, e⟩ := h3; cases e
                  · rw [(hK b h2).2] at hb; cases hb
                  · obtain ⟨o, ho⟩ := hlt b (hw.lt hb)
                    rw [ho] at h2
                    rw [hpn b _ (hpin b _ h2)]; exact hb
                · cases h3b : h3' b with
                  | none => rw [hnn b h3b] at hb; cases hb
                  | some y =>
                    by_cases hy : ∃ o, y = .pin o
                    · obtain ⟨o, rfl⟩ := hy
                      rw [hpn b _ h3b] at hb
                      rcases pinned_cases (h := h) (K := xsK w xs vs) (w := w) b with ⟨o', h1, h2, h3⟩ | ⟨h2, _⟩ | ⟨_, h2⟩
                      · have := hpin b _ h2
                        rw [h3b] at this; simp only [Option.some.injEq] at this; subst this
                        obtain ⟨C, ty, fr, e⟩ := h3; cases e
                      · rw [(hK b h2).2] at hb; cases hb
                      · obtain ⟨o1, ho1, hx1⟩ := hw b x hb
                        rw [ho1] at h2
                        have := hpin b _ h2
                        rw [h3b] at this; simp only [Option.some.injEq, FzO.pin.injEq] at this; subst this
                        obtain ⟨o2, ho2, hx2⟩ := S3.hw b _ h3b
                        simp only [FzO.ok] at hx2; subst hx2
                        exact ⟨_, ho2, hx1⟩
                    · rw [hnp b y h3b fun x e => hy ⟨x, e⟩] at hb
                      simp only [Option.some.injEq] at hb; subst hb
                      exact S3.hw b _ h3b
                · cases h3b : h3' b with
                  | none => rw [hnn b h3b] at hb; cases hb
                  | some y =>
                    by_cases hy : ∃ o, y = .pin o
                    · obtain ⟨o, rfl⟩ := hy
                      rw [hpn b _ h3b] at hb
                      exact .inl hb
                    · rw [hnp b y h3b fun x e => hy ⟨x, e⟩] at hb
                      simp only [Option.some.injEq] at hb; subst hb
                      by_cases hbs : b < w.heap.size
                      · rcases pinned_cases (h := h) (K := xsK w xs vs) (w := w) b with ⟨o', h1, h2, h3⟩ | ⟨h2, _⟩ | ⟨_, h2⟩
                        · have := hpin b _ h2
                          rw [h3b] at this; simp only [Option.some.injEq] at this; subst this
                          exact .inl h1
                        · exact .inr (.inr h2)
                        · obtain ⟨o, ho⟩ := hlt b hbs
                          rw [ho] at h2
                          have := hpin b _ h2
                          rw [h3b] at this; simp only [Option.some.injEq] at this
                          exact (hy ⟨_, this⟩).elim
                      · exact .inr (.inl (by omega))
                · rcases pinned_cases (h := h) (K := xsK w xs vs) (w := w) k with ⟨o', h1, h2, h3⟩ | ⟨h2, _⟩ | ⟨_, h2⟩
                  · obtain ⟨C, ty, fr, rfl⟩ := h3
                    rw [S3.hw.fz (hpin k _ h2), hw.fz h1]
                  · exact (hkK h2).elim
                  · obtain ⟨o, ho⟩ := hlt k hk
                    rw [ho] at h2 ⊢
                    obtain ⟨o2, ho2, hx2⟩ := S3.hw k _ (hpin k _ h2)
                    simp only [FzO.ok] at hx2; subst hx2
                    exact ho2
              · exact hf.elim
            · exact hf.elim
          · exact hf.elim
        cases e with
        | normal => exact fin hK'
        | ret => exact fin hK'
        | exit id => exact hK'.elim
        | goto l => exact hK'.elim
        | panic ch => exact hK'.elim
        | outgrown => exact hK'.elim
      · exact hv.elim
    · exact hv.elim
  · exact hv.elim
theorem mut_of_vc {G : Ctrs} (hok : OkAll P G) {f : FuncId} {C : MK} (hc : Callable P f)
    (h : ∀ xs rs ys, (C xs).o = some (rs, ys) → ∃ vv ann, vcMut P { G with vv := vv } ann f xs fun l zs => l = rs ∧ zs = ys) : MutOk P f C := by
  intro _ xs ys rs hC w h0 base vs hvs hsv hn hK hw hB
  obtain ⟨vv, ann, hv⟩ := h xs rs ys hC
  refine ⟨hc, (mut_run (G := { G with vv := vv }) ⟨hok.mt, hok.fn, hok.own, hok.it, hok.cmp⟩ hv hvs hn hK hw hB hsv).mono ?_⟩
  rintro e w' ⟨h', v, rs', ys', ⟨rfl, rfl⟩, r⟩
  exact ⟨h', v, r⟩
end
end Go.Pm
namespace Go.Pm

section
variable {ρ τ : Type}
theorem Cps.ext {c d : Cps ρ} (h : ∀ {A : Type} (k : ρ → Option A), c.T k = d.T k) : c = d := by
  obtain ⟨T, n⟩ := c
  obtain ⟨T', n'⟩ := d
  have : @T = @T' := by funext A k; exact h k
  subst this; rfl
def Cps.bind (c : Cps ρ) (f : ρ → Cps τ) : Cps τ := ⟨fun k => c.T fun r => (f r).T k, fun k => by
  rw [c.nat, c.nat fun r => (f r).T some]
  cases c.T some with
  | none => rfl
  | some r => exact (f r).nat k⟩
def Cps.mp (f : ρ → τ) (c : Cps ρ) : Cps τ := ⟨fun k => c.T fun r => k (f r), fun k => by
  rw [c.nat, c.nat fun r => some (f r)]
  cases c.T some <;> rfl⟩
def Cps.chk (b : Bool) (c : Cps ρ) : Cps ρ := ⟨fun k => match b with | true => c.T k | false => none, fun k => by
  cases b with
  | true => exact c.nat k
  | false => rfl⟩
def Cps.ite (b : Bool) (c d : Cps ρ) : Cps ρ := ⟨fun k => cond b (c.T k) (d.T k), fun k => by
  cases b with
  | true => exact c.nat k
  | false => exact d.nat k⟩
def Cps.opt : Option ρ → Cps ρ
  | some r => .ok r
  | none => .no
theorem Cps.bind_o {c : Cps ρ} {f : ρ → Cps τ} {y : τ} (h : (c.bind f).o = some y) : ∃ r, c.o = some r ∧ (f r).o = some y := by
  have h : c.T (fun r => (f r).T some) = some y := h
  rw [c.nat] at h
  cases e : c.T some with
  | none => rw [e] at h; cases h
  | some r => rw [e] at h; exact ⟨r, e, h⟩
theorem Cps.mp_o {c : Cps ρ} {f : ρ → τ} {y : τ} (h : (c.mp f).o = some y) : ∃ r, c.o = some r ∧ f r = y := by
  have h : c.T (fun r => some (f r)) = some y := h
  rw [c.nat] at h
  cases e : c.T some with
  | none => rw [e] at h; cases h
  | some r => rw [e] at h; exact ⟨r, e, Option.some.inj h⟩
theorem Cps.chk_o {b : Bool} {c : Cps ρ} {y : ρ} (h : (Cps.chk b c).o = some y) : b = true ∧ c.o = some y := by
  cases b with
  | true => exact ⟨rfl, h⟩
  | false => cases h
theorem Cps.ok_o {x y : ρ} (h : (Cps.ok x).o = some y) : x = y := Option.some.inj h
theorem Cps.no_o {y : ρ} (h : (Cps.no : Cps ρ).o = some y) : False := by cases h
theorem Cps.opt_o {x : Option ρ} {y : ρ} (h : (Cps.opt x).o = some y) : x = some y := by
  cases x with
  | none => cases h
  | some x => rw [Cps.ok_o h]
end

structure Pend where
  ρ : Type
  c : Cps ρ
  f : ρ → OpAct

section
variable (P : Program) (Γ : Ctrs)

def mutP (C : MK) (sf : SlfS) (args : List DV) (ob : Nat → Option AO) : Option Pend :=
  match xasOf sf ob args with
  | some (xs, ls, ms) => some ⟨_, C xs, fun (rs, ys) => match xaPut ob args ys with
      | some u => match nodupN ls && Nat.ble ms.length 1 && ms.all fun M => ((u.filter fun x => !isClo x.2).map (·.1)).contains M with
        | true => .val (wr ((u.filter fun x => !isClo x.2).map (·.1)) ++ rd (args.flatMap (deepLab ob))) (resD rs) (u.filter fun x => !isClo x.2) ms
        | false => .no
      | none => .no⟩
  | none => none
def mkvP (o : Oper) (e s b : Nat) (F : List PA → Cps (Nat × (Nat → List PV) × List PV)) (args : List DV) (ob : Nat → Option AO) : Option Pend :=
  match frzDs ob args, o.dst with
  | some (az, u), some dst => some ⟨_, F az, fun (n, get, rs) => match ob dst, P.info? e, zeroT P e with
    | none, some ie, some _ => if ie.size = s ∧ ie.bytes = b ∧ 0 < s ∧ lentB get u = true ∧ rs.all scalP = true then
          .val ((dst, true) :: rd (args.flatMap (deepLab ob)))
            (match rs with | [] => .cl (.vec dst) | _ => .tup (.c (.vec dst) :: rs.map fun v => .c (.p v))) [(dst, .vec e s b n get)] []
        else .no
    | _, _, _ => .no⟩
  | _, _ => none
def pendO (o : Oper) (ev : Operand → DV) (ob : Nat → Option AO) : Option Pend :=
  match o.op with
  | .call { callee := .value f, args, argTypes := _ } => match ev f with
    | .one (.c (.clo g caps)) => match Γ.mt g with
      | some C => mutP C (slfS g args.size caps) (args.toList.map ev ++ caps.map capD) ob
      | none => none
    | .one (.c (.p (.fn g first caps))) => match Γ.mt g with
     | some C => mutP C none (first.map (fun v => .p v) ++ args.toList.map ev ++ caps.map (fun v => .p v)) ob
     | none => match Γ.own g with
       | .none => match frzDs ob (args.toList.map ev) with
         | some (az, u) => some ⟨_, Γ.fn g (first.map .one ++ az ++ caps.map .one), fun r => callAct (args.toList.flatMap fun x => deepLab ob (ev x)) u r⟩
         | none => none
       | .mkv e s b F => match first, caps with
         | [], [] => mkvP P o e s b F (args.toList.map ev) ob
         | _, _ => none
       | _ => none
    | .one (.c (.p (.fna g cells))) => match frzDs ob (args.toList.map ev) with
      | some (az, u) => some ⟨_, Γ.fn g (.agg cells :: az), fun r => callAct (args.toList.flatMap fun x => deepLab ob (ev x)) u r⟩
      | none => none
    | _ => none
  | _ => none

def actS (A : OpAct) (lg : List (Nat × Bool) → List Nat → List (Nat × Nat × Nat)) (i : Nat) (dst : Option Nat) (σ : St) : Cps St :=
  match A with
  | .no => .no
  | .val fp d u kl => .ok ((σ.upd i dst fp d u kl).relog (lg fp kl))
  | .chk fp s d u kl => .chk s.b (.ok ((σ.upd i dst fp d u kl).relog (lg fp kl)))
def actC (o : Oper) (lg : List (Nat × Bool) → List Nat → List (Nat × Nat × Nat)) (i : Nat) (σ : St) : Cps St :=
  match pendO P Γ o (evO σ.env) (lk σ.objs) with
  | some p => p.c.bind fun r => actS (p.f r) lg i o.dst σ
  | none => actS (act P Γ o (evO σ.env) (lk σ.objs)) lg i o.dst σ

def opsC (nt : Nat) (ops : Array Oper) : Nat → List Oper → St → Cps St
  | _, [], σ => .ok σ
  | i, o :: r, σ =>
    match okDst nt o.dst with
    | false => .no
    | true =>
    match o.guard with
    | none => (actC P Γ o (mkLog σ i o) i σ).bind (opsC nt ops (i + 1) r)
    | some (j, want) =>
      match (ops[j]?).bind (·.dst) with
      | none => .no
      | some g =>
        match lk σ.env g with
        | some (.one (.c (.p (.bool b)))) =>
          .ite b
            (match want with
              | true => (actC P Γ o (mkLog (σ.setT g (.bool true)) i o) i (σ.setT g (.bool true))).bind (opsC nt ops (i + 1) r)
              | false => opsC nt ops (i + 1) r ((σ.setT g (.bool true)).skip o.dst))
            (match want with
              | true => opsC nt ops (i + 1) r ((σ.setT g (.bool false)).skip o.dst)
              | false => (actC P Γ o (mkLog (σ.setT g (.bool false)) i o) i (σ.setT g (.bool false))).bind (opsC nt ops (i + 1) r))
        | some (.one (.c .undef)) => opsC nt ops (i + 1) r (σ.skip o.dst)
        | _ => .no

def regC (ann : Ann) (id : Nat) (ops : Array Oper) (draw : Bool) (σ : St) : Cps St :=
  match draw with
  | false => (opsC P Γ ann.nt ops 0 ops.toList { σ with log := [] }).bind fun σ' => match lk ann.reg id with
      | some k => .opt (canon P k σ')
      | none => .ok σ'
  | true => match P.follows .mixedOrders && lowOk ops && tmpsOk ops (masks ops.toList []) with
    | true => (opsC P Γ ann.nt ops 0 ops.toList { σ with log := [] }).bind fun σ' => match logOk (masks ops.toList []) σ'.log with
      | true => match lk ann.reg id with
        | some k => .opt (canon P k σ')
        | none => .no
      | false => .no
    | false => .no

def cutC (ann : Ann) (r : Nat) (σ : St) : Cps St :=
  match lk ann.cut r with
  | some k => .opt (canon P k σ)
  | none => .ok σ

def lpC (k : Keep) (step : St → Cps (Exit × St)) : Nat → St → Cps (Exit × St)
  | 0, _ => .no
  | n + 1, s => (step s).bind fun (e, s1) => match e with
    | .normal => (Cps.opt (canon P k s1)).bind (lpC k step n)
    | e => .ok (e, s1)
def unC (k : Keep) (step : St → Cps (Exit × St)) : Nat → St → Cps (Exit × St)
  | 0, _ => .no
  | n + 1, σ => (Cps.opt (canon P k σ)).bind fun s => (step s).bind fun (e, s1) => match e with
    | .normal => unC k step n s1
    | e => .ok (e, s1)
def rgC (k : Keep) (ps : List Nat) (ah bd : St → Cps (Exit × St)) : List (List PA) → St → Cps (Exit × St)
  | [], s => .ok (.normal, s)
  | y :: rest, s => match psEnv ps y s.env with
    | some env => (ah ⟨env, s.objs, []⟩).bind fun (e, s1) => match e with
      | .normal => (bd s1).bind fun (e, s2) => match e with
        | .normal => (Cps.opt (canon P k s2)).bind (rgC k ps ah bd rest)
        | .ret => (Cps.opt (canon P k s2)).mp fun s => (.ret, s)
        | .exit id => (Cps.opt (canon P k s2)).mp fun s => (.exit id, s)
        | _ => .no
      | _ => .no
    | none => .no
def sqC (go : St → Cps (Exit × St)) : Exit × St → Cps (Exit × St)
  | (.normal, s) => go s
  | r => .ok r
def bkC (id : Nat) : Exit × St → Exit × St
  | (.exit i, s) => match Nat.beq i id with | true => (.normal, s) | false => (.exit i, s)
  | r => r
def scC : Exit × St → Cps (Exit × St)
  | (.goto _, _) => .no
  | r => .ok r

variable (N : Nat)
def vcC (ann : Ann) : Code → St → Cps (Exit × St)
  | .skip, σ => .ok (.normal, σ)
  | .region id ops draw, σ => (regC P Γ ann id ops draw σ).mp fun s => (.normal, s)
  | .seq a b, σ => (vcC ann a σ).bind (sqC fun s => (cutC P ann (hdId b) s).bind (vcC ann b))
  | .cond c a b, σ => match evO σ.env c with
    | .one (.c (.p (.bool t))) => .ite t (vcC ann a (setOp σ c true)) (vcC ann b (setOp σ c false))
    | _ => .no
  | .block id b, σ => (vcC ann b σ).mp (bkC id)
  | .loop b, σ => match lk ann.head (hdId b) with
    | some k => (Cps.opt (canon P k σ)).bind (lpC P k (vcC ann b) N)
    | none => match lk ann.unr (hdId b) with
      | some (n, k) => unC P k (vcC ann b) n σ
      | none => .no
  | .rangeFunc f ps assign body, σ => match lk ann.head (rfId assign body) with
    | some k => match canon P k σ, disj k.tmps (ps.toList ++ (dstC assign ++ dstC body)) && ps.toList.all (fun p => Nat.blt p ann.nt) with
      | some s, true => match evO s.env f with
        | .one (.c (.p (.fn gf [] caps))) => (Γ.it gf (caps.map .one)).bind fun ys => rgC P k ps.toList (vcC ann assign) (vcC ann body) ys s
        | _ => .no
      | _, _ => .no
    | none => .no
  | .exit id, σ => .ok (.exit id, σ)
  | .scope b, σ => (vcC ann b σ).bind scC
  | .label _, σ => .ok (.normal, σ)
  | .ret, σ => .ok (.ret, σ)
  | _, _ => .no
end

section
variable {P : Program} {Γ : Ctrs}

theorem mutP_ok {C : MK} {sf : SlfS} {args : List DV} {ob : Nat → Option AO} {p : Pend} {r : p.ρ} (h : mutP C sf args ob = some p) (hr : p.c.o = some r) : mutAct C sf args ob = p.f r := by
  unfold mutP at h
  unfold mutAct
  split at h
  · rename_i xs ls ms hx
    cases h
    obtain ⟨rs, ys⟩ := r
    simp only at hr ⊢
    rw [hx]
    simp only [hr]
    cases xaPut ob args ys with
    | none => rfl
    | some u => rfl
  · cases h
theorem mkvP_ok {o : Oper} {e s b : Nat} {F : List PA → Cps (Nat × (Nat → List PV) × List PV)} {args : List DV} {ob : Nat → Option AO} {p : Pend} {r : p.ρ} (h : mkvP P o e s b F args ob = some p) (hr : p.c.o = some r) :
    ownAct P Γ o (.mkv e s b F) args ob = p.f r := by
  unfold mkvP at h
  unfold ownAct
  split at h
  · rename_i az u dst hx hd
    cases h
    obtain ⟨n, get, rs⟩ := r
    simp only at hr ⊢
    rw [hx, hd]
    simp only [hr]
    cases ob dst <;> cases P.info? e <;> cases zeroT P e <;> rfl
  · cases h
theorem pend_ok {o : Oper} {ev : Operand → DV} {ob : Nat → Option AO} {p : Pend} {r : p.ρ} (h : pendO P Γ o ev ob = some p) (hr : p.c.o = some r) : act P Γ o ev ob = p.f r := by
  unfold pendO at h
  split at h
  · rename_i f args ats hop
    simp only [act, hop, aCl]
    split at h
    · rename_i g caps hf
      simp only [hf]
      split at h
      · rename_i C hC; simp only [hC]; exact mutP_ok h hr
      · cases h
    · rename_i g first caps hf
      simp only [hf]
      split at h
      · rename_i C hC; simp only [hC]; exact mutP_ok h hr
      · rename_i hC
        simp only [hC]
        split at h
        · rename_i hk
          simp only [hk, OwnK.on]
          split at h
          · rename_i az u hz
            cases h
            simp only at hr ⊢
            rw [hz]
            simp only [hr]
          · cases h
        · rename_i e s b F hk
          simp only [hk, OwnK.on]
          split at h
          · exact mkvP_ok h hr
          · cases h
        · cases h
    · rename_i g cells hf
      simp only [hf]
      split at h
      · rename_i az u hz
        cases h
        simp only at hr ⊢
        rw [hz]
        simp only [hr]
      · cases h
    · cases h
  · cases h

theorem actS_ok {A : OpAct} {lg : List (Nat × Bool) → List Nat → List (Nat × Nat × Nat)} {i : Nat} {dst : Option Nat} {σ s : St} {K : St → Prop} (h : (actS A lg i dst σ).o = some s) (hK : K s) : vcAct A lg i dst K σ := by
  cases A with
  | no => exact (Cps.no_o h).elim
  | val fp d u kl => have := Cps.ok_o h; subst this; exact hK
  | chk fp c d u kl =>
    obtain ⟨h1, h2⟩ := Cps.chk_o h
    have := Cps.ok_o h2; subst this; exact ⟨c.h h1, hK⟩
theorem actC_ok {o : Oper} {lg : List (Nat × Bool) → List Nat → List (Nat × Nat × Nat)} {i : Nat} {σ s : St} {K : St → Prop} (h : (actC P Γ o lg i σ).o = some s) (hK : K s) : vcAct (act P Γ o (evO σ.env) (lk σ.objs)) lg i o.dst K σ := by
  unfold actC at h
  split at h
  · rename_i p hp
    obtain ⟨r, h1, h2⟩ := Cps.bind_o h
    rw [pend_ok hp h1]; exact actS_ok h2 hK
  · exact actS_ok h hK

theorem opsC_ok {nt : Nat} {ops : Array Oper} {K : St → Prop} : ∀ (l : List Oper) (i : Nat) (σ s : St), (opsC P Γ nt ops i l σ).o = some s → K s → vcOps P Γ nt ops i l K σ
  | [], i, σ, s, h, hK => by have := Cps.ok_o h; subst this; exact hK
  | o :: r, i, σ, s, h, hK => by
    have one : ∀ (lg : List (Nat × Bool) → List Nat → List (Nat × Nat × Nat)) (τ : St), ((actC P Γ o lg i τ).bind (opsC P Γ nt ops (i + 1) r)).o = some s → vcAct (act P Γ o (evO τ.env) (lk τ.objs)) lg i o.dst (vcOps P Γ nt ops (i + 1) r K) τ := by
      intro lg τ h
      obtain ⟨s1, h1, h2⟩ := Cps.bind_o h
      exact actC_ok h1 (opsC_ok r _ _ _ h2 hK)
    simp only [opsC] at h
    simp only [vcOps]
    split at h
    · exact (Cps.no_o h).elim
    · rename_i hd
      simp only [hd]
      split at h
      · rename_i hg; simp only [hg]; exact one _ _ h
      · rename_i j want hg
        simp only [hg]
        split at h
        · exact (Cps.no_o h).elim
        · rename_i g hg2
          simp only [hg2]
          split at h
          · rename_i b hb
            simp only [hb]
            refine condP_mk (fun e => ?_) fun e => ?_
            · subst e
              cases want with
              | true => exact one _ _ h
              | false => exact opsC_ok r _ _ _ h hK
            · subst e
              cases want with
              | true => exact opsC_ok r _ _ _ h hK
              | false => exact one _ _ h
          · rename_i hb; simp only [hb]; exact opsC_ok r _ _ _ h hK
          · exact (Cps.no_o h).elim

theorem regC_ok {ann : Ann} {id : Nat} {ops : Array Oper} {draw : Bool} {σ s : St} {K : St → Prop} (h : (regC P Γ ann id ops draw σ).o = some s) (hK : K s) : vcReg P Γ ann id ops draw K σ := by
  unfold regC at h
  unfold vcReg
  cases draw with
  | false =>
    obtain ⟨s1, h1, h2⟩ := Cps.bind_o h
    refine opsC_ok _ _ _ _ h1 ?_
    split at h2
    · rename_i k hk; rw [hk]; simp only [Cps.opt_o h2]; exact hK
    · rename_i hk; rw [hk]; have := Cps.ok_o h2; subst this; exact hK
  | true =>
    simp only at h ⊢
    split at h
    · rename_i hc
      rw [hc]
      obtain ⟨s1, h1, h2⟩ := Cps.bind_o h
      refine opsC_ok _ _ _ _ h1 ?_
      split at h2
      · rename_i hl
        rw [hl]
        split at h2
        · rename_i k hk; rw [hk]; simp only [Cps.opt_o h2]; exact hK
        · exact (Cps.no_o h2).elim
      · exact (Cps.no_o h2).elim
    · exact (Cps.no_o h).elim

theorem cutC_ok {ann : Ann} {r : Nat} {σ s : St} {K : St → Prop} (h : (cutC P ann r σ).o = some s) (hK : K s) : cutK P ann r K σ := by
  unfold cutC at h
  unfold cutK
  split at h
  · rename_i k hk; rw [hk]; simp only [Cps.opt_o h]; exact hK
  · rename_i hk; rw [hk]; have := Cps.ok_o h; subst this; exact hK

theorem vcC_ok {N : Nat} {ann : Ann} : ∀ (c : Code) (σ s : St) (e : Exit) (K : Exit → St → Prop), (vcC P Γ N ann c σ).o = some (e, s) → K e s → vc P Γ ann c K σ := by
  intro c
  induction c with
  | skip => intro σ s e K h hK; cases Cps.ok_o h; exact hK
  | region id ops draw =>
    intro σ s e K h hK
    obtain ⟨s1, h1, h2⟩ := Cps.mp_o h
    cases h2
    exact regC_ok h1 hK
  | seq a b iha ihb =>
    intro σ s e K h hK
    obtain ⟨⟨e1, s1⟩, h1, h2⟩ := Cps.bind_o h
    refine iha σ s1 e1 _ h1 ?_
    cases e1 with
    | normal =>
      obtain ⟨s2, h3, h4⟩ := Cps.bind_o h2
      exact cutC_ok h3 (ihb _ _ _ _ h4 hK)
    | _ => cases Cps.ok_o h2; exact hK
  | cond c a b iha ihb =>
    intro σ s e K h hK
    simp only [vcC] at h
    simp only [vc]
    split at h
    · rename_i t ht
      simp only [ht]
      refine condP_mk (fun e1 => ?_) fun e1 => ?_
      · subst e1; exact iha _ _ _ _ h hK
      · subst e1; exact ihb _ _ _ _ h hK
    · exact (Cps.no_o h).elim
  | block id b ih =>
    intro σ s e K h hK
    obtain ⟨⟨e1, s1⟩, h1, h2⟩ := Cps.mp_o h
    refine ih σ s1 e1 _ h1 ?_
    cases e1 with
    | exit j =>
      simp only [bkC] at h2
      simp only [blockK]
      split at h2
      · rename_i hj; rw [hj]; cases h2; exact hK
      · rename_i hj; rw [hj]; cases h2; exact hK
    | _ => cases h2; exact hK
  | loop b ih =>
    intro σ s e K h hK
    simp only [vcC] at h
    simp only [vc]
    split at h
    · rename_i k hk
      obtain ⟨s1, h1, h2⟩ := Cps.bind_o h
      simp only [hk, Cps.opt_o h1]
      intro X hX
      have key : ∀ (n : Nat) (s1 : St), (lpC P k (vcC P Γ N ann b) n s1).o = some (e, s) → X s1 := by
        intro n
        induction n with
        | zero => intro s1 h; exact (Cps.no_o h).elim
        | succ n ihn =>
          intro s1 h
          obtain ⟨⟨e1, s2⟩, h1, h2⟩ := Cps.bind_o h
          refine hX s1 (ih _ _ _ _ h1 ?_)
          cases e1 with
          | normal =>
            obtain ⟨s3, h3, h4⟩ := Cps.bind_o h2
            simp only [loopK, hk, Cps.opt_o h3]
            exact ihn s3 h4
          | _ => cases Cps.ok_o h2; exact hK
      exact key N s1 h2
    · rename_i hk
      split at h
      · rename_i n k hn
        simp only [hk, hn]
        have key : ∀ (n : Nat) (σ : St), (unC P k (vcC P Γ N ann b) n σ).o = some (e, s) → vcUn P k (vc P Γ ann b) n K σ := by
          intro n
          induction n with
          | zero => intro s1 h; exact (Cps.no_o h).elim
          | succ n ihn =>
            intro s1 h
            obtain ⟨s0, h0, h⟩ := Cps.bind_o h
            obtain ⟨⟨e1, s2⟩, h1, h2⟩ := Cps.bind_o h
            simp only [vcUn, Cps.opt_o h0]
            refine ih _ _ _ _ h1 ?_
            cases e1 with
            | normal => exact ihn _ h2
            | _ => cases Cps.ok_o h2; exact hK
        exact key n σ h
      · exact (Cps.no_o h).elim
  | rangeFunc f ps ah bd iha ihb =>
    intro σ s e K h hK
    simp only [vcC] at h
    simp only [vc]
    split at h
    · rename_i k hk
      split at h
      · rename_i s1 hs hd
        simp only [hk, hs, hd]
        split at h
        · rename_i gf caps hf
          obtain ⟨ys, h1, h2⟩ := Cps.bind_o h
          simp only [hf, h1]
          intro X hX0 hX1
          have key : ∀ (ys : List (List PA)) (s1 : St), (rgC P k ps.toList (vcC P Γ N ann ah) (vcC P Γ N ann bd) ys s1).o = some (e, s) → X ys s1 := by
            intro ys
            induction ys with
            | nil => intro s1 h; cases Cps.ok_o h; exact hX0 _ hK
            | cons y rest ihr =>
              intro s1 h
              simp only [rgC] at h
              refine hX1 y rest s1 ?_
              split at h
              · rename_i env henv
                simp only [henv]
                obtain ⟨⟨e1, s2⟩, h1, h2⟩ := Cps.bind_o h
                refine iha _ _ _ _ h1 ?_
                cases e1 with
                | normal =>
                  obtain ⟨⟨e2, s3⟩, h3, h4⟩ := Cps.bind_o h2
                  refine ihb _ _ _ _ h3 ?_
                  cases e2 with
                  | normal =>
                    obtain ⟨s4, h5, h6⟩ := Cps.bind_o h4
                    simp only [roundK, Cps.opt_o h5]
                    exact ihr _ h6
                  | ret =>
                    obtain ⟨s4, h5, h6⟩ := Cps.mp_o h4
                    cases h6
                    simp only [roundK, Cps.opt_o h5]; exact hK
                  | exit id =>
                    obtain ⟨s4, h5, h6⟩ := Cps.mp_o h4
                    cases h6
                    simp only [roundK, Cps.opt_o h5]; exact hK
                  | _ => exact (Cps.no_o h4).elim
                | _ => exact (Cps.no_o h2).elim
              · exact (Cps.no_o h).elim
          exact key ys s1 h2
        · exact (Cps.no_o h).elim
      · exact (Cps.no_o h).elim
    · exact (Cps.no_o h).elim
  | exit id => intro σ s e K h hK; cases Cps.ok_o h; exact hK
  | scope b ih =>
    intro σ s e K h hK
    obtain ⟨⟨e1, s1⟩, h1, h2⟩ := Cps.bind_o h
    refine ih σ s1 e1 _ h1 ?_
    cases e1 with
    | goto l => exact (Cps.no_o h2).elim
    | _ => cases Cps.ok_o h2; exact hK
  | label l => intro σ s e K h hK; cases Cps.ok_o h; exact hK
  | ret => intro σ s e K h hK; cases Cps.ok_o h; exact hK
  | goto l => intro σ s e K h hK; exact (Cps.no_o h).elim
  | refuse s => intro σ s e K h hK; exact (Cps.no_o h).elim
end
end Go.Pm
namespace Go.Pm

section
variable (P : Program) (Γ : Ctrs) {A : Type}
def chkT (b : Bool) (x : Option A) : Option A := match b with | true => x | false => none
def actST (a : OpAct) (lg : List (Nat × Bool) → List Nat → List (Nat × Nat × Nat)) (i : Nat) (dst : Option Nat) (K : St → Option A) (σ : St) : Option A :=
  match a with
  | .no => none
  | .val fp d u kl => K ((σ.upd i dst fp d u kl).relog (lg fp kl))
  | .chk fp s d u kl => chkT s.b (K ((σ.upd i dst fp d u kl).relog (lg fp kl)))
def actT (o : Oper) (lg : List (Nat × Bool) → List Nat → List (Nat × Nat × Nat)) (i : Nat) (K : St → Option A) (σ : St) : Option A :=
  match pendO P Γ o (evO σ.env) (lk σ.objs) with
  | some p => p.c.T fun r => actST (p.f r) lg i o.dst K σ
  | none => actST (act P Γ o (evO σ.env) (lk σ.objs)) lg i o.dst K σ
def opsT (nt : Nat) (ops : Array Oper) (K : St → Option A) : Nat → List Oper → St → Option A
  | _, [], σ => K σ
  | i, o :: r, σ =>
    match okDst nt o.dst with
    | false => none
    | true =>
    match o.guard with
    | none => actT P Γ o (mkLog σ i o) i (opsT nt ops K (i + 1) r) σ
    | some (j, want) =>
      match (ops[j]?).bind (·.dst) with
      | none => none
      | some g =>
        match lk σ.env g with
        | some (.one (.c (.p (.bool b)))) =>
          cond b
            (match want with
              | true => actT P Γ o (mkLog (σ.setT g (.bool true)) i o) i (opsT nt ops K (i + 1) r) (σ.setT g (.bool true))
              | false => opsT nt ops K (i + 1) r ((σ.setT g (.bool true)).skip o.dst))
            (match want with
              | true => opsT nt ops K (i + 1) r ((σ.setT g (.bool false)).skip o.dst)
              | false => actT P Γ o (mkLog (σ.setT g (.bool false)) i o) i (opsT nt ops K (i + 1) r) (σ.setT g (.bool false)))
        | some (.one (.c .undef)) => opsT nt ops K (i + 1) r (σ.skip o.dst)
        | _ => none
def canT (k : Keep) (K : St → Option A) (σ : St) : Option A := match canon P k σ with
  | some s => K s
  | none => none
def regE (ann : Ann) (id : Nat) (ops : Array Oper) (draw : Bool) (K : St → Option A) (σ : St) : Option A := match draw with
  | false => match lk ann.reg id with
    | some k => canT P k K σ
    | none => K σ
  | true => match logOk (masks ops.toList []) σ.log with
    | true => match lk ann.reg id with
      | some k => canT P k K σ
      | none => none
    | false => none
def regT (ann : Ann) (id : Nat) (ops : Array Oper) (draw : Bool) (K : St → Option A) (σ : St) : Option A :=
  match draw with
  | false => opsT P Γ ann.nt ops (regE P ann id ops false K) 0 ops.toList { σ with log := [] }
  | true => match P.follows .mixedOrders && lowOk ops && tmpsOk ops (masks ops.toList []) with
    | true => opsT P Γ ann.nt ops (regE P ann id ops true K) 0 ops.toList { σ with log := [] }
    | false => none
def cutT (ann : Ann) (r : Nat) (K : St → Option A) (σ : St) : Option A := match lk ann.cut r with
  | some k => canT P k K σ
  | none => K σ
abbrev EK (A : Type) := Exit → St → Option A
def bkT (id : Nat) (K : EK A) : EK A := fun e s => match e with
  | .exit i => match Nat.beq i id with | true => K .normal s | false => K (.exit i) s
  | e => K e s
def scT (K : EK A) : EK A := fun e s => match e with
  | .goto _ => none
  | e => K e s
def lpK (k : Keep) (go : St → Option A) (K : EK A) : EK A := fun e s => match e with
  | .normal => canT P k go s
  | e => K e s
def lpT (k : Keep) (step : EK A → St → Option A) (K : EK A) : Nat → St → Option A
  | 0, _ => none
  | n + 1, s => step (lpK P k (lpT k step K n) K) s
def unT (k : Keep) (step : EK A → St → Option A) (K : EK A) : Nat → St → Option A
  | 0, _ => none
  | n + 1, σ => canT P k (step fun e s => match e with
    | .normal => unT k step K n s
    | e => K e s) σ
def rgK (k : Keep) (go : St → Option A) (K : EK A) : EK A := fun e s => match e with
  | .normal => canT P k go s
  | .ret => canT P k (K .ret) s
  | .exit id => canT P k (K (.exit id)) s
  | _ => none
def asK (bd : EK A → St → Option A) (K : EK A) : EK A := fun e s => match e with
  | .normal => bd K s
  | _ => none
def rgT (k : Keep) (ps : List Nat) (ah bd : EK A → St → Option A) (K : EK A) : List (List PA) → St → Option A
  | [], s => K .normal s
  | y :: rest, s => match psEnv ps y s.env with
    | some env => ah (asK bd (rgK P k (rgT k ps ah bd K rest) K)) ⟨env, s.objs, []⟩
    | none => none
def sqT (ann : Ann) (id : Nat) (go : EK A → St → Option A) (K : EK A) : EK A := fun e s => match e with
  | .normal => cutT P ann id (go K) s
  | e => K e s
variable (N : Nat)
def vcT (ann : Ann) : Code → EK A → St → Option A
  | .skip, K, σ => K .normal σ
  | .region id ops draw, K, σ => regT P Γ ann id ops draw (K .normal) σ
  | .seq a b, K, σ => vcT ann a (sqT P ann (hdId b) (vcT ann b) K) σ
  | .cond c a b, K, σ => match evO σ.env c with
    | .one (.c (.p (.bool t))) => cond t (vcT ann a K (setOp σ c true)) (vcT ann b K (setOp σ c false))
    | _ => none
  | .block id b, K, σ => vcT ann b (bkT id K) σ
  | .loop b, K, σ => match lk ann.head (hdId b) with
    | some k => canT P k (lpT P k (vcT ann b) K N) σ
    | none => match lk ann.unr (hdId b) with
      | some (n, k) => unT P k (vcT ann b) K n σ
      | none => none
  | .rangeFunc f ps assign body, K, σ => match lk ann.head (rfId assign body) with
    | some k => match canon P k σ, disj k.tmps (ps.toList ++ (dstC assign ++ dstC body)) && ps.toList.all (fun p => Nat.blt p ann.nt) with
      | some s, true => match evO s.env f with
        | .one (.c (.p (.fn gf [] caps))) => (Γ.it gf (caps.map .one)).T fun ys => rgT P k ps.toList (vcT ann assign) (vcT ann body) K ys s
        | _ => none
      | _, _ => none
    | none => none
  | .exit id, K, σ => K (.exit id) σ
  | .scope b, K, σ => vcT ann b (scT K) σ
  | .label _, K, σ => K .normal σ
  | .ret, K, σ => K .ret σ
  | _, _, _ => none
end

section
variable {P : Program} {Γ : Ctrs} {A : Type} {N : Nat}
theorem actT_eq {o : Oper} {lg : List (Nat × Bool) → List Nat → List (Nat × Nat × Nat)} {i : Nat} {K : St → Option A} {σ : St} : actT P Γ o lg i K σ = (actC P Γ o lg i σ).T K := by
  have key : ∀ a : OpAct, actST a lg i o.dst K σ = (actS a lg i o.dst σ).T K := by
    intro a
    cases a with
    | no => rfl
    | val => rfl
    | chk fp s d u kl => unfold actST actS chkT; cases hs : s.b <;> simp only [hs, Cps.chk, Cps.ok]
  unfold actT actC
  cases pendO P Γ o (evO σ.env) (lk σ.objs) with
  | none => exact key _
  | some p =>
    show p.c.T _ = p.c.T _
    congr 1; funext r; exact key _
theorem opsT_eq {nt : Nat} {ops : Array Oper} {K : St → Option A} : ∀ (l : List Oper) (i : Nat) (σ : St), opsT P Γ nt ops K i l σ = (opsC P Γ nt ops i l σ).T K
  | [], _, _ => rfl
  | o :: r, i, σ => by
    have one : ∀ (lg : List (Nat × Bool) → List Nat → List (Nat × Nat × Nat)) (τ : St), actT P Γ o lg i (opsT P Γ nt ops K (i + 1) r) τ = ((actC P Γ o lg i τ).bind (opsC P Γ nt ops (i + 1) r)).T K := fun lg τ => by
      rw [actT_eq]
      show (actC P Γ o lg i τ).T _ = (actC P Γ o lg i τ).T _
      congr 1; funext s; exact opsT_eq r _ s
    have rest : ∀ σ : St, opsT P Γ nt ops K (i + 1) r σ = (opsC P Γ nt ops (i + 1) r σ).T K := fun σ => opsT_eq r _ σ
    simp only [opsT, opsC]
    cases okDst nt o.dst with
    | false => rfl
    | true =>
      simp only
      cases o.guard with
      | none => exact one _ _
      | some x =>
        obtain ⟨j, want⟩ := x
        simp only
        cases (ops[j]?).bind (·.dst) with
        | none => rfl
        | some g =>
          simp only
          cases lk σ.env g with
          | none => rfl
          | some d => cases d with
            | tup _ => rfl
            | one d => cases d with
              | agg _ => rfl
              | c x => cases x with
                | undef => exact rest _
                | p v => cases v with
                  | bool b => cases b <;> cases want <;> first | exact one _ _ | exact rest _
                  | _ => rfl
                | _ => rfl
theorem canT_eq {k : Keep} {K : St → Option A} {σ : St} : canT P k K σ = (Cps.opt (canon P k σ)).T K := by
  unfold canT; cases canon P k σ <;> rfl
theorem regT_eq {ann : Ann} {id : Nat} {ops : Array Oper} {draw : Bool} {K : St → Option A} {σ : St} : regT P Γ ann id ops draw K σ = (regC P Γ ann id ops draw σ).T K := by
  cases draw with
  | false =>
    show opsT P Γ ann.nt ops _ 0 ops.toList _ = (opsC P Γ ann.nt ops 0 ops.toList _).T _
    rw [opsT_eq]
    congr 1; funext s
    simp only [regE]
    cases lk ann.reg id with
    | none => rfl
    | some k => exact canT_eq
  | true =>
    simp only [regT, regC]
    cases P.follows .mixedOrders && lowOk ops && tmpsOk ops (masks ops.toList []) with
    | false => rfl
    | true =>
      simp only
      rw [opsT_eq]
      show _ = (opsC P Γ ann.nt ops 0 ops.toList _).T _
      congr 1; funext s
      show _ = ((match logOk (masks ops.toList []) s.log with | true => (match lk ann.reg id with | some k => Cps.opt (canon P k s) | none => .no) | false => .no) : Cps St).T K
      simp only [regE]
      cases logOk (masks ops.toList []) s.log with
      | false => rfl
      | true =>
        cases lk ann.reg id with
        | none => rfl
        | some k => exact canT_eq
theorem cutT_eq {ann : Ann} {r : Nat} {K : St → Option A} {σ : St} : cutT P ann r K σ = (cutC P ann r σ).T K := by
  unfold cutT cutC
  cases lk ann.cut r with
  | none => rfl
  | some k => exact canT_eq
theorem vcT_eq {ann : Ann} : ∀ (c : Code) (K : EK A) (σ : St), vcT P Γ N ann c K σ = (vcC P Γ N ann c σ).T fun r => K r.1 r.2 := by
  intro c
  induction c with
  | skip => intro K σ; rfl
  | region id ops draw => intro K σ; exact regT_eq
  | seq a b iha ihb =>
    intro K σ
    rw [vcT, iha]
    show (vcC P Γ N ann a σ).T _ = (vcC P Γ N ann a σ).T _
    congr 1; funext r
    obtain ⟨e, s⟩ := r
    cases e with
    | normal =>
      show cutT P ann (hdId b) (vcT P Γ N ann b K) s = (cutC P ann (hdId b) s).T _
      rw [cutT_eq]; congr 1; funext s; exact ihb _ _
    | _ => rfl
  | cond c a b iha ihb =>
    intro K σ
    simp only [vcT, vcC]
    cases evO σ.env c with
    | tup _ => rfl
    | one d => cases d with
      | agg _ => rfl
      | c x => cases x with
        | p v => cases v with
          | bool t => cases t with
            | true => exact iha _ _
            | false => exact ihb _ _
          | _ => rfl
        | _ => rfl
  | block id b ih =>
    intro K σ
    rw [vcT, ih]
    show (vcC P Γ N ann b σ).T _ = (vcC P Γ N ann b σ).T _
    congr 1; funext r
    obtain ⟨e, s⟩ := r
    cases e with
    | exit j => simp only [bkT, bkC]; cases Nat.beq j id <;> rfl
    | _ => rfl
  | loop b ih =>
    intro K σ
    simp only [vcT, vcC]
    cases lk ann.head (hdId b) with
    | some k =>
      simp only
      rw [canT_eq]
      show (Cps.opt (canon P k σ)).T _ = (Cps.opt (canon P k σ)).T _
      congr 1; funext s
      have key : ∀ (n : Nat) (s : St), lpT P k (vcT P Γ N ann b) K n s = (lpC P k (vcC P Γ N ann b) n s).T fun r => K r.1 r.2 := by
        intro n
        induction n with
        | zero => intro s; rfl
        | succ n ihn =>
          intro s
          rw [lpT, ih]
          show (vcC P Γ N ann b s).T _ = (vcC P Γ N ann b s).T _
          congr 1; funext r
          obtain ⟨e, s1⟩ := r
          cases e with
          | normal =>
            show canT P k _ s1 = (Cps.opt (canon P k s1)).T _
            rw [canT_eq]; congr 1; funext s; exact ihn s
          | _ => rfl
      exact key N s
    | none =>
      simp only
      cases lk ann.unr (hdId b) with
      | none => rfl
      | some x =>
        obtain ⟨n, k⟩ := x
        simp only
        have key : ∀ (n : Nat) (s : St), unT P k (vcT P Γ N ann b) K n s = (unC P k (vcC P Γ N ann b) n s).T fun r => K r.1 r.2 := by
          intro n
          induction n with
          | zero => intro s; rfl
          | succ n ihn =>
            intro s
            rw [unT, canT_eq]
            show (Cps.opt (canon P k s)).T _ = (Cps.opt (canon P k s)).T _
            congr 1; funext s
            rw [ih]
            show (vcC P Γ N ann b s).T _ = (vcC P Γ N ann b s).T _
            congr 1; funext r
            obtain ⟨e, s1⟩ := r
            cases e with
            | normal => exact ihn s1
            | _ => rfl
        exact key n σ
  | rangeFunc f ps ah bd iha ihb =>
    intro K σ
    simp only [vcT, vcC]
    cases lk ann.head (rfId ah bd) with
    | none => rfl
    | some k =>
      simp only
      have key : ∀ (ys : List (List PA)) (s : St), rgT P k ps.toList (vcT P Γ N ann ah) (vcT P Γ N ann bd) K ys s = (rgC P k ps.toList (vcC P Γ N ann ah) (vcC P Γ N ann bd) ys s).T fun r => K r.1 r.2 := by
        intro ys
        induction ys with
        | nil => intro s; rfl
        | cons y rest ihr =>
          intro s
          simp only [rgT, rgC]
          cases psEnv ps.toList y s.env with
          | none => rfl
          | some env =>
            simp only
            rw [iha]
            show (vcC P Γ N ann ah _).T _ = (vcC P Γ N ann ah _).T _
            congr 1; funext r
            obtain ⟨e, s1⟩ := r
            cases e with
            | normal =>
              show vcT P Γ N ann bd _ s1 = (vcC P Γ N ann bd s1).T _
              rw [ihb]
              congr 1; funext r
              obtain ⟨e, s2⟩ := r
              cases e with
              | normal =>
                show canT P k _ s2 = (Cps.opt (canon P k s2)).T _
                rw [canT_eq]; congr 1; funext s; exact ihr s
              | ret => exact canT_eq
              | exit id => exact canT_eq
              | _ => rfl
            | _ => rfl
      cases canon P k σ with
      | none => rfl
      | some s =>
        cases disj k.tmps (ps.toList ++ (dstC ah ++ dstC bd)) && ps.toList.all (fun p => Nat.blt p ann.nt) with
        | false => rfl
        | true =>
          simp only
          cases evO s.env f with
          | tup _ => rfl
          | one d => cases d with
            | agg _ => rfl
            | c x => cases x with
              | p v => cases v with
                | fn gf first caps => cases first with
                  | cons _ _ => rfl
                  | nil =>
                    show (Γ.it gf (caps.map .one)).T _ = (Γ.it gf (caps.map .one)).T _
                    congr 1; funext ys; exact key ys s
                | _ => rfl
              | _ => rfl
  | exit id => intro K σ; rfl
  | scope b ih =>
    intro K σ
    rw [vcT, ih]
    show (vcC P Γ N ann b σ).T _ = (vcC P Γ N ann b σ).T _
    congr 1; funext r
    obtain ⟨e, s⟩ := r
    cases e <;> rfl
  | label l => intro K σ; rfl
  | ret => intro K σ; rfl
  | goto l => intro K σ; rfl
  | refuse s => intro K σ; rfl
end
end Go.Pm
namespace Go.Pm

abbrev YO := Option (List (List PA))
section
variable (P : Program) (Γ : Ctrs)

def yT (y : List PA) (a b : YO) : YO := match a with
  | some _ => match b with
    | some r => some (y :: r)
    | none => none
  | none => none
def stepYC (nt : Nat) (o : Oper) (next : Bool → St → YO) (q : Bool) (σ : St) : YO :=
  match isYl σ o with
  | some (args, t) => match oneDs (args.toList.map (evO σ.env)), Nat.blt t nt, q with
    | some y, true, false => yT y (next true ((yForget σ).setT t (.bool false))) (next false ((yForget σ).setT t (.bool true)))
    | _, _, _ => none
  | none => match okDst nt o.dst with
    | true => actT P Γ o (fun _ _ => []) 0 (next q) σ
    | false => none
def opsYC (nt : Nat) (ops : Array Oper) : List Oper → (Bool → St → YO) → Bool → St → YO
  | [], K, q, σ => K q σ
  | o :: r, K, q, σ => match o.guard with
    | none => stepYC P Γ nt o (opsYC nt ops r K) q σ
    | some (j, want) => match okDst nt o.dst, (ops[j]?).bind (·.dst) with
      | true, some g => match lk σ.env g with
        | some (.one (.c (.p (.bool b)))) => cond b
            (match want with | true => stepYC P Γ nt o (opsYC nt ops r K) q (σ.setT g (.bool true)) | false => opsYC nt ops r K q ((σ.setT g (.bool true)).skip o.dst))
            (match want with | true => opsYC nt ops r K q ((σ.setT g (.bool false)).skip o.dst) | false => stepYC P Γ nt o (opsYC nt ops r K) q (σ.setT g (.bool false)))
        | some (.one (.c .undef)) => opsYC nt ops r K q (σ.skip o.dst)
        | _ => none
      | _, _ => none
abbrev YKC := Exit → Bool → St → YO
def canY (k : Keep) (K : St → YO) (σ : St) : YO := match canon P k σ with
  | some s => K s
  | none => none
def lkY (k : Keep) (go : Bool → St → YO) (K : YKC) : YKC := fun e q s => match e with
  | .normal => canY P k (go q) s
  | e => K e q s
def skY (ann : Ann) (id : Nat) (go : YKC → Bool → St → YO) (K : YKC) : YKC := fun e q s => match e with
  | .normal => cutT P ann id (go K q) s
  | e => K e q s
def bkY (id : Nat) (K : YKC) : YKC := fun e q s => match e with
  | .exit i => match Nat.beq i id with | true => K .normal q s | false => K (.exit i) q s
  | e => K e q s
def scYC (K : YKC) : YKC := fun e q s => match e with
  | .goto _ => none
  | e => K e q s
def lpYC (k : Keep) (step : YKC → Bool → St → YO) (K : YKC) : Nat → Bool → St → YO
  | 0, _, _ => none
  | n + 1, q, s => step (lkY P k (lpYC k step K n) K) q s
def unYC (k : Keep) (step : YKC → Bool → St → YO) (K : YKC) : Nat → Bool → St → YO
  | 0, _, _ => none
  | n + 1, q, σ => canY P k (step (fun e q s1 => match e with
    | .normal => unYC k step K n q s1
    | e => K e q s1) q) σ
variable (N : Nat)
def vcYC (ann : Ann) : Code → YKC → Bool → St → YO
  | .skip, K, q, σ => K .normal q σ
  | .region id ops draw, K, q, σ => match (dstL ops.toList).contains 0, ann.yl.contains id, draw with
    | true, _, _ => none
    | false, true, false => opsYC P Γ ann.nt ops ops.toList (fun q' σ' => match lk ann.reg id with
      | some k => canY P k (K .normal q') σ'
      | none => K .normal q' { σ' with log := [] }) q { σ with log := [] }
    | false, true, true => none
    | false, false, _ => regT P Γ ann id ops draw (K .normal q) σ
  | .seq a b, K, q, σ => vcYC ann a (skY P ann (hdId b) (vcYC ann b) K) q σ
  | .cond c a b, K, q, σ => match evO σ.env c with
    | .one (.c (.p (.bool t))) => cond t (vcYC ann a K q (setOp σ c true)) (vcYC ann b K q (setOp σ c false))
    | _ => none
  | .block id b, K, q, σ => vcYC ann b (bkY id K) q σ
  | .loop b, K, q, σ => match lk ann.head (hdId b) with
    | some k => canY P k (lpYC P k (vcYC ann b) K N q) σ
    | none => match lk ann.unr (hdId b) with
      | some (n, k) => unYC P k (vcYC ann b) K n q σ
      | none => none
  | .exit id, K, q, σ => K (.exit id) q σ
  | .scope b, K, q, σ => vcYC ann b (scYC K) q σ
  | .label _, K, q, σ => K .normal q σ
  | .ret, K, q, σ => K .ret q σ
  | _, _, _, _ => none
def finYC : YKC := fun e _ _ => match e with
  | .normal => some []
  | .ret => some []
  | _ => none
def aI (ann : Ann) (f : FuncId) (caps : List PA) : YO :=
  match P.funcs[f]? with
  | some fn => match fn.body with
    | some c => match Nat.beq ann.nt fn.ntmps && Nat.ble (caps.length + 1) ann.nt && fn.results.isEmpty with
      | true => vcYC P Γ N ann c finYC false ⟨(0, .cl (.vec ylL)) :: argEnv 1 caps, [(ylL, .gone)], []⟩
      | false => none
    | none => none
  | none => none
end

section
variable [DrawZ] {P : Program} {Γ : Ctrs} {N : Nat}
theorem Cps.T_some {ρ A : Type} {c : Cps ρ} {k : ρ → Option A} {x : A} (h : c.T k = some x) : ∃ r, c.o = some r ∧ k r = some x := by
  rw [c.nat] at h
  cases e : c.T some with
  | none => rw [e] at h; cases h
  | some r => rw [e] at h; exact ⟨r, e, h⟩
def YSnd (K : Bool → St → YO) (K' : List (List PA) → Bool → St → Prop) : Prop := ∀ q s r ys, K q s = some r → (q = false → ys = r) → K' ys q s
theorem stepYC_ok {nt : Nat} {o : Oper} {next : Bool → St → YO} {next' : List (List PA) → Bool → St → Prop} (hn : YSnd next next') : YSnd (stepYC P Γ nt o next) (vcStepY P Γ nt o next') := by
  intro q σ r ys h hq
  unfold stepYC at h
  unfold vcStepY
  split at h
  · rename_i args t hy
    rw [hy]
    simp only
    split at h
    · rename_i y h1 h2
      unfold yT at h
      split at h
      · rename_i r1 hf
        split at h
        · rename_i r2 ht
          cases h
          rw [h1, h2]
          exact ⟨r2, hq rfl, hn _ _ _ _ ht fun _ => rfl, hn _ _ _ _ hf fun e => by cases e⟩
        · cases h
      · cases h
    · cases h
  · rename_i hy
    rw [hy]
    simp only
    split at h
    · rename_i hd
      rw [hd]
      rw [actT_eq] at h
      obtain ⟨s, h1, h2⟩ := Cps.T_some h
      exact actC_ok h1 (hn _ _ _ _ h2 hq)
    · cases h
theorem opsYC_ok {nt : Nat} {ops : Array Oper} {K : Bool → St → YO} {K' : List (List PA) → Bool → St → Prop} (hK : YSnd K K') : ∀ l : List Oper, YSnd (opsYC P Γ nt ops l K) (vcOpsY P Γ nt ops l K')
  | [] => hK
  | o :: l => by
    intro q σ r ys h hq
    have ih : YSnd (opsYC P Γ nt ops l K) (vcOpsY P Γ nt ops l K') := opsYC_ok hK l
    simp only [opsYC] at h
    simp only [vcOpsY]
    split at h
    · rename_i hg; simp only [hg]; exact stepYC_ok ih _ _ _ _ h hq
    · rename_i j want hg
      simp only [hg]
      split at h
      · rename_i g hd hj
        simp only [hd, hj]
        split at h
        · rename_i b hb
          simp only [hb]
          refine condP_mk (fun e => ?_) fun e => ?_
          · subst e
            cases want with
            | true => exact stepYC_ok ih _ _ _ _ h hq
            | false => exact ih _ _ _ _ h hq
          · subst e
            cases want with
            | true => exact ih _ _ _ _ h hq
            | false => exact stepYC_ok ih _ _ _ _ h hq
        · rename_i hb; simp only [hb]; exact ih _ _ _ _ h hq
        · cases h
      · cases h
theorem canY_some {k : Keep} {K : St → YO} {σ : St} {r : List (List PA)} (h : canY P k K σ = some r) : ∃ s, canon P k σ = some s ∧ K s = some r := by
  unfold canY at h
  split at h
  · rename_i s hs; exact ⟨s, hs, h⟩
  · cases h
def YSnd2 (K : YKC) (K' : YK) : Prop := ∀ e, YSnd (K e) (K' e)
theorem vcYC_ok {ann : Ann} : ∀ (c : Code) (K : YKC) (K' : YK), YSnd2 K K' → YSnd (vcYC P Γ N ann c K) (vcY P Γ ann c K') := by
  intro c
  induction c with
  | skip => exact fun K K' hK => hK .normal
  | region id ops draw =>
    intro K K' hK q σ r ys h hq
    simp only [vcYC] at h
    simp only [vcY]
    split at h
    · cases h
    · rename_i h1 h2
      simp only [h1, h2]
      refine opsYC_ok (fun q s r ys h hq => ?_) ops.toList _ _ _ _ h hq
      split at h
      · rename_i k hk
        obtain ⟨s1, h3, h4⟩ := canY_some h
        simp only [hk, h3]; exact hK _ _ _ _ _ h4 hq
      · rename_i hk; simp only [hk]; exact hK _ _ _ _ _ h hq
    · cases h
    · rename_i h1 h2
      simp only [h1, h2]
      rw [regT_eq] at h
      obtain ⟨s, h3, h4⟩ := Cps.T_some h
      exact regC_ok h3 (hK _ _ _ _ _ h4 hq)
  | seq a b iha ihb =>
    intro K K' hK
    refine iha _ _ fun e q s r ys h hq => ?_
    cases e with
    | normal =>
      have h : cutT P ann (hdId b) (vcYC P Γ N ann b K q) s = some r := h
      rw [cutT_eq] at h
      obtain ⟨s1, h1, h2⟩ := Cps.T_some h
      simp only [seqY, cutY]
      have := ihb K K' hK _ _ _ _ h2 hq
      unfold cutC at h1
      split at h1
      · rename_i k hk; simp only [hk, Cps.opt_o h1]; exact this
      · rename_i hk; simp only [hk]; cases Cps.ok_o h1; exact this
    | _ => exact hK _ _ _ _ _ h hq
  | cond c a b iha ihb =>
    intro K K' hK q σ r ys h hq
    simp only [vcYC] at h
    simp only [vcY]
    split at h
    · rename_i t ht
      simp only [ht]
      refine condP_mk (fun e1 => ?_) fun e1 => ?_
      · subst e1; exact iha _ _ hK _ _ _ _ h hq
      · subst e1; exact ihb _ _ hK _ _ _ _ h hq
    · cases h
  | block id b ih =>
    intro K K' hK
    refine ih _ _ fun e q s r ys h hq => ?_
    cases e with
    | exit j =>
      simp only [bkY] at h
      simp only [blockY]
      split at h
      · rename_i hj; rw [hj]; exact hK _ _ _ _ _ h hq
      · rename_i hj; rw [hj]; exact hK _ _ _ _ _ h hq
    | _ => exact hK _ _ _ _ _ h hq
  | loop b ih =>
    intro K K' hK q σ r ys h hq
    simp only [vcYC] at h
    simp only [vcY]
    split at h
    · rename_i k hk
      obtain ⟨s1, h1, h2⟩ := canY_some h
      simp only [hk, h1]
      intro X hX
      have key : ∀ n : Nat, YSnd (lpYC P k (vcYC P Γ N ann b) K n) X := by
        intro n
        induction n with
        | zero => intro q s r ys h; cases h
        | succ n ihn =>
          intro q s r ys h hq
          refine hX _ _ _ (ih _ _ (fun e q s r ys h hq => ?_) _ _ _ _ h hq)
          cases e with
          | normal =>
            obtain ⟨s2, h3, h4⟩ := canY_some h
            simp only [loopY, hk, h3]; exact ihn _ _ _ _ h4 hq
          | _ => exact hK _ _ _ _ _ h hq
      exact key N _ _ _ _ h2 hq
    · rename_i hk
      split at h
      · rename_i n k hn
        simp only [hk, hn]
        have key : ∀ n : Nat, YSnd (unYC P k (vcYC P Γ N ann b) K n) (vcUnY P k (vcY P Γ ann b) n K') := by
          intro n
          induction n with
          | zero => intro q s r ys h; cases h
          | succ n ihn =>
            intro q s r ys h hq
            obtain ⟨s1, h1, h2⟩ := canY_some h
            simp only [vcUnY, h1]
            refine ih _ _ (fun e q s r ys h hq => ?_) _ _ _ _ h2 hq
            cases e with
            | normal => exact ihn _ _ _ _ h hq
            | _ => exact hK _ _ _ _ _ h hq
        exact key n _ _ _ _ h hq
      · cases h
  | exit id => exact fun K K' hK => hK _
  | scope b ih =>
    intro K K' hK
    refine ih _ _ fun e q s r ys h hq => ?_
    cases e with
    | goto l => cases h
    | _ => exact hK _ _ _ _ _ h hq
  | label l => exact fun K K' hK => hK .normal
  | ret => exact fun K K' hK => hK .ret
  | rangeFunc f ps a b _ _ => intro K K' hK q σ r ys h; cases h
  | goto l => intro K K' hK q σ r ys h; cases h
  | refuse s => intro K K' hK q σ r ys h; cases h
theorem aI_ok {ann : Ann} {f : FuncId} {caps : List PA} {ys : List (List PA)} (h : aI P Γ N ann f caps = some ys) : vcIter P Γ ann f caps ys := by
  unfold aI at h
  unfold vcIter
  split at h
  · rename_i fn hfn
    split at h
    · rename_i c hb
      split at h
      · rename_i hc
        rw [hfn]; simp only [hb, hc]
        refine vcYC_ok c _ _ (fun e q s r ys h hq => ?_) _ _ _ _ h fun _ => rfl
        have fin : some [] = some r → finY ys q := by
          intro e
          cases e
          cases q with
          | true => trivial
          | false => exact hq rfl
        cases e with
        | normal => exact fin h
        | ret => exact fin h
        | _ => cases h
      · cases h
    · cases h
  · cases h
end
end Go.Pm
namespace Go.Pm

section
variable [DrawZ]
class PaC (α : Type) where
  enc : α → PA
  dec : PA → α
  ck : PA → Bool
  up : ∀ {h : Fz} {a : PA} {v : Value}, paR h a v → ck a = true → paR h (enc (dec a)) v
  eq : α → α → Bool
  eqk : ∀ {h : Fz} {a b : α} {v : Value}, eq a b = true → paR h (enc a) v → paR h (enc b) v
abbrev PaC.one {α : Type} [FdC α] : PaC α where
  enc x := match FdC.enc x with | [v] => .one v | l => .agg l
  dec a := match a with | .one v => (FdC.dec [v]).1 | .agg l => (FdC.dec l).1
  ck a := match a with | .one v => ck0 (FdC.ck (α := α) [v]) | .agg _ => false
  up := by
    intro h a v r hc
    cases a with
    | agg l => cases hc
    | one p =>
      have r : Rep h p v := r
      have h1 := ung_le (α := α) (g := fun _ => [p]) (fun _ _ => ⟨r.un, trivial⟩) hc 0
      change RL PVle [p] (FdC.enc (FdC.dec (α := α) [p]).1) at h1
      generalize FdC.enc (FdC.dec (α := α) [p]).1 = m at h1
      match m, h1 with
      | [q], h1 => exact r.up h1.1
      | [], h1 => exact h1.elim
      | _ :: _ :: _, h1 => exact h1.2.elim
  eq := FdC.eq
  eqk := by
    intro h a b v he r
    have h1 := FdC.eqk he
    generalize FdC.enc a = l at h1 r
    generalize FdC.enc b = m at h1
    have ag : ∀ {l m : List PV}, RL PVle l m → paR h (.agg l) v → paR h (.agg m) v := fun e r1 => by
      obtain ⟨vs, e1, r2⟩ := r1; exact ⟨vs, e1, rl_upv e r2⟩
    match l, m, h1 with
    | [_], [_], h1 => exact Rep.up h1.1 r
    | [], [], h1 => exact ag h1 r
    | _ :: _ :: _, _ :: _ :: _, h1 => exact ag h1 r
    | [], _ :: _, h1 => exact h1.elim
    | [_], [], h1 => exact h1.elim
    | [_], _ :: _ :: _, h1 => exact h1.2.elim
    | _ :: _ :: _, [], h1 => exact h1.elim
    | _ :: _ :: _, [_], h1 => exact h1.2.elim
abbrev PaC.agg' {α : Type} [FdC α] : PaC α where
  enc x := .agg (FdC.enc x)
  dec a := match a with | .one v => (FdC.dec [v]).1 | .agg l => (FdC.dec l).1
  ck a := match a with | .agg l => ck0 (FdC.ck (α := α) l) | .one _ => false
  up := by
    intro h a v r hc
    cases a with
    | one p => cases hc
    | agg l =>
      obtain ⟨vs, rfl, r⟩ := r
      exact ⟨vs, rfl, rl_upv (ung_le (α := α) (g := fun _ => l) (fun _ _ => rl_un r) hc 0) r⟩
  eq := FdC.eq
  eqk := by
    intro h a b v he r
    obtain ⟨vs, rfl, r⟩ := r; exact ⟨vs, rfl, rl_upv (FdC.eqk he) r⟩
instance : PaC Int := .one
instance : PaC Bool := .one
instance {α : Type} [FdC α] [Inhabited α] : PaC (Sl α) := .one
instance {α : Type} [FdC α] : PaC (Pt α) := .one
class LsC (α : Type) where
  enc : α → List PA
  dec : List PA → α
  ck : List PA → Bool
  up : ∀ {h : Fz} {l : List PA} {vs : List Value}, RL (paR h) l vs → ck l = true → RL (paR h) (enc (dec l)) vs
  eq : α → α → Bool
  eqk : ∀ {h : Fz} {a b : α} {vs : List Value}, eq a b = true → RL (paR h) (enc a) vs → RL (paR h) (enc b) vs
instance : LsC Unit where
  enc _ := []
  dec _ := ()
  ck l := l.isEmpty
  up := by
    intro h l vs r hc
    cases l with
    | nil => exact r
    | cons => cases hc
  eq _ _ := true
  eqk _ r := r
instance {α : Type} [PaC α] : LsC α where
  enc x := [PaC.enc x]
  dec l := PaC.dec (l.headD (.agg []))
  ck l := match l with | [a] => PaC.ck (α := α) a | _ => false
  up := by
    intro h l vs r hc
    match l, vs, r, hc with
    | [a], [v], r, hc => exact ⟨PaC.up r.1 hc, trivial⟩
    | [], _, _, hc => cases hc
    | _ :: _ :: _, _, _, hc => cases hc
    | [_], [], r, _ => exact r.elim
    | [_], _ :: _ :: _, r, _ => exact r.2.elim
  eq := PaC.eq
  eqk := by
    intro h a b vs he r
    match vs, r with
    | [v], r => exact ⟨PaC.eqk he r.1, trivial⟩
    | [], r => exact r.elim
    | _ :: _ :: _, r => exact r.2.elim
instance {α β : Type} [PaC α] [LsC β] : LsC (α × β) where
  enc x := PaC.enc x.1 :: LsC.enc x.2
  dec l := (PaC.dec (l.headD (.agg [])), LsC.dec l.tail)
  ck l := match l with | a :: r => PaC.ck (α := α) a && LsC.ck (α := β) r | _ => false
  up := by
    intro h l vs r hc
    match l, vs, r, hc with
    | a :: l, v :: vs, r, hc =>
      rw [Bool.and_eq_true] at hc
      exact ⟨PaC.up r.1 hc.1, LsC.up r.2 hc.2⟩
    | [], _, _, hc => cases hc
    | _ :: _, [], r, _ => exact r.elim
  eq a b := PaC.eq a.1 b.1 && LsC.eq a.2 b.2
  eqk := by
    intro h a b vs he r
    rw [Bool.and_eq_true] at he
    match vs, r with
    | v :: vs, r => exact ⟨PaC.eqk he.1 r.1, LsC.eqk he.2 r.2⟩
    | [], r => exact r.elim
theorem resR_up {h : Fz} {l m : List PA} {v : Value} (hm : ∀ vs, RL (paR h) l vs → RL (paR h) m vs) (r : resR h l v) : resR h m v := by
  have go : ∀ vs, RL (paR h) m vs → (vs.length = 1 → vs = [v]) → (vs.length ≠ 1 → v = .tuple vs.toArray) → resR h m v := by
    intro vs hr h1 h2
    match m, vs, hr with
    | [], [], _ => exact ⟨[], h2 (by simp), trivial⟩
    | [x], [u], hr => cases h1 rfl; exact hr.1
    | x :: y :: l, u :: u2 :: vs, hr => exact ⟨_, h2 (by simp), hr⟩
    | [], _ :: _, hr => exact hr.elim
    | [_], [], hr => exact hr.elim
    | [_], _ :: _ :: _, hr => exact hr.2.elim
    | _ :: _ :: _, [], hr => exact hr.elim
    | _ :: _ :: _, [_], hr => exact hr.2.elim
  match l, r with
  | [], ⟨vs, e, r⟩ => exact go vs (hm vs r) (fun h => by rw [← r.length] at h; cases h) fun _ => e
  | [x], r => exact go [v] (hm [v] ⟨r, trivial⟩) (fun _ => rfl) fun h => absurd rfl h
  | x :: y :: l, ⟨vs, e, r⟩ => exact go vs (hm vs r) (fun h => by rw [← r.length] at h; simp at h) fun _ => e
end

/-! What is wanted later, as a number's bits. -/
def orL (m : Nat) : List Nat → Nat
  | [] => m
  | t :: r => orL (m ||| 2 ^ t) r
def clL (m : Nat) : List Nat → Nat
  | [] => m
  | t :: r => clL (m ^^^ (m &&& 2 ^ t)) r
def lvOps (ops : Array Oper) : List Oper → Nat → Nat
  | [], m => m
  | o :: r, m => orL (clL (lvOps ops r m) o.dst.toList) (readsT ops o)
def lvC : Code → Nat → Nat → List (Nat × Nat) → Nat × List (Nat × Nat × Nat)
  | .skip, o, _, _ => (o, [])
  | .region id ops _, o, _, _ => (lvOps ops ops.toList o, [(0, id, o)])
  | .seq a b, o, r, x => match lvC b o r x with
    | (mb, lb) => match lvC a mb r x with
      | (ma, la) => (ma, la ++ (2, hdId b, mb) :: lb)
  | .cond c a b, o, r, x => match lvC a o r x, lvC b o r x with
    | (ma, la), (mb, lb) => (orL (ma ||| mb) (tmpO c), la ++ lb)
  | .block id b, o, r, x => lvC b o r ((id, o) :: x)
  | .loop b, _, r, x => match (lvC b 0 r x).1 with
    | m => (m, (1, hdId b, m) :: (lvC b m r x).2)
  | .rangeFunc f ps a b, o, r, x => match (lvC b 0 r x).1 with
    | m0 => match orL (clL (o ||| (lvC a m0 r x).1) ps.toList) (tmpO f) with
      | m => match lvC b m r x with
        | (mb, lb) => (m, (1, rfId a b, m) :: ((lvC a mb r x).2 ++ lb))
  | .exit id, _, _, x => ((lk x id).getD 0, [])
  | .scope b, o, r, x => lvC b o r x
  | .label _, o, _, _ => (o, [])
  | .ret, _, r, _ => (r, [])
  | _, _, _, _ => (0, [])
def bitsN (m : Nat) : Nat → Nat → List Nat
  | _, 0 => []
  | i, n + 1 => match m.testBit i with | true => i :: bitsN m (i + 1) n | false => bitsN m (i + 1) n
structure Ext where
  ks : List (Nat × Nat × Keep) := []
  cut : List Nat := []
  unr : List (Nat × Nat) := []
  yl : List Nat := []
  vv : List Nat := []
  clo : List Nat := []
def keepX (x : Ext) (nt k id m : Nat) : Keep := match x.ks.find? fun y => Nat.beq y.1 k && Nat.beq y.2.1 id with
  | some y => { y.2.2 with tmps := bitsN m 0 nt }
  | none => ⟨bitsN m 0 nt, [], [], [], [], [], []⟩
def annL (x : Ext) (nt : Nat) : List (Nat × Nat × Nat) → Ann → Ann
  | [], a => a
  | (k, id, m) :: r, a => match annL x nt r a with
    | a => match k with
      | 0 => { a with reg := (id, keepX x nt 0 id m) :: a.reg }
      | 1 => match lk x.unr id with
        | some n => { a with unr := (id, n, keepX x nt 1 id m) :: a.unr }
        | none => { a with head := (id, keepX x nt 1 id m) :: a.head }
      | _ => match x.cut.contains id with
        | true => { a with cut := (id, keepX x nt 2 id m) :: a.cut }
        | false => a
def resT : List ResultVar → List Nat
  | [] => []
  | .tmp t :: r => t :: resT r
  | .cell t _ :: r => t :: resT r
def annOf (P : Program) (f : Nat) (xt : List Nat) (x : Ext) : Ann := match P.funcs[f]? with
  | some fn => match fn.body with
    | some c => match orL 0 (xt ++ resT fn.results.toList) with
      | m => annL x fn.ntmps (lvC c m m []).2 ⟨fn.ntmps, [], [], [], [], x.yl⟩
    | none => ⟨0, [], [], [], [], []⟩
  | none => ⟨0, [], [], [], [], []⟩

section
variable (P : Program) (N : Nat) (Γ : Ctrs) {ρ : Type}
def runC (ann : Ann) (f : FuncId) (n : Nat) (g : Code → Bool) (σ : St) (fin : Func → St → Option ρ) : Cps ρ :=
  match P.funcs[f]? with
  | some fn => match fn.body with
    | some c => match Nat.beq ann.nt fn.ntmps && Nat.ble n ann.nt && g c with
      | true => (vcC P Γ N ann c σ).bind fun (e, s) => match e with
        | .normal => .opt (fin fn s)
        | .ret => .opt (fin fn s)
        | _ => .no
      | false => .no
    | none => .no
  | none => .no
def aF (ann : Ann) (f : FuncId) (args : List PA) : Cps (List PA) :=
  runC P N Γ ann f args.length (fun _ => true) ⟨argEnv 0 args, [], []⟩ fun fn s => resPA P s fn.results.toList
def finK' (fn : Func) (e s b : Nat) (σ : St) : Option (Nat × (Nat → List PV) × List PV) :=
  match fn.results.toList with
  | .tmp t :: r => match lk σ.env t with
    | some (.one (.c (.vec L))) => match lk σ.objs L with
      | some (.vec e' s' b' n get) => match Nat.beq e e' && (Nat.beq s s' && Nat.beq b b'), r with
        | true, [] => some (n, get, [])
        | true, [.tmp u] => match lk σ.env u with
          | some (.one (.c (.p x))) => some (n, get, [x])
          | _ => none
        | _, _ => none
      | _ => none
    | _ => none
  | _ => none
def aK (ann : Ann) (f : FuncId) (e s b : Nat) (args : List PA) : Cps (Nat × (Nat → List PV) × List PV) :=
  runC P N Γ ann f args.length (fun _ => true) ⟨argEnv 0 args, [], []⟩ fun fn σ => finK' fn e s b σ
def finM' (xs : List XA) (fn : Func) (σ : St) : Option (List PA × List XA) :=
  match resPU P σ fn.results.toList with
  | some (l, u) => match xOut (slfEnd σ.env xs) (lk (u ++ σ.objs)) σ.env 0 xs with
    | some (ys, ls) => match nodupN ls with
      | true => some (l, ys)
      | false => none
    | none => none
  | none => none
def aM (ann : Ann) (f : FuncId) (xs : List XA) : Cps (List PA × List XA) :=
  runC P N Γ ann f xs.length (fun c => nodupN ((xObjs 0 xs).map (·.1)) && slfXB (xBox 0 xs) xs && disj (xBox 0 xs) (dstC c)) ⟨xEnv 0 xs, xObjs 0 xs, []⟩ (finM' P xs)
end

section
variable [DrawZ] {P : Program} {N : Nat} {Γ : Ctrs}
theorem runC_ok {ρ : Type} {ann : Ann} {f : FuncId} {n : Nat} {g : Code → Bool} {σ : St} {fin : Func → St → Option ρ} {r : ρ} (h : (runC P N Γ ann f n g σ fin).o = some r) :
    ∃ fn c, P.funcs[f]? = some fn ∧ fn.body = some c ∧ (Nat.beq ann.nt fn.ntmps && Nat.ble n ann.nt) = true ∧ g c = true ∧ ∀ K : Exit → St → Prop, (∀ s, fin fn s = some r → K .normal s ∧ K .ret s) → vc P Γ ann c K σ := by
  unfold runC at h
  split at h
  · rename_i fn hfn
    split at h
    · rename_i c hb
      split at h
      · rename_i hc
        rw [Bool.and_eq_true] at hc
        obtain ⟨⟨e, s⟩, h1, h2⟩ := Cps.bind_o h
        refine ⟨fn, c, hfn, hb, hc.1, hc.2, fun K hK => vcC_ok c σ s e K h1 ?_⟩
        cases e with
        | normal => exact (hK s (Cps.opt_o h2)).1
        | ret => exact (hK s (Cps.opt_o h2)).2
        | _ => exact (Cps.no_o h2).elim
      · exact (Cps.no_o h).elim
    · exact (Cps.no_o h).elim
  · exact (Cps.no_o h).elim
theorem aF_ok {ann : Ann} {f : FuncId} {args rs : List PA} (h : (aF P N Γ ann f args).o = some rs) : vcFun P Γ ann f args fun rs' => rs' = rs := by
  obtain ⟨fn, c, h1, h2, h3, _, h4⟩ := runC_ok h
  unfold vcFun
  rw [h1]
  simp only [h2, h3]
  refine h4 _ fun s hs => ?_
  constructor <;> simp only [bodyK, finK, hs]
theorem aK_ok {ann : Ann} {f : FuncId} {e s b n : Nat} {get : Nat → List PV} {rs : List PV} {args : List PA} (h : (aK P N Γ ann f e s b args).o = some (n, get, rs)) : vcMkv P Γ ann f args e s b (mkvK n s get rs) := by
  obtain ⟨fn, c, h1, h2, h3, _, h4⟩ := runC_ok h
  unfold vcMkv
  rw [h1]
  simp only [h2, h3]
  refine h4 _ fun σ hs => ?_
  have : finKv fn e s b (mkvK n s get rs) σ := by
    unfold finK' at hs
    unfold finKv
    split at hs
    · rename_i t r hr
      split at hs
      · rename_i L hL
        split at hs
        · rename_i e' s' b' m g hO
          split at hs
          · rename_i hc
            cases hs
            rw [hr]; simp only [hL, hO, hc]; rfl
          · rename_i u hc
            split at hs
            · rename_i x hu
              cases hs
              rw [hr]; simp only [hL, hO, hc, hu]; rfl
            · cases hs
          · cases hs
        · cases hs
      · cases hs
    · cases hs
  exact ⟨this, this⟩
theorem aM_ok {ann : Ann} {f : FuncId} {xs ys : List XA} {rs : List PA} (h : (aM P N Γ ann f xs).o = some (rs, ys)) : vcMut P Γ ann f xs fun l zs => l = rs ∧ zs = ys := by
  obtain ⟨fn, c, h1, h2, h3, h0, h4⟩ := runC_ok h
  unfold vcMut
  rw [h1]
  simp only [Bool.and_eq_true] at h0 h3
  simp only [h2, h3.1, h3.2, h0.1.1, h0.1.2, h0.2, Bool.and_self]
  refine h4 _ fun σ hs => ?_
  have : finM P fn xs (fun l zs => l = rs ∧ zs = ys) σ := by
    unfold finM' at hs
    unfold finM
    split at hs
    · rename_i l u hr
      split at hs
      · rename_i zs ls ho
        split at hs
        · rename_i hn
          cases hs
          simp only [hr, ho, hn, and_self]
        · cases hs
      · cases hs
    · cases hs
  exact ⟨this, this⟩
end

structure Tabs where
  fn : List (Nat × (List PA → Cps (List PA)))
  own : List (Nat × OwnK)
  it : List (Nat × (List PA → Cps (List (List PA))))
  mt : List (Nat × Option MK)
  cf : List (Nat × (List PA → Cps (List PA)))
def tabL {α : Type _} (d : α) : List (Nat × α) → Nat → α
  | [], _ => d
  | (k, c) :: r, f => match Nat.beq k f with | true => c | false => tabL d r f
def csm (T : Tabs) (vv : List Nat) : Ctrs := ⟨tabL (fun _ => .no) T.fn, tabL OwnK.none T.own, tabL (fun _ => .no) T.it, fun t => vv.contains t, tabL none T.mt, tabL (fun _ => .no) T.cf⟩
def Tabs.nil : Tabs := ⟨[], [], [], [], []⟩
def Tabs.addF (T : Tabs) (f : Nat) (c : List PA → Cps (List PA)) : Tabs := ⟨(f, c) :: T.fn, T.own, T.it, T.mt, T.cf⟩
def Tabs.addO (T : Tabs) (f : Nat) (c : OwnK) : Tabs := ⟨T.fn, (f, c) :: T.own, T.it, T.mt, T.cf⟩
def Tabs.addI (T : Tabs) (f : Nat) (c : List PA → Cps (List (List PA))) : Tabs := ⟨T.fn, T.own, (f, c) :: T.it, T.mt, T.cf⟩
def Tabs.addM (T : Tabs) (f : Nat) (c : MK) : Tabs := ⟨T.fn, T.own, T.it, (f, some c) :: T.mt, T.cf⟩
def Tabs.addN (T : Tabs) : List Nat → Tabs
  | [] => T
  | f :: r => (T.addM f fun _ => .no).addN r
def Tabs.addC (T : Tabs) (f : Nat) (c : List PA → Cps (List PA)) : Tabs := ⟨T.fn, T.own, T.it, T.mt, (f, c) :: T.cf⟩
variable [DrawZ]
structure TabsOk (P : Program) (T : Tabs) : Prop where
  fn : ∀ x ∈ T.fn, Ok P x.1 x.2
  own : ∀ x ∈ T.own, OwnOk P x.1 x.2
  it : ∀ x ∈ T.it, ItOk P x.1 x.2
  mt : ∀ x ∈ T.mt, ∀ C, x.2 = some C → MutOk P x.1 C
  cf : ∀ x ∈ T.cf, @Ok ⟨1⟩ P x.1 x.2
theorem all_cons {α : Type _} {p : α → Prop} {a : α} {l : List α} (h : ∀ x ∈ l, p x) (ha : p a) : ∀ x ∈ a :: l, p x := fun x hx => (List.mem_cons.1 hx).elim (fun e => e ▸ ha) (h x)
section
variable {P : Program} {T : Tabs} {f : Nat}
theorem TabsOk.nil : TabsOk P .nil := ⟨fun _ h => (by cases h), fun _ h => (by cases h), fun _ h => (by cases h), fun _ h => (by cases h), fun _ h => (by cases h)⟩
theorem TabsOk.addF (h : TabsOk P T) {c : List PA → Cps (List PA)} (hc : Ok P f c) : TabsOk P (T.addF f c) := ⟨all_cons h.fn hc, h.own, h.it, h.mt, h.cf⟩
theorem TabsOk.addO (h : TabsOk P T) {c : OwnK} (hc : OwnOk P f c) : TabsOk P (T.addO f c) := ⟨h.fn, all_cons h.own hc, h.it, h.mt, h.cf⟩
theorem TabsOk.addI (h : TabsOk P T) {c : List PA → Cps (List (List PA))} (hc : ItOk P f c) : TabsOk P (T.addI f c) := ⟨h.fn, h.own, all_cons h.it hc, h.mt, h.cf⟩
theorem TabsOk.addM (h : TabsOk P T) {c : MK} (hc : MutOk P f c) : TabsOk P (T.addM f c) := ⟨h.fn, h.own, h.it, all_cons h.mt fun _ e => by cases e; exact hc, h.cf⟩
theorem TabsOk.addC (h : TabsOk P T) {c : List PA → Cps (List PA)} (hc : @Ok ⟨1⟩ P f c) : TabsOk P (T.addC f c) := ⟨h.fn, h.own, h.it, h.mt, all_cons h.cf hc⟩
theorem TabsOk.addN : ∀ {l : List Nat} {T : Tabs}, TabsOk P T → TabsOk P (T.addN l)
  | [], _, h => h
  | _ :: _, _, h => (h.addM fun _ _ _ h => (Cps.no_o h).elim).addN
theorem tabL_ok {α : Type _} {p : Nat → α → Prop} {d : α} (hd : p f d) : ∀ {l : List (Nat × α)}, (∀ x ∈ l, p x.1 x.2) → p f (tabL d l f)
  | [], _ => hd
  | (k, c) :: l, h => by
    simp only [tabL]
    split
    · rename_i e; have := h (k, c) List.mem_cons_self; rw [← Nat.eq_of_beq_eq_true e]; exact this
    · exact tabL_ok hd fun x hx => h x (List.mem_cons_of_mem _ hx)
theorem TabsOk.all (h : TabsOk P T) (vv : List Nat) : OkAll P (csm T vv) :=
  ⟨fun f C hC => tabL_ok (p := fun f o => ∀ C, o = some C → MutOk P f C) (fun _ e => by cases e) (fun x hx C e => h.mt x hx C e) C hC, fun f => tabL_ok (p := fun f c => Ok P f c) (fun _ _ h => (Cps.no_o h).elim) fun x hx => h.fn x hx,
    fun f => tabL_ok (p := fun f c => OwnOk P f c) (d := .none) trivial fun x hx => h.own x hx, fun f => tabL_ok (p := fun f c => ItOk P f c) (fun _ _ h => (Cps.no_o h).elim) fun x hx => h.it x hx,
    fun f => tabL_ok (p := fun f c => @Ok ⟨1⟩ P f c) (fun _ _ h => (Cps.no_o h).elim) fun x hx => h.cf x hx⟩
theorem aF_all (h : TabsOk P T) (hc : Callable P f) {N : Nat} {vv : List Nat} {ann : Ann} : Ok P f (aF P N (csm T vv) ann f) :=
  ok_of_vc (h.all vv) hc fun args rs h => ⟨_, ann, aF_ok h⟩
theorem aK_all (h : TabsOk P T) (hc : Callable P f) {N e s b : Nat} {vv : List Nat} {ann : Ann} : OwnOk P f (.mkv e s b (aK P N (csm T vv) ann f e s b)) :=
  mkv_of_vc (h.all vv) hc fun args n get rs h => ⟨_, ann, aK_ok h⟩
theorem aM_all (h : TabsOk P T) (hc : Callable P f) {N : Nat} {vv : List Nat} {ann : List XA → Ann} : MutOk P f (fun xs => aM P N (csm T vv) (ann xs) f xs) :=
  mut_of_vc (h.all vv) hc fun xs rs ys h => ⟨_, ann xs, aM_ok h⟩
theorem aI_all (h : TabsOk P T) (hc : Callable P f) {N : Nat} {vv : List Nat} {ann : Ann} : ItOk P f (fun caps => .opt (aI P (csm T vv) N ann f caps)) :=
  it_of_vc (h.all vv) hc fun caps ys h => ⟨_, ann, aI_ok (Cps.opt_o h)⟩
def recM (P : Program) (N : Nat) (T : Tabs) (x : Ext) (f : Nat) : Nat → MK
  | 0 => fun _ => .no
  | n + 1 => fun xs => aM P N (csm ((T.addM f (recM P N T x f n)).addN x.clo) x.vv) (annOf P f (xBox 0 xs) x) f xs
theorem recM_all (h : TabsOk P T) (hc : Callable P f) {N : Nat} {x : Ext} : ∀ n, MutOk P f (recM P N T x f n)
  | 0 => fun _ _ _ h => (Cps.no_o h).elim
  | n + 1 => aM_all (h.addM (recM_all h hc n)).addN hc

def Cps.ty {δ ρ : Type} [LsC δ] [LsC ρ] (C : List PA → Cps (List PA)) (x : δ) : Cps ρ := (C (LsC.enc x)).bind fun l => .chk (LsC.ck (α := ρ) l) (.ok (LsC.dec l))
def Cps.un {δ ρ : Type} [LsC δ] [LsC ρ] (F : δ → Cps ρ) (args : List PA) : Cps (List PA) := .chk (LsC.ck (α := δ) args) ((F (LsC.dec args)).mp LsC.enc)
theorem un_ok {δ ρ : Type} [LsC δ] [LsC ρ] {C : List PA → Cps (List PA)} (h : Ok P f C) : Ok P f (Cps.un (Cps.ty C : δ → Cps ρ)) := by
  intro args rs hr w h0 vs hvs hw
  obtain ⟨h1, h2⟩ := Cps.chk_o hr
  obtain ⟨r, h3, h4⟩ := Cps.mp_o h2
  obtain ⟨l, h5, h6⟩ := Cps.bind_o h3
  obtain ⟨h7, h8⟩ := Cps.chk_o h6
  have h8 := Cps.ok_o h8
  subst h4 h8
  obtain ⟨hc, h9⟩ := h _ _ h5 w h0 vs (LsC.up hvs h1) hw
  refine ⟨hc, h9.mono ?_⟩
  rintro e w' ⟨h', v, he, hv, r⟩
  exact ⟨h', v, he, resR_up (fun vs hvs => LsC.up hvs h7) hv, r⟩

def memB {δ ρ : Type} [LsC δ] [LsC ρ] (C : List PA → Cps (List PA)) (y : δ × ρ) : Bool := match (C (LsC.enc y.1)).o with
  | some l => LsC.ck (α := ρ) l && LsC.eq (LsC.dec l) y.2
  | none => false
def memo1 {δ ρ : Type} [LsC δ] [LsC ρ] (y : δ × ρ) (C : List PA → Cps (List PA)) (args : List PA) : Cps (List PA) := match LsC.ck (α := δ) args && LsC.eq (LsC.dec args) y.1 with
  | true => .ok (LsC.enc y.2)
  | false => C args
theorem memo_ok {δ ρ : Type} [LsC δ] [LsC ρ] {C : List PA → Cps (List PA)} (h : Ok P f C) {y : δ × ρ} (hy : memB C y = true) : Ok P f (memo1 y C) := by
  intro args rs hr w h0 vs hvs hw
  unfold memo1 at hr
  split at hr
  · rename_i hc
    rw [Bool.and_eq_true] at hc
    cases Cps.ok_o hr
    unfold memB at hy
    split at hy
    · rename_i l hl
      rw [Bool.and_eq_true] at hy
      obtain ⟨h1, h2⟩ := h _ _ hl w h0 vs (LsC.eqk hc.2 (LsC.up hvs hc.1)) hw
      refine ⟨h1, h2.mono ?_⟩
      rintro e w' ⟨h', v, he, hv, r⟩
      exact ⟨h', v, he, resR_up (fun vs hvs => LsC.eqk hy.2 (LsC.up hvs hy.1)) hv, r⟩
    · cases hy
  · exact h _ _ hr w h0 vs hvs hw

def Tabs.memo {δ ρ : Type} [LsC δ] [LsC ρ] (T : Tabs) (f : Nat) (y : δ × ρ) : Tabs := T.addF f (memo1 y ((csm T []).fn f))
theorem TabsOk.memo {δ ρ : Type} [LsC δ] [LsC ρ] (h : TabsOk P T) {y : δ × ρ} (hy : memB ((csm T []).fn f) y = true) : TabsOk P (T.memo f y) := h.addF (memo_ok ((h.all []).fn f) hy)
def Sl.of {α : Type} [Inhabited α] (l : List α) : Sl α := ⟨l.length, fun i => l.getD i default⟩
inductive Ent where
  | f (f : Nat) (x : Ext)
  | k (f e s b : Nat) (x : Ext)
  | m (f : Nat) (x : Ext)
  | r (f n : Nat) (x : Ext)
  | i (f : Nat) (x : Ext)
def Ent.fn : Ent → Nat
  | .f f _ => f
  | .k f _ _ _ _ => f
  | .m f _ => f
  | .r f _ _ => f
  | .i f _ => f
def addE (P : Program) (N : Nat) (T : Tabs) : Ent → Tabs
  | .f f x => T.addF f (aF P N (csm (T.addN x.clo) x.vv) (annOf P f [] x) f)
  | .k f e s b x => T.addO f (.mkv e s b (aK P N (csm (T.addN x.clo) x.vv) (annOf P f [] x) f e s b))
  | .m f x => T.addM f fun xs => aM P N (csm (T.addN x.clo) x.vv) (annOf P f (xBox 0 xs) x) f xs
  | .r f n x => T.addM f (recM P N T x f n)
  | .i f x => T.addI f fun caps => .opt (aI P (csm (T.addN x.clo) x.vv) N (annOf P f [0] x) f caps)
def bldE (P : Program) (N : Nat) (T : Tabs) (l : List Ent) : Tabs := l.foldl (addE P N) T
def callB (P : Program) (f : Nat) : Bool := match P.funcs[f]? with
  | some fn => fn.body.isSome && !(fn.name == "runtime.NumGoroutine")
  | none => false
theorem callB_ok (h : callB P f = true) : Callable P f := by
  unfold callB at h
  split at h
  · rename_i fn hf
    rw [Bool.and_eq_true, Bool.not_eq_true'] at h
    exact ⟨fn, hf, h.1, h.2⟩
  · cases h
theorem addE_ok {N : Nat} (h : TabsOk P T) {e : Ent} (hc : callB P e.fn = true) : TabsOk P (addE P N T e) := by
  cases e with
  | f f x => exact h.addF (aF_all h.addN (callB_ok hc))
  | k f e s b x => exact h.addO (aK_all h.addN (callB_ok hc))
  | m f x => exact h.addM (aM_all h.addN (callB_ok hc))
  | r f n x => exact h.addM (recM_all h (callB_ok hc) n)
  | i f x => exact h.addI (aI_all h.addN (callB_ok hc))
theorem bldE_ok {N : Nat} : ∀ {l : List Ent} {T : Tabs}, TabsOk P T → (l.all fun e => callB P e.fn) = true → TabsOk P (bldE P N T l)
  | [], _, h, _ => h
  | e :: l, _, h, hc => by
    rw [List.all_cons, Bool.and_eq_true] at hc
    exact bldE_ok (l := l) (addE_ok h hc.1) hc.2
end
theorem aF_cmp {P : Program} {T : Tabs} {f : Nat} (h : @TabsOk ⟨1⟩ P T) (hc : Callable P f) {N : Nat} {vv : List Nat} {ann : Ann} : @Ok ⟨1⟩ P f (aF P N (csm T vv) ann f) := @aF_all ⟨1⟩ P T f h hc N vv ann
end Go.Pm
namespace Go.Pm

section
variable (P : Program) (Γ : Ctrs) {A : Type} (N : Nat)
inductive Rnds where
  | n (n : Nat)
  | y (l : List (List PA))
  | o (i : Nat)
def atT (ann : Ann) : Code → List Nat → List Rnds → EK A → St → Option A
  | .seq a b, 0 :: p, r, K => atT ann a p r (sqT P ann (hdId b) (vcT P Γ N ann b) K)
  | .seq _ b, _ :: p, r, K => atT ann b p r K
  | .cond _ a _, 0 :: p, r, K => atT ann a p r K
  | .cond _ _ b, _ :: p, r, K => atT ann b p r K
  | .block id b, _ :: p, r, K => atT ann b p r (bkT id K)
  | .scope b, _ :: p, r, K => atT ann b p r (scT K)
  | .loop b, _ :: p, .n n :: r, K => match lk ann.head (hdId b) with
    | some k => atT ann b p r (lpK P k (lpT P k (vcT P Γ N ann b) K n) K)
    | none => fun _ => none
  | .loop b, [], .n n :: _, K => match lk ann.head (hdId b) with
    | some k => lpT P k (vcT P Γ N ann b) K n
    | none => fun _ => none
  | .rangeFunc _ ps ah bd, _ :: p, .y l :: r, K => match lk ann.head (rfId ah bd) with
    | some k => atT ann bd p r (rgK P k (rgT P k ps.toList (vcT P Γ N ann ah) (vcT P Γ N ann bd) K l) K)
    | none => fun _ => none
  | .rangeFunc _ ps ah bd, [], .y l :: _, K => match lk ann.head (rfId ah bd) with
    | some k => rgT P k ps.toList (vcT P Γ N ann ah) (vcT P Γ N ann bd) K l
    | none => fun _ => none
  | .region id ops draw, [], .o i :: _, K => opsT P Γ ann.nt ops (regE P ann id ops draw (K .normal)) i (ops.toList.drop i)
  | c, [], _, K => vcT P Γ N ann c K
  | _, _, _, _ => fun _ => none
def finT (fin : St → Option (List PA)) (K : List PA → Option A) : EK A := fun e s => match e with
  | .normal => match fin s with | some r => K r | none => none
  | .ret => match fin s with | some r => K r | none => none
  | _ => none
def tyK {ρ : Type} [DrawZ] [LsC ρ] (k : ρ → Option A) (l : List PA) : Option A := match LsC.ck (α := ρ) l with | true => k (LsC.dec l) | false => none
def runT (ann : Ann) (f : FuncId) (K : List PA → Option A) (args : List PA) : Option A :=
  match P.funcs[f]? with
  | some fn => match fn.body with
    | some c => match Nat.beq ann.nt fn.ntmps && Nat.ble args.length ann.nt && true with
      | true => vcT P Γ N ann c (finT (fun s => resPA P s fn.results.toList) K) ⟨argEnv 0 args, [], []⟩
      | false => none
    | none => none
  | none => none
def ptT (ann : Ann) (f : FuncId) (p : List Nat) (r : List Rnds) (K : List PA → Option A) (σ : St) : Option A :=
  match P.funcs[f]? with
  | some fn => match fn.body with
    | some c => atT P Γ N ann c p r (finT (fun s => resPA P s fn.results.toList) K) σ
    | none => none
  | none => none
end

section
variable {P : Program} {Γ : Ctrs} {A : Type} {N : Nat}
theorem runT_eq {ann : Ann} {f : FuncId} {K : List PA → Option A} {args : List PA} : (aF P N Γ ann f args).T K = runT P Γ N ann f K args := by
  unfold aF runC runT
  cases P.funcs[f]? with
  | none => rfl
  | some fn =>
    simp only
    cases fn.body with
    | none => rfl
    | some c =>
      simp only
      cases Nat.beq ann.nt fn.ntmps && Nat.ble args.length ann.nt && true with
      | false => rfl
      | true =>
        simp only
        rw [vcT_eq]
        show (vcC P Γ N ann c _).T _ = (vcC P Γ N ann c _).T _
        congr 1; funext r
        obtain ⟨e, s⟩ := r
        cases e with
        | normal => simp only [finT, Cps.opt]; cases resPA P s fn.results.toList <;> rfl
        | ret => simp only [finT, Cps.opt]; cases resPA P s fn.results.toList <;> rfl
        | _ => rfl
theorem ty_T [DrawZ] {δ ρ : Type} [LsC δ] [LsC ρ] {ann : Ann} {f : FuncId} {x : δ} {k : ρ → Option A} : (Cps.ty (aF P N Γ ann f) x : Cps ρ).T k = runT P Γ N ann f (tyK k) (LsC.enc x) := by
  rw [← runT_eq]
  show (aF P N Γ ann f (LsC.enc x)).T _ = _
  congr 1
end

/-! Functions that hand back nothing but an error, or a pointer. -/
section
variable {α β τ A : Type}
def altT (r : α ⊕ β) (f : α → Option A) (g : β → Option A) : Option A := match r with
  | .inl a => f a
  | .inr b => g b
def Cps.alt (r : α ⊕ β) (f : α → Cps τ) (g : β → Cps τ) : Cps τ := ⟨fun k => altT r (fun a => (f a).T k) (fun b => (g b).T k), fun k => by
  cases r with
  | inl a => exact (f a).nat k
  | inr b => exact (g b).nat k⟩
variable [DrawZ] {δ ε ρ : Type} [LsC δ] [LsC ε] [LsC ρ]
def tyKA (k : ε ⊕ ρ → Option A) : List PA → Option A
  | .one .nilp :: r => match LsC.ck (α := ε) r with | true => k (.inl (LsC.dec r)) | false => none
  | l => match LsC.ck (α := ρ) l with | true => k (.inr (LsC.dec l)) | false => none
def altC : List PA → Cps (ε ⊕ ρ)
  | .one .nilp :: r => .chk (LsC.ck (α := ε) r) (.ok (.inl (LsC.dec r)))
  | l => .chk (LsC.ck (α := ρ) l) (.ok (.inr (LsC.dec l)))
def Cps.tyA (C : List PA → Cps (List PA)) (x : δ) : Cps (ε ⊕ ρ) := (C (LsC.enc x)).bind altC
def Cps.unA (F : δ → Cps (ε ⊕ ρ)) (args : List PA) : Cps (List PA) := .chk (LsC.ck (α := δ) args) ((F (LsC.dec args)).bind fun r => .alt r (fun e => .ok (.one .nilp :: LsC.enc e)) fun p => .ok (LsC.enc p))
theorem unA_ok {P : Program} {f : FuncId} {C : List PA → Cps (List PA)} (h : Ok P f C) : Ok P f (Cps.unA (Cps.tyA C : δ → Cps (ε ⊕ ρ))) := by
  intro args rs hr w h0 vs hvs hw
  obtain ⟨h1, h2⟩ := Cps.chk_o hr
  obtain ⟨r, h3, h4⟩ := Cps.bind_o h2
  obtain ⟨l, h5, h6⟩ := Cps.bind_o h3
  obtain ⟨hc, h9⟩ := h _ _ h5 w h0 vs (LsC.up hvs h1) hw
  have fin : ∀ (h' : Fz) (v : Value), resR h' l v → resR h' rs v := by
    intro h' v hv
    unfold altC at h6
    split at h6
    · obtain ⟨h7, h8⟩ := Cps.chk_o h6
      have h8 := Cps.ok_o h8
      subst h8
      cases Cps.ok_o h4
      refine resR_up (fun vs hvs => ?_) hv
      match vs, hvs with
      | v :: vs, hvs => exact ⟨hvs.1, LsC.up hvs.2 h7⟩
      | [], hvs => exact hvs.elim
    · obtain ⟨h7, h8⟩ := Cps.chk_o h6
      have h8 := Cps.ok_o h8
      subst h8
      cases Cps.ok_o h4
      exact resR_up (fun vs hvs => LsC.up hvs h7) hv
  refine ⟨hc, h9.mono ?_⟩
  rintro e w' ⟨h', v, he, hv, r⟩
  exact ⟨h', v, he, fin h' v hv, r⟩
theorem tyA_T {P : Program} {Γ : Ctrs} {N : Nat} {ann : Ann} {f : FuncId} {x : δ} {k : ε ⊕ ρ → Option A} : (Cps.tyA (aF P N Γ ann f) x : Cps (ε ⊕ ρ)).T k = runT P Γ N ann f (tyKA k) (LsC.enc x) := by
  rw [← runT_eq]
  show (aF P N Γ ann f (LsC.enc x)).T _ = _
  congr 1; funext l
  unfold altC tyKA
  split
  · cases LsC.ck (α := ε) _ <;> rfl
  · cases LsC.ck (α := ρ) l <;> rfl
end

/-! Iterators. -/
def Cps.tyI [DrawZ] {δ ε : Type} [LsC δ] [LsC ε] (C : List PA → Cps (List (List PA))) (x : δ) : Cps (List ε) := (C (LsC.enc x)).bind fun l => .chk (l.all (LsC.ck (α := ε))) (.ok (l.map LsC.dec))
def Cps.unI [DrawZ] {δ ε : Type} [LsC δ] [LsC ε] (I : δ → Cps (List ε)) (caps : List PA) : Cps (List (List PA)) := .chk (LsC.ck (α := δ) caps) ((I (LsC.dec caps)).mp (List.map LsC.enc))
theorem unI_ok [DrawZ] {P : Program} {f : FuncId} {δ ε : Type} [LsC δ] [LsC ε] {C : List PA → Cps (List (List PA))} (h : ItOk P f C) : ItOk P f (Cps.unI (Cps.tyI C : δ → Cps (List ε))) := by
  intro caps ys hr l J Jx w h0 vs sJ sX hy hj hvs hw
  obtain ⟨h1, h2⟩ := Cps.chk_o hr
  obtain ⟨r, h3, h4⟩ := Cps.mp_o h2
  obtain ⟨ls, h5, h6⟩ := Cps.bind_o h3
  obtain ⟨h7, h8⟩ := Cps.chk_o h6
  have h8 := Cps.ok_o h8
  subst h8 h4
  obtain ⟨hc, h9⟩ := h _ _ h5 l (fun ys h W => ys.all (LsC.ck (α := ε)) = true ∧ J ((ys.map (LsC.dec (α := ε))).map LsC.enc) h W)
    (fun ys h W => Jx ((ys.map (LsC.dec (α := ε))).map LsC.enc) h W) w h0 vs
    (fun ys h W h' W' a b c d e => ⟨a.1, sJ _ _ _ _ _ a.2 b c d e⟩) (fun ys h W h' W' a b c d e => sX _ _ _ _ _ a b c d e)
    (fun y rest h W us hJ hu hW n => by
      obtain ⟨hk, hJ⟩ := hJ
      rw [List.all_cons, Bool.and_eq_true] at hk
      obtain ⟨fn, tmps, ah, bd, e1, e2⟩ := hy _ _ _ _ _ hJ (LsC.up hu hk.1) hW n
      refine ⟨fn, tmps, ah, bd, e1, e2.mono ?_⟩
      rintro e W' ⟨h', a, b, c | c⟩
      · exact ⟨h', a, b, .inl ⟨c.1, hk.2, c.2⟩⟩
      · exact ⟨h', a, b, .inr c⟩)
    ⟨h7, hj⟩ (LsC.up hvs h1) hw
  refine ⟨hc, h9.mono ?_⟩
  rintro e W' ⟨v, h', a, b, c, d⟩
  refine ⟨v, h', a, b, c, ?_⟩
  rcases d with d | ⟨rest, d⟩
  · exact .inl d.2
  · exact .inr ⟨_, d⟩
section
variable (P : Program) (Γ : Ctrs) (N : Nat)
def atY (ann : Ann) : Code → List Nat → List Nat → YKC → Bool → St → YO
  | .seq a b, 0 :: p, r, K => atY ann a p r (skY P ann (hdId b) (vcYC P Γ N ann b) K)
  | .seq _ b, _ :: p, r, K => atY ann b p r K
  | .cond _ a _, 0 :: p, r, K => atY ann a p r K
  | .cond _ _ b, _ :: p, r, K => atY ann b p r K
  | .block id b, _ :: p, r, K => atY ann b p r (bkY id K)
  | .scope b, _ :: p, r, K => atY ann b p r (scYC K)
  | .loop b, _ :: p, n :: r, K => match lk ann.head (hdId b) with
    | some k => atY ann b p r (lkY P k (lpYC P k (vcYC P Γ N ann b) K n) K)
    | none => fun _ _ => none
  | .loop b, [], n :: _, K => match lk ann.head (hdId b) with
    | some k => lpYC P k (vcYC P Γ N ann b) K n
    | none => fun _ _ => none
  | c, [], _, K => vcYC P Γ N ann c K
  | _, _, _, _ => fun _ _ => none
def ptY (ann : Ann) (f : FuncId) (p r : List Nat) (σ : St) : YO :=
  match P.funcs[f]? with
  | some fn => match fn.body with
    | some c => atY P Γ N ann c p r finYC false σ
    | none => none
  | none => none
end

/-! Data in states. -/
def eP [DrawZ] {α : Type} [PaC α] (x : α) : DV := .one (paD (PaC.enc x))
def eB {α : Type} [FdC α] (t : Nat) (x : α) : AO := .box t ((FdC.enc x).map .p)
def eV {α : Type} [FdC α] (e s b : Nat) (w : Sl α) : AO := .vec e s b w.len (fun i => FdC.enc (w.get i))

/-! Slices that grow, of typed data. -/
abbrev w64 (n : Int) : Int := IntKind.wrap .i64 n
def room (n b : Nat) : Bool := decide (n * b ≤ 140737488355328 ∧ n ≤ 9223372036854775807)
section
variable {α : Type} [FdC α]
def rowG (g : Nat → α) (r : Nat → List PV) (i : Nat) : α := (FdC.dec (nzG (FdC.enc (g 0)) r i)).1
def apG (n : Nat) (g h : Nat → α) : Nat → α := rowG g (appG n (fun i => FdC.enc (g i)) fun i => FdC.enc (h i))
def seG (i : Nat) (g : Nat → α) (x : α) : Nat → α := rowG g (setG i 0 (fun i => FdC.enc (g i)) (FdC.enc x))
def lsG (l : List α) : Nat → α := fun i => (FdC.dec (nzG (getL (l.map FdC.enc) 0) (getL (l.map FdC.enc)) i)).1
def shG (g : Nat → α) (n i : Nat) : α := g (i + n)
class DeC (α : Type) [FdC α] : Prop where
  de : ∀ x : α, (FdC.dec (FdC.enc x)).1 = x
instance [Inhabited α] [DeC α] : DeC (Sl α) := ⟨fun x => by
  obtain ⟨n, f⟩ := x
  show (⟨n, fun i => (FdC.dec (FdC.enc (f i))).1⟩ : Sl α) = ⟨n, f⟩
  congr 1; funext i; exact DeC.de (f i)⟩
variable [DeC α]
theorem rowG_eq {g : Nat → α} {r : Nat → List PV} {i : Nat} {x : α} (h : r i = FdC.enc x) : rowG g r i = x := by
  unfold rowG nzG
  rw [h, zipL_eq (shp_eq 8) (FdC.sm _ _), DeC.de]
theorem apG_eq (n : Nat) (g h : Nat → α) (i : Nat) : apG n g h i = if n ≤ i then h (i - n) else g i := by
  refine rowG_eq ?_
  unfold appG
  cases hb : Nat.ble n i with
  | true => rw [if_pos (Nat.le_of_ble_eq_true hb)]
  | false => rw [if_neg fun hh => by rw [Nat.ble_eq_true_of_le hh] at hb; cases hb]
theorem spl_full {β : Type} : ∀ (l m : List β), l.length = m.length → spl l 0 m = m := by
  have key : ∀ (m pre l : List β), l.length = m.length → spl (pre ++ l) pre.length m = pre ++ m := by
    intro m
    induction m with
    | nil => intro pre l h; cases l with
      | nil => rfl
      | cons => cases h
    | cons x m ih =>
      intro pre l h
      cases l with
      | nil => cases h
      | cons y l =>
        show spl ((pre ++ y :: l).set pre.length x) (pre.length + 1) m = _
        have e : (pre ++ y :: l).set pre.length x = (pre ++ [x]) ++ l := by simp
        rw [e]
        have := ih (pre ++ [x]) l (by simpa using h)
        simp only [List.length_append, List.length_cons, List.length_nil, Nat.zero_add] at this
        rw [this]; simp
  intro l m h
  exact key m [] l h
theorem seG_eq (i : Nat) (g : Nat → α) (x : α) (j : Nat) : seG i g x j = if j = i then x else g j := by
  refine rowG_eq ?_
  unfold setG
  cases hb : Nat.beq j i with
  | true => rw [if_pos (Nat.eq_of_beq_eq_true hb)]; exact spl_full _ _ (FdC.sm (g j) x).length
  | false => rw [if_neg (Nat.ne_of_beq_eq_false hb)]
end
end Go.Pm
namespace Go.Pm
instance dz0 : DrawZ := ⟨0⟩
end Go.Pm
namespace Go.Proofs
open Go Go.Pm
set_option maxRecDepth 100000
structure Span where
  Low : Int
  High : Int
deriving Inhabited
instance : FdC Span := FdC.iso (α := Int × Int) (fun ⟨x0, x1⟩ => ⟨x0, x1⟩) (fun x => (x.Low, x.High)) (fun _ => rfl)
instance : PaC Span := .agg'
structure Drift where
  Time : Int
  Radius : Span
deriving Inhabited
instance : FdC Drift := FdC.iso (α := Int × Span) (fun ⟨x0, x1⟩ => ⟨x0, x1⟩) (fun x => (x.Time, x.Radius)) (fun _ => rfl)
instance : PaC Drift := .agg'
structure Plane where
  Kind : Int
  View : Int
  Z : Int
  First : Int
  Pitch : Int
  Strips : Int
  Spill : Int
  Offset : Span
  Clock : Span
  Jitter : Int
  Least : Int
  Drift : Sl Drift
  Dead : Sl Int
deriving Inhabited
instance : FdC Plane := FdC.iso (α := Int × Int × Int × Int × Int × Int × Int × Span × Span × Int × Int × Sl Drift × Sl Int) (fun ⟨x0, x1, x2, x3, x4, x5, x6, x7, x8, x9, x10, x11, x12⟩ => ⟨x0, x1, x2, x3, x4, x5, x6, x7, x8, x9, x10, x11, x12⟩) (fun x => (x.Kind, x.View, x.Z, x.First, x.Pitch, x.Strips, x.Spill, x.Offset, x.Clock, x.Jitter, x.Least, x.Drift, x.Dead)) (fun _ => rfl)
instance : PaC Plane := .agg'
structure Setup where
  Planes : Sl Plane
deriving Inhabited
instance : FdC Setup := FdC.iso (α := Sl Plane) (fun x0 => ⟨x0⟩) (fun x => x.Planes) (fun _ => rfl)
instance : PaC Setup := .agg'
structure Rules where
  Need : Int
  Miss : Int
deriving Inhabited
instance : FdC Rules := FdC.iso (α := Int × Int) (fun ⟨x0, x1⟩ => ⟨x0, x1⟩) (fun x => (x.Need, x.Miss)) (fun _ => rfl)
instance : PaC Rules := .agg'
structure Hit where
  Plane : Int
  Channel : Int
  Many : Int
  Drift : Int
  Charge : Int
  Time : Int
deriving Inhabited
instance : FdC Hit := FdC.iso (α := Int × Int × Int × Int × Int × Int) (fun ⟨x0, x1, x2, x3, x4, x5⟩ => ⟨x0, x1, x2, x3, x4, x5⟩) (fun x => (x.Plane, x.Channel, x.Many, x.Drift, x.Charge, x.Time)) (fun _ => rfl)
instance : PaC Hit := .agg'
structure Track where
  View : Int
  Hits : Sl Int
  Sides : Sl Int
deriving Inhabited
instance : FdC Track := FdC.iso (α := Int × Sl Int × Sl Int) (fun ⟨x0, x1, x2⟩ => ⟨x0, x1, x2⟩) (fun x => (x.View, x.Hits, x.Sides)) (fun _ => rfl)
instance : PaC Track := .agg'
structure Gate where
  Z : Int
  Low : Int
  High : Int
deriving Inhabited
instance : FdC Gate := FdC.iso (α := Int × Int × Int) (fun ⟨x0, x1, x2⟩ => ⟨x0, x1, x2⟩) (fun x => (x.Z, x.Low, x.High)) (fun _ => rfl)
instance : PaC Gate := .agg'
structure event where
  Setup : Setup
  hits : Sl Hit
  gates : Sl (Sl Gate)
  rules : Rules
deriving Inhabited
instance : FdC event := FdC.iso (α := Setup × Sl Hit × Sl (Sl Gate) × Rules) (fun ⟨x0, x1, x2, x3⟩ => ⟨x0, x1, x2, x3⟩) (fun x => (x.Setup, x.hits, x.gates, x.rules)) (fun _ => rfl)
instance : PaC event := .agg'
structure straight where
  slope : Int
  start : Int
  den : Int
deriving Inhabited
instance : FdC straight := FdC.iso (α := Int × Int × Int) (fun ⟨x0, x1, x2⟩ => ⟨x0, x1, x2⟩) (fun x => (x.slope, x.start, x.den)) (fun _ => rfl)
instance : PaC straight := .agg'
structure placed where
  Plane : Plane
  index : Int
deriving Inhabited
instance : FdC placed := FdC.iso (α := Plane × Int) (fun ⟨x0, x1⟩ => ⟨x0, x1⟩) (fun x => (x.Plane, x.index)) (fun _ => rfl)
instance : PaC placed := .agg'
structure found where
  event : Pt event
  fits : Sl Track
  tracks : Sl Track
deriving Inhabited
instance : FdC found := FdC.iso (α := Pt event × Sl Track × Sl Track) (fun ⟨x0, x1, x2⟩ => ⟨x0, x1, x2⟩) (fun x => (x.event, x.fits, x.tracks)) (fun _ => rfl)
instance : PaC found := .agg'
structure Frac where
  Num : Int
  Den : Int
deriving Inhabited
instance : FdC Frac := FdC.iso (α := Int × Int) (fun ⟨x0, x1⟩ => ⟨x0, x1⟩) (fun x => (x.Num, x.Den)) (fun _ => rfl)
instance : PaC Frac := .agg'
structure Line where
  Slope : Frac
  Start : Frac
deriving Inhabited
instance : FdC Line := FdC.iso (α := Frac × Frac) (fun ⟨x0, x1⟩ => ⟨x0, x1⟩) (fun x => (x.Slope, x.Start)) (fun _ => rfl)
instance : PaC Line := .agg'
structure Reason where
  Rule : Int
  Hits : Sl Int
  Planes : Sl Int
  Greater : Track
deriving Inhabited
instance : FdC Reason := FdC.iso (α := Int × Sl Int × Sl Int × Track) (fun ⟨x0, x1, x2, x3⟩ => ⟨x0, x1, x2, x3⟩) (fun x => (x.Rule, x.Hits, x.Planes, x.Greater)) (fun _ => rfl)
instance : PaC Reason := .agg'
structure Muon where
  X : Int
  Y : Int
deriving Inhabited
instance : FdC Muon := FdC.iso (α := Int × Int) (fun ⟨x0, x1⟩ => ⟨x0, x1⟩) (fun x => (x.X, x.Y)) (fun _ => rfl)
instance : PaC Muon := .agg'
structure Bin where
  View : Int
  Low : Frac
  High : Frac
deriving Inhabited
instance : FdC Bin := FdC.iso (α := Int × Frac × Frac) (fun ⟨x0, x1, x2⟩ => ⟨x0, x1, x2⟩) (fun x => (x.View, x.Low, x.High)) (fun _ => rfl)
instance : PaC Bin := .agg'
structure Tally where
  Sure : Int
  Possible : Int
deriving Inhabited
instance : FdC Tally := FdC.iso (α := Int × Int) (fun ⟨x0, x1⟩ => ⟨x0, x1⟩) (fun x => (x.Sure, x.Possible)) (fun _ => rfl)
instance : PaC Tally := .agg'
structure list where
  Gates : Sl Gate
deriving Inhabited
instance : FdC list := FdC.iso (α := Sl Gate) (fun x0 => ⟨x0⟩) (fun x => x.Gates) (fun _ => rfl)
instance : PaC list := .agg'
structure set where
  list : list
  corners : Sl straight
deriving Inhabited
instance : FdC set := FdC.iso (α := list × Sl straight) (fun ⟨x0, x1⟩ => ⟨x0, x1⟩) (fun x => (x.list, x.corners)) (fun _ => rfl)
instance : PaC set := .agg'
instance : DeC Int := ⟨fun _ => rfl⟩
instance : DeC Bool := ⟨fun _ => rfl⟩
instance : DeC Span := ⟨fun _ => rfl⟩
instance : DeC Drift := ⟨fun _ => rfl⟩
instance : DeC Plane := ⟨fun _ => rfl⟩
instance : DeC Setup := ⟨fun _ => rfl⟩
instance : DeC Rules := ⟨fun _ => rfl⟩
instance : DeC Hit := ⟨fun _ => rfl⟩
instance : DeC Track := ⟨fun _ => rfl⟩
instance : DeC Gate := ⟨fun _ => rfl⟩
instance : DeC event := ⟨fun _ => rfl⟩
instance : DeC straight := ⟨fun _ => rfl⟩
instance : DeC placed := ⟨fun _ => rfl⟩
instance : DeC found := ⟨fun _ => rfl⟩
instance : DeC Frac := ⟨fun _ => rfl⟩
instance : DeC Line := ⟨fun _ => rfl⟩
instance : DeC Reason := ⟨fun _ => rfl⟩
instance : DeC Muon := ⟨fun _ => rfl⟩
instance : DeC Bin := ⟨fun _ => rfl⟩
instance : DeC Tally := ⟨fun _ => rfl⟩
instance : DeC list := ⟨fun _ => rfl⟩
instance : DeC set := ⟨fun _ => rfl⟩
end Go.Proofs
namespace Go.Pm
variable [DrawZ]
open Go Go.Deep

theorem add_add2 (b o i j : Nat) : ((⟨b, o, none⟩ : Addr).add i).add j = ⟨b, o + i + j, none⟩ := by
  simp only [Addr.add]
  by_cases h1 : i = 0
  · subst h1
    by_cases h2 : j = 0
    · subst h2; rfl
    · rw [if_neg h2]; rfl
  · rw [if_neg h1]
    by_cases h2 : j = 0
    · subst h2; rfl
    · rw [if_neg h2]
def H0 (w : World) : Fz := fun b => (w.heap[b]?).map .fz
theorem hw_H0 (w : World) : Hw (H0 w) w := by
  intro b x h
  unfold H0 at h
  cases e : w.heap[b]? with
  | none => rw [e] at h; cases h
  | some o => rw [e] at h; cases h; exact ⟨o, rfl, rfl⟩
def wfI (x : Int) : Prop := -9223372036854775808 ≤ x ∧ x ≤ 9223372036854775807
class WfC (α : Type) where
  wf : α → Prop
instance : WfC Int := ⟨wfI⟩
instance : WfC Bool := ⟨fun _ => True⟩
instance {α : Type} [WfC α] : WfC (Sl α) := ⟨fun x => x.len ≤ 9223372036854775807 ∧ ∀ i, i < x.len → WfC.wf (x.get i)⟩
section
variable {H : Type} {en : TypeId × Value → H} {P : Program} {w : World} {sp : Nat → Bool} {held : Bool}
def Rd (H : Type) (en : TypeId × Value → H) (P : Program) (w : World) (sp : Nat → Bool) (held : Bool) (t : TypeId) (α : Type) [FdC α] [WfC α] : Prop :=
  ∀ (fuel : Nat) (cs : List Value) (x : DataW H × List MemPlace), DataW.trod en P w 0 sp held fuel t cs = some x → ∃ a : α, RL (Rep (H0 w)) (FdC.enc a) cs ∧ WfC.wf a
theorem rd_int {t : TypeId} (ht : P.underlying t = some (.int .i64)) : Rd H en P w sp held t Int := by
  intro fuel cs x h
  obtain ⟨n, rfl, _, hw⟩ := DataW.trod_int ht h
  refine ⟨n, ⟨.int _ _, trivial⟩, ?_⟩
  simp only [Lit.wf, Bool.and_eq_true, decide_eq_true_eq] at hw
  exact ⟨hw.1, hw.2⟩
theorem rd_struct {t : TypeId} {fs : Array Field} (ht : P.underlying t = some (.struct fs)) {fuel : Nat} {cs : List Value} {x : DataW H × List MemPlace} (h : DataW.trod en P w 0 sp held fuel t cs = some x) :
    cs.length = P.cellsOf t ∧ ∀ (i : Nat) (f : Field), fs[i]? = some f → ∃ n y, DataW.trod en P w 0 sp held n f.type ((cs.drop f.offset).take (P.cellsOf f.type)) = some y := by
  obtain ⟨xs, n, _, _, hl, hx, hf⟩ := DataW.trod_struct ht h
  refine ⟨hl, fun i f hi => ?_⟩
  have hlt : i < xs.length := by rw [hx]; exact (Array.getElem?_eq_some_iff.1 hi).1
  exact ⟨n, xs[i], by rw [hf i f hi, List.getElem?_eq_getElem hlt]⟩
theorem rd_slice {t e : TypeId} {α : Type} [FdC α] [WfC α] [Inhabited α] {s : Nat} (ht : P.underlying t = some (.slice e)) (hc : P.cellsOf e = s) (he : s = (FdC.enc (default : α)).length) (hs : 0 < s)
    (hel : Rd H en P w sp held e α) : Rd H en P w sp held t (Sl α) := by
  have hlen : ∀ a : α, (FdC.enc a).length = s := fun a => by rw [he]; exact (FdC.sm a default).length
  intro fuel cs x h
  rcases open_slice ht h with ⟨rfl, _⟩ | ⟨a, len, cap, m, n, D, Pl, rfl, _, hl, hm, hmm, _, hget⟩
  · exact ⟨⟨0, fun _ => default⟩, ⟨.sl0 _ _ (fun _ _ => FdC.sm _ _), trivial⟩, Nat.zero_le _, fun i hi => absurd hi (Nat.not_lt_zero i)⟩
  · by_cases h0 : len = 0
    · subst h0
      exact ⟨⟨0, fun _ => default⟩, ⟨.sle _ _ _ _ (fun _ _ => FdC.sm _ _), trivial⟩, Nat.zero_le _, fun i hi => absurd hi (Nat.not_lt_zero i)⟩
    · have hlm : len ≤ m := by rw [hmm]; split <;> omega
      rw [hc] at hget
      have hex : ∀ i, i < len → ∃ y : α, (∃ cs', w.cells? 0 (a.add (i * s)) s = some cs' ∧ RL (Rep (H0 w)) (FdC.enc y) cs') ∧ WfC.wf y := by
        intro i hi
        obtain ⟨cs', h1, h2⟩ := hget i (by omega)
        obtain ⟨y, h3, h4⟩ := hel _ _ _ h2
        exact ⟨y, ⟨cs', h1, h3⟩, h4⟩
      have hch : ∃ f : Nat → α, ∀ i, i < len → (∃ cs', w.cells? 0 (a.add (i * s)) s = some cs' ∧ RL (Rep (H0 w)) (FdC.enc (f i)) cs') ∧ WfC.wf (f i) := by
        refine ⟨fun i => if hi : i < len then Classical.choose (hex i hi) else default, fun i hi => ?_⟩
        simp only [dif_pos hi]
        exact Classical.choose_spec (hex i hi)
      obtain ⟨f, hf⟩ := hch
      -- the block
      have hcell : ∀ i, i < len → ∀ j, j < s → ∃ cs', w.cells? 0 (a.add (i * s)) s = some cs' ∧ RL (Rep (H0 w)) (FdC.enc (f i)) cs' ∧ w.cell? ((a.add (i * s)).add j) = cs'[j]? ∧ cs'.length = s := by
        intro i hi j hj
        obtain ⟨⟨cs', h1, h2⟩, _⟩ := hf i hi
        obtain ⟨_, h3, h4⟩ := World.cells?_some h1
        exact ⟨cs', h1, h2, h4 j hj, h3⟩
      obtain ⟨cs0, _, _, hc0, hl0⟩ := hcell 0 (by omega) 0 hs
      have ha0 : w.cell? a = cs0[0]? := by simpa [Addr.add] using hc0
      rw [List.getElem?_eq_getElem (by omega)] at ha0
      obtain ⟨C, ty, fr, hblk, hspot⟩ : ∃ C ty fr, w.heap[a.block]? = some (.cells C ty fr) ∧ a.spot = none := by
        unfold World.cell? at ha0
        split at ha0
        · rename_i C ty fr hb
          refine ⟨C, ty, fr, hb, ?_⟩
          cases hsp : a.spot with
          | none => rfl
          | some k => rw [hsp] at ha0; simp at ha0
        · cases ha0
      have ea : a = ⟨a.block, a.off, none⟩ := by rw [← hspot]
      have hat : ∀ i j, i < len → j < s → ∃ cs', RL (Rep (H0 w)) (FdC.enc (f i)) cs' ∧ C[a.off + i * s + j]? = cs'[j]? ∧ cs'.length = s := by
        intro i j hi hj
        obtain ⟨cs', _, h2, h3, h4⟩ := hcell i hi j hj
        refine ⟨cs', h2, ?_, h4⟩
        rw [← h3]
        have e2 : (a.add (i * s)).add j = ⟨a.block, a.off + i * s + j, none⟩ := (congrArg (fun z : Addr => (z.add (i * s)).add j) ea).trans (add_add2 _ _ _ _)
        rw [e2]
        simp [World.cell?, hblk]
      refine ⟨⟨len, f⟩, ⟨?_, trivial⟩, by simp only [maxLen] at hm; show len ≤ _; omega, fun i hi => (hf i hi).2⟩
      rw [ea]
      show Rep (H0 w) (.sl len (FdC.enc (default : α)).length (fun i => FdC.enc (f i))) _
      rw [← he]
      refine .sl len s _ (fun _ _ => FdC.sm _ _) a.block a.off cap C ty fr (fun i j => C.getD (a.off + i * s + j) undef) (by simp [H0, hblk]) hl (fun i _ => hlen _) ?_ ?_
      · intro i j x hi hx
        have hj : j < s := by have := (List.getElem?_eq_some_iff.1 hx).1; rw [hlen] at this; exact this
        obtain ⟨cs', h1, h2, h3⟩ := hat i j hi hj
        rw [Array.getD_eq_getD_getElem?, h2, List.getElem?_eq_getElem (by omega)]
        rfl
      · intro i j x hi hx
        have hj : j < s := by have := (List.getElem?_eq_some_iff.1 hx).1; rw [hlen] at this; exact this
        obtain ⟨cs', h1, h2, h3⟩ := hat i j hi hj
        obtain ⟨v, hv, hr⟩ := h1.get j x hx
        rw [Array.getD_eq_getD_getElem?, h2, hv]
        exact hr
theorem split_drop {α : Type} (l : List α) (o s : Nat) : l.drop o = (l.drop o).take s ++ l.drop (o + s) := by
  rw [← List.drop_drop]
  exact (List.take_append_drop s (l.drop o)).symm
theorem okWide_agg {t : TypeId} {fs : Array Field} {r : Reach} {base : Nat} {v : Value} (ht : P.underlying t = some (.struct fs)) (h : Value.okWide P w r base t v) : ∃ cs, v = .agg cs := by
  unfold Value.okWide at h
  rw [ht] at h
  obtain ⟨cs, hv, _⟩ := h
  exact ⟨cs, hv⟩
def flatT : TypeDesc → Bool
  | .struct _ => false
  | .array _ _ => false
  | _ => true
theorem okWide_one {t : TypeId} {d : TypeDesc} {r : Reach} {base : Nat} {v : Value} (ht : P.underlying t = some d) (hd : flatT d = true) (h : Value.okWide P w r base t v) : v.cells.toList = [v] := by
  unfold Value.okWide at h
  rw [ht] at h
  cases v with
  | agg cs =>
    exfalso
    cases d <;> first | (cases hd; done) | (simp only [Cell.okWide, Cell.ok, ht] at h)
  | _ => rfl
theorem pa_one {h : Fz} {p : PV} {v : Value} (hv : v.cells.toList = [v]) (r : RL (Rep h) [p] v.cells.toList) : paR h (.one p) v := by
  rw [hv] at r
  exact r.1
theorem pa_agg {h : Fz} {l : List PV} {v : Value} (hv : ∃ cs, v = .agg cs) (r : RL (Rep h) l v.cells.toList) : paR h (.agg l) v := by
  obtain ⟨cs, rfl⟩ := hv
  exact ⟨cs.toList, by simp, r⟩
theorem below_H0 {w' : World} (b : Bel (H0 w) w.heap.size w w') : Go.RowKit.Below w.heap.size w w' :=
  ⟨b.os, b.tape, b.output, b.size, fun k hk => b.block k hk⟩
end
end Go.Pm
namespace Go.Proofs
open Go Go.Pm
set_option maxRecDepth 100000
theorem C_3 : Tryz.prog.cellsOf 3 = 1 := by kernel_rfl
theorem C_22 : Tryz.prog.cellsOf 22 = 1 := by kernel_rfl
theorem C_24 : Tryz.prog.cellsOf 24 = 1 := by kernel_rfl
theorem C_26 : Tryz.prog.cellsOf 26 = 2 := by kernel_rfl
theorem C_38 : Tryz.prog.cellsOf 38 = 1 := by kernel_rfl
theorem C_39 : Tryz.prog.cellsOf 39 = 1 := by kernel_rfl
theorem C_43 : Tryz.prog.cellsOf 43 = 3 := by kernel_rfl
theorem C_92 : Tryz.prog.cellsOf 92 = 6 := by kernel_rfl
theorem C_105 : Tryz.prog.cellsOf 105 = 2 := by kernel_rfl
theorem C_121 : Tryz.prog.cellsOf 121 = 1 := by kernel_rfl
theorem C_122 : Tryz.prog.cellsOf 122 = 1 := by kernel_rfl
theorem C_124 : Tryz.prog.cellsOf 124 = 15 := by kernel_rfl
theorem C_264 : Tryz.prog.cellsOf 264 = 3 := by kernel_rfl
section
variable {H : Type} {en : TypeId × Value → H} {w : World} {sp : Nat → Bool} {held : Bool}
theorem rd_121 : Rd H en Tryz.prog w sp held 121 Int := rd_int Tryz.underlying121
theorem rd_38 : Rd H en Tryz.prog w sp held 38 Int := rd_int Tryz.underlying38
theorem rd_3 : Rd H en Tryz.prog w sp held 3 Int := rd_int Tryz.underlying3
instance : WfC Span := ⟨fun x => WfC.wf x.Low ∧ WfC.wf x.High⟩
theorem rd_105 : Rd H en Tryz.prog w sp held 105 Span := by
  intro fuel cs x h
  obtain ⟨hl, hf⟩ := rd_struct Tryz.underlying105 h
  rw [C_105] at hl
  obtain ⟨n0, y0, g0⟩ := hf 0 _ rfl
  have g0 : DataW.trod en Tryz.prog w 0 sp held n0 3 ((cs.drop 0).take (Tryz.prog.cellsOf 3)) = some y0 := g0
  rw [C_3] at g0
  obtain ⟨a0, r0, w0⟩ := rd_3 _ _ _ g0
  obtain ⟨n1, y1, g1⟩ := hf 1 _ rfl
  have g1 : DataW.trod en Tryz.prog w 0 sp held n1 3 ((cs.drop 1).take (Tryz.prog.cellsOf 3)) = some y1 := g1
  rw [C_3] at g1
  obtain ⟨a1, r1, w1⟩ := rd_3 _ _ _ g1
  rw [List.take_of_length_le (l := cs.drop 1) (by rw [List.length_drop]; omega)] at r1
  have R := (r0.append r1)
  rw [← (show cs.drop 0 = (cs.drop 0).take 1 ++ cs.drop 1 from split_drop cs 0 1)] at R
  exact ⟨⟨a0, a1⟩, R, ⟨w0, w1⟩⟩
instance : WfC Drift := ⟨fun x => WfC.wf x.Time ∧ WfC.wf x.Radius⟩
theorem rd_264 : Rd H en Tryz.prog w sp held 264 Drift := by
  intro fuel cs x h
  obtain ⟨hl, hf⟩ := rd_struct Tryz.underlying264 h
  rw [C_264] at hl
  obtain ⟨n0, y0, g0⟩ := hf 0 _ rfl
  have g0 : DataW.trod en Tryz.prog w 0 sp held n0 3 ((cs.drop 0).take (Tryz.prog.cellsOf 3)) = some y0 := g0
  rw [C_3] at g0
  obtain ⟨a0, r0, w0⟩ := rd_3 _ _ _ g0
  obtain ⟨n1, y1, g1⟩ := hf 1 _ rfl
  have g1 : DataW.trod en Tryz.prog w 0 sp held n1 105 ((cs.drop 1).take (Tryz.prog.cellsOf 105)) = some y1 := g1
  rw [C_105] at g1
  obtain ⟨a1, r1, w1⟩ := rd_105 _ _ _ g1
  rw [List.take_of_length_le (l := cs.drop 1) (by rw [List.length_drop]; omega)] at r1
  have R := (r0.append r1)
  rw [← (show cs.drop 0 = (cs.drop 0).take 1 ++ cs.drop 1 from split_drop cs 0 1)] at R
  exact ⟨⟨a0, a1⟩, R, ⟨w0, w1⟩⟩
theorem rd_122 : Rd H en Tryz.prog w sp held 122 (Sl Drift) := rd_slice Tryz.underlying122 C_264 rfl (by decide) rd_264
theorem rd_39 : Rd H en Tryz.prog w sp held 39 (Sl Int) := rd_slice Tryz.underlying39 C_3 rfl (by decide) rd_3
instance : WfC Plane := ⟨fun x => WfC.wf x.Kind ∧ WfC.wf x.View ∧ WfC.wf x.Z ∧ WfC.wf x.First ∧ WfC.wf x.Pitch ∧ WfC.wf x.Strips ∧ WfC.wf x.Spill ∧ WfC.wf x.Offset ∧ WfC.wf x.Clock ∧ WfC.wf x.Jitter ∧ WfC.wf x.Least ∧ WfC.wf x.Drift ∧ WfC.wf x.Dead⟩
theorem rd_124 : Rd H en Tryz.prog w sp held 124 Plane := by
  intro fuel cs x h
  obtain ⟨hl, hf⟩ := rd_struct Tryz.underlying124 h
  rw [C_124] at hl
  obtain ⟨n0, y0, g0⟩ := hf 0 _ rfl
  have g0 : DataW.trod en Tryz.prog w 0 sp held n0 121 ((cs.drop 0).take (Tryz.prog.cellsOf 121)) = some y0 := g0
  rw [C_121] at g0
  obtain ⟨a0, r0, w0⟩ := rd_121 _ _ _ g0
  obtain ⟨n1, y1, g1⟩ := hf 1 _ rfl
  have g1 : DataW.trod en Tryz.prog w 0 sp held n1 38 ((cs.drop 1).take (Tryz.prog.cellsOf 38)) = some y1 := g1
  rw [C_38] at g1
  obtain ⟨a1, r1, w1⟩ := rd_38 _ _ _ g1
  obtain ⟨n2, y2, g2⟩ := hf 2 _ rfl
  have g2 : DataW.trod en Tryz.prog w 0 sp held n2 3 ((cs.drop 2).take (Tryz.prog.cellsOf 3)) = some y2 := g2
  rw [C_3] at g2
  obtain ⟨a2, r2, w2⟩ := rd_3 _ _ _ g2
  obtain ⟨n3, y3, g3⟩ := hf 3 _ rfl
  have g3 : DataW.trod en Tryz.prog w 0 sp held n3 3 ((cs.drop 3).take (Tryz.prog.cellsOf 3)) = some y3 := g3
  rw [C_3] at g3
  obtain ⟨a3, r3, w3⟩ := rd_3 _ _ _ g3
  obtain ⟨n4, y4, g4⟩ := hf 4 _ rfl
  have g4 : DataW.trod en Tryz.prog w 0 sp held n4 3 ((cs.drop 4).take (Tryz.prog.cellsOf 3)) = some y4 := g4
  rw [C_3] at g4
  obtain ⟨a4, r4, w4⟩ := rd_3 _ _ _ g4
  obtain ⟨n5, y5, g5⟩ := hf 5 _ rfl
  have g5 : DataW.trod en Tryz.prog w 0 sp held n5 3 ((cs.drop 5).take (Tryz.prog.cellsOf 3)) = some y5 := g5
  rw [C_3] at g5
  obtain ⟨a5, r5, w5⟩ := rd_3 _ _ _ g5
  obtain ⟨n6, y6, g6⟩ := hf 6 _ rfl
  have g6 : DataW.trod en Tryz.prog w 0 sp held n6 3 ((cs.drop 6).take (Tryz.prog.cellsOf 3)) = some y6 := g6
  rw [C_3] at g6
  obtain ⟨a6, r6, w6⟩ := rd_3 _ _ _ g6
  obtain ⟨n7, y7, g7⟩ := hf 7 _ rfl
  have g7 : DataW.trod en Tryz.prog w 0 sp held n7 105 ((cs.drop 7).take (Tryz.prog.cellsOf 105)) = some y7 := g7
  rw [C_105] at g7
  obtain ⟨a7, r7, w7⟩ := rd_105 _ _ _ g7
  obtain ⟨n8, y8, g8⟩ := hf 8 _ rfl
  have g8 : DataW.trod en Tryz.prog w 0 sp held n8 105 ((cs.drop 9).take (Tryz.prog.cellsOf 105)) = some y8 := g8
  rw [C_105] at g8
  obtain ⟨a8, r8, w8⟩ := rd_105 _ _ _ g8
  obtain ⟨n9, y9, g9⟩ := hf 9 _ rfl
  have g9 : DataW.trod en Tryz.prog w 0 sp held n9 3 ((cs.drop 11).take (Tryz.prog.cellsOf 3)) = some y9 := g9
  rw [C_3] at g9
  obtain ⟨a9, r9, w9⟩ := rd_3 _ _ _ g9
  obtain ⟨n10, y10, g10⟩ := hf 10 _ rfl
  have g10 : DataW.trod en Tryz.prog w 0 sp held n10 3 ((cs.drop 12).take (Tryz.prog.cellsOf 3)) = some y10 := g10
  rw [C_3] at g10
  obtain ⟨a10, r10, w10⟩ := rd_3 _ _ _ g10
  obtain ⟨n11, y11, g11⟩ := hf 11 _ rfl
  have g11 : DataW.trod en Tryz.prog w 0 sp held n11 122 ((cs.drop 13).take (Tryz.prog.cellsOf 122)) = some y11 := g11
  rw [C_122] at g11
  obtain ⟨a11, r11, w11⟩ := rd_122 _ _ _ g11
  obtain ⟨n12, y12, g12⟩ := hf 12 _ rfl
  have g12 : DataW.trod en Tryz.prog w 0 sp held n12 39 ((cs.drop 14).take (Tryz.prog.cellsOf 39)) = some y12 := g12
  rw [C_39] at g12
  obtain ⟨a12, r12, w12⟩ := rd_39 _ _ _ g12
  rw [List.take_of_length_le (l := cs.drop 14) (by rw [List.length_drop]; omega)] at r12
  have R := (r0.append (r1.append (r2.append (r3.append (r4.append (r5.append (r6.append (r7.append (r8.append (r9.append (r10.append (r11.append r12))))))))))))
  rw [← (show cs.drop 13 = (cs.drop 13).take 1 ++ cs.drop 14 from split_drop cs 13 1)] at R
  rw [← (show cs.drop 12 = (cs.drop 12).take 1 ++ cs.drop 13 from split_drop cs 12 1)] at R
  rw [← (show cs.drop 11 = (cs.drop 11).take 1 ++ cs.drop 12 from split_drop cs 11 1)] at R
  rw [← (show cs.drop 9 = (cs.drop 9).take 2 ++ cs.drop 11 from split_drop cs 9 2)] at R
  rw [← (show cs.drop 7 = (cs.drop 7).take 2 ++ cs.drop 9 from split_drop cs 7 2)] at R
  rw [← (show cs.drop 6 = (cs.drop 6).take 1 ++ cs.drop 7 from split_drop cs 6 1)] at R
  rw [← (show cs.drop 5 = (cs.drop 5).take 1 ++ cs.drop 6 from split_drop cs 5 1)] at R
  rw [← (show cs.drop 4 = (cs.drop 4).take 1 ++ cs.drop 5 from split_drop cs 4 1)] at R
  rw [← (show cs.drop 3 = (cs.drop 3).take 1 ++ cs.drop 4 from split_drop cs 3 1)] at R
  rw [← (show cs.drop 2 = (cs.drop 2).take 1 ++ cs.drop 3 from split_drop cs 2 1)] at R
  rw [← (show cs.drop 1 = (cs.drop 1).take 1 ++ cs.drop 2 from split_drop cs 1 1)] at R
  rw [← (show cs.drop 0 = (cs.drop 0).take 1 ++ cs.drop 1 from split_drop cs 0 1)] at R
  exact ⟨⟨a0, a1, a2, a3, a4, a5, a6, a7, a8, a9, a10, a11, a12⟩, R, ⟨w0, w1, w2, w3, w4, w5, w6, w7, w8, w9, w10, w11, w12⟩⟩
theorem rd_22 : Rd H en Tryz.prog w sp held 22 (Sl Plane) := rd_slice Tryz.underlying22 C_124 rfl (by decide) rd_124
instance : WfC Setup := ⟨fun x => WfC.wf x.Planes⟩
theorem rd_24 : Rd H en Tryz.prog w sp held 24 Setup := by
  intro fuel cs x h
  obtain ⟨hl, hf⟩ := rd_struct Tryz.underlying24 h
  rw [C_24] at hl
  obtain ⟨n0, y0, g0⟩ := hf 0 _ rfl
  have g0 : DataW.trod en Tryz.prog w 0 sp held n0 22 ((cs.drop 0).take (Tryz.prog.cellsOf 22)) = some y0 := g0
  rw [C_22] at g0
  obtain ⟨a0, r0, w0⟩ := rd_22 _ _ _ g0
  rw [List.take_of_length_le (l := cs.drop 0) (by rw [List.length_drop]; omega)] at r0
  have R := r0
  exact ⟨⟨a0⟩, R, w0⟩
instance : WfC Rules := ⟨fun x => WfC.wf x.Need ∧ WfC.wf x.Miss⟩
theorem rd_26 : Rd H en Tryz.prog w sp held 26 Rules := by
  intro fuel cs x h
  obtain ⟨hl, hf⟩ := rd_struct Tryz.underlying26 h
  rw [C_26] at hl
  obtain ⟨n0, y0, g0⟩ := hf 0 _ rfl
  have g0 : DataW.trod en Tryz.prog w 0 sp held n0 3 ((cs.drop 0).take (Tryz.prog.cellsOf 3)) = some y0 := g0
  rw [C_3] at g0
  obtain ⟨a0, r0, w0⟩ := rd_3 _ _ _ g0
  obtain ⟨n1, y1, g1⟩ := hf 1 _ rfl
  have g1 : DataW.trod en Tryz.prog w 0 sp held n1 3 ((cs.drop 1).take (Tryz.prog.cellsOf 3)) = some y1 := g1
  rw [C_3] at g1
  obtain ⟨a1, r1, w1⟩ := rd_3 _ _ _ g1
  rw [List.take_of_length_le (l := cs.drop 1) (by rw [List.length_drop]; omega)] at r1
  have R := (r0.append r1)
  rw [← (show cs.drop 0 = (cs.drop 0).take 1 ++ cs.drop 1 from split_drop cs 0 1)] at R
  exact ⟨⟨a0, a1⟩, R, ⟨w0, w1⟩⟩
instance : WfC Hit := ⟨fun x => WfC.wf x.Plane ∧ WfC.wf x.Channel ∧ WfC.wf x.Many ∧ WfC.wf x.Drift ∧ WfC.wf x.Charge ∧ WfC.wf x.Time⟩
theorem rd_92 : Rd H en Tryz.prog w sp held 92 Hit := by
  intro fuel cs x h
  obtain ⟨hl, hf⟩ := rd_struct Tryz.underlying92 h
  rw [C_92] at hl
  obtain ⟨n0, y0, g0⟩ := hf 0 _ rfl
  have g0 : DataW.trod en Tryz.prog w 0 sp held n0 3 ((cs.drop 0).take (Tryz.prog.cellsOf 3)) = some y0 := g0
  rw [C_3] at g0
  obtain ⟨a0, r0, w0⟩ := rd_3 _ _ _ g0
  obtain ⟨n1, y1, g1⟩ := hf 1 _ rfl
  have g1 : DataW.trod en Tryz.prog w 0 sp held n1 3 ((cs.drop 1).take (Tryz.prog.cellsOf 3)) = some y1 := g1
  rw [C_3] at g1
  obtain ⟨a1, r1, w1⟩ := rd_3 _ _ _ g1
  obtain ⟨n2, y2, g2⟩ := hf 2 _ rfl
  have g2 : DataW.trod en Tryz.prog w 0 sp held n2 3 ((cs.drop 2).take (Tryz.prog.cellsOf 3)) = some y2 := g2
  rw [C_3] at g2
  obtain ⟨a2, r2, w2⟩ := rd_3 _ _ _ g2
  obtain ⟨n3, y3, g3⟩ := hf 3 _ rfl
  have g3 : DataW.trod en Tryz.prog w 0 sp held n3 3 ((cs.drop 3).take (Tryz.prog.cellsOf 3)) = some y3 := g3
  rw [C_3] at g3
  obtain ⟨a3, r3, w3⟩ := rd_3 _ _ _ g3
  obtain ⟨n4, y4, g4⟩ := hf 4 _ rfl
  have g4 : DataW.trod en Tryz.prog w 0 sp held n4 3 ((cs.drop 4).take (Tryz.prog.cellsOf 3)) = some y4 := g4
  rw [C_3] at g4
  obtain ⟨a4, r4, w4⟩ := rd_3 _ _ _ g4
  obtain ⟨n5, y5, g5⟩ := hf 5 _ rfl
  have g5 : DataW.trod en Tryz.prog w 0 sp held n5 3 ((cs.drop 5).take (Tryz.prog.cellsOf 3)) = some y5 := g5
  rw [C_3] at g5
  obtain ⟨a5, r5, w5⟩ := rd_3 _ _ _ g5
  rw [List.take_of_length_le (l := cs.drop 5) (by rw [List.length_drop]; omega)] at r5
  have R := (r0.append (r1.append (r2.append (r3.append (r4.append r5)))))
  rw [← (show cs.drop 4 = (cs.drop 4).take 1 ++ cs.drop 5 from split_drop cs 4 1)] at R
  rw [← (show cs.drop 3 = (cs.drop 3).take 1 ++ cs.drop 4 from split_drop cs 3 1)] at R
  rw [← (show cs.drop 2 = (cs.drop 2).take 1 ++ cs.drop 3 from split_drop cs 2 1)] at R
  rw [← (show cs.drop 1 = (cs.drop 1).take 1 ++ cs.drop 2 from split_drop cs 1 1)] at R
  rw [← (show cs.drop 0 = (cs.drop 0).take 1 ++ cs.drop 1 from split_drop cs 0 1)] at R
  exact ⟨⟨a0, a1, a2, a3, a4, a5⟩, R, ⟨w0, w1, w2, w3, w4, w5⟩⟩
theorem rd_27 : Rd H en Tryz.prog w sp held 27 (Sl Hit) := rd_slice Tryz.underlying27 C_92 rfl (by decide) rd_92
instance : WfC Track := ⟨fun x => WfC.wf x.View ∧ WfC.wf x.Hits ∧ WfC.wf x.Sides⟩
theorem rd_43 : Rd H en Tryz.prog w sp held 43 Track := by
  intro fuel cs x h
  obtain ⟨hl, hf⟩ := rd_struct Tryz.underlying43 h
  rw [C_43] at hl
  obtain ⟨n0, y0, g0⟩ := hf 0 _ rfl
  have g0 : DataW.trod en Tryz.prog w 0 sp held n0 38 ((cs.drop 0).take (Tryz.prog.cellsOf 38)) = some y0 := g0
  rw [C_38] at g0
  obtain ⟨a0, r0, w0⟩ := rd_38 _ _ _ g0
  obtain ⟨n1, y1, g1⟩ := hf 1 _ rfl
  have g1 : DataW.trod en Tryz.prog w 0 sp held n1 39 ((cs.drop 1).take (Tryz.prog.cellsOf 39)) = some y1 := g1
  rw [C_39] at g1
  obtain ⟨a1, r1, w1⟩ := rd_39 _ _ _ g1
  obtain ⟨n2, y2, g2⟩ := hf 2 _ rfl
  have g2 : DataW.trod en Tryz.prog w 0 sp held n2 39 ((cs.drop 2).take (Tryz.prog.cellsOf 39)) = some y2 := g2
  rw [C_39] at g2
  obtain ⟨a2, r2, w2⟩ := rd_39 _ _ _ g2
  rw [List.take_of_length_le (l := cs.drop 2) (by rw [List.length_drop]; omega)] at r2
  have R := (r0.append (r1.append r2))
  rw [← (show cs.drop 1 = (cs.drop 1).take 1 ++ cs.drop 2 from split_drop cs 1 1)] at R
  rw [← (show cs.drop 0 = (cs.drop 0).take 1 ++ cs.drop 1 from split_drop cs 0 1)] at R
  exact ⟨⟨a0, a1, a2⟩, R, ⟨w0, w1, w2⟩⟩
end
structure E15 where
  N : Nat
  c23 : Setup × (Sl Hit) × Int → Cps (Bool)
  c19 : Unit → Cps (Bool)
  c24 : Track → Cps (Bool)
  c60 : Setup × Rules → Cps (Int)
  c61 : Setup → Cps (Bool)
  c62 : Rules → Cps (Bool)
  c59 : Setup × (Sl Hit) × Int × Int → Cps (Int × Int)
  c47 : Setup × (Sl Hit) × Track → Cps ((Sl Gate) × Int)
  c26 : Setup × Rules × (Sl Hit) → Cps (Int)
  c34 : Int → Cps (Bool)
  c63 : Setup × (Sl Hit) × Int × Int → Cps (Int)
  c27 : Setup × (Sl Hit) × Track → Cps (Bool)
  c65 : Setup × (Sl Hit) × Track → Cps ((Sl Gate))
  c64 : (Sl Gate) × (Sl Gate) → Cps (Bool)
noncomputable abbrev G15 (E : E15) : Ctrs := csm ((((((((((((((Tabs.nil.addF 23 (Cps.un E.c23)).addF 19 (Cps.un E.c19)).addF 24 (Cps.un E.c24)).addF 60 (Cps.un E.c60)).addF 61 (Cps.un E.c61)).addF 62 (Cps.un E.c62)).addF 59 (Cps.un E.c59)).addF 47 (Cps.un E.c47)).addF 26 (Cps.un E.c26)).addF 34 (Cps.un E.c34)).addF 63 (Cps.un E.c63)).addF 27 (Cps.un E.c27)).addF 65 (Cps.un E.c65)).addF 64 (Cps.un E.c64)) []
noncomputable def A15 : Ann := annOf Tryz.prog 15 [] { cut := [6, 7, 8, 9, 11, 16, 18] }
noncomputable def F15 (E : E15) : Setup × Rules × (Sl Hit) × Int × Int × Track → Cps (Bool) := Cps.ty (aF Tryz.prog E.N (G15 E) A15 15)
section
variable (E : E15) {A : Type} (k : Bool → Option A)
noncomputable def L15_1 (E : E15) (a0 : Setup) (a2 : (Sl Hit)) (a3 : Int) (a4 : Int) (a5 : Track) {A : Type} (k : Bool → Option A) : Option A :=
  ptT Tryz.prog (G15 E) E.N A15 15 [1, 1, 1] [] (tyK k)
    ⟨[(2, eP a2), (3, .int a3), (4, .int a4), (6, .cl (.ptr 6 0)), (11, .cl (.ptr 11 0))], [(6, eB 24 a0), (11, eB 43 a5)], []⟩
noncomputable def L15_2 (E : E15) (a0 : Setup) (a2 : (Sl Hit)) (a3 : Int) (a4 : Int) (a5 : Track) (v14 : Int) (v15 : Int) {A : Type} (k : Bool → Option A) : Option A :=
  ptT Tryz.prog (G15 E) E.N A15 15 [1, 1, 1, 1] [] (tyK k)
    ⟨[(2, eP a2), (3, .int a3), (4, .int a4), (6, .cl (.ptr 6 0)), (11, .cl (.ptr 11 0)), (14, .int v14), (15, .int v15)], [(6, eB 24 a0), (11, eB 43 a5)], []⟩
noncomputable def L15_3 (E : E15) (a0 : Setup) (a2 : (Sl Hit)) (a3 : Int) (a4 : Int) (a5 : Track) (v14 : Int) (v15 : Int) (v16 : (Sl Gate)) (v17 : Int) {A : Type} (k : Bool → Option A) : Option A :=
  ptT Tryz.prog (G15 E) E.N A15 15 [1, 1, 1, 1, 1] [] (tyK k)
    ⟨[(2, eP a2), (3, .int a3), (4, .int a4), (6, .cl (.ptr 6 0)), (11, .cl (.ptr 11 0)), (14, .int v14), (15, .int v15), (16, eP v16), (17, .int v17)], [(6, eB 24 a0), (11, eB 43 a5)], []⟩
noncomputable def L15_4 (E : E15) (a0 : Setup) (a2 : (Sl Hit)) (a3 : Int) (a4 : Int) (a5 : Track) (v14 : Int) (v15 : Int) (v16 : (Sl Gate)) (v17 : Int) (v18 : Int) {A : Type} (k : Bool → Option A) : Option A :=
  ptT Tryz.prog (G15 E) E.N A15 15 [1, 1, 1, 1, 1, 1] [] (tyK k)
    ⟨[(2, eP a2), (3, .int a3), (4, .int a4), (6, .cl (.ptr 6 0)), (11, .cl (.ptr 11 0)), (14, .int v14), (15, .int v15), (16, eP v16), (17, .int v17), (18, .int v18)], [(6, eB 24 a0), (11, eB 43 a5)], []⟩
noncomputable def L15_5 (E : E15) (a0 : Setup) (a2 : (Sl Hit)) (a3 : Int) (a4 : Int) (a5 : Track) (v14 : Int) (v15 : Int) (v16 : (Sl Gate)) (v17 : Int) {A : Type} (k : Bool → Option A) : Option A :=
  ptT Tryz.prog (G15 E) E.N A15 15 [1, 1, 1, 1, 1, 1, 1] [] (tyK k)
    ⟨[(2, eP a2), (3, .int a3), (4, .int a4), (6, .cl (.ptr 6 0)), (11, .cl (.ptr 11 0)), (14, .int v14), (15, .int v15), (16, eP v16), (17, .int v17)], [(6, eB 24 a0), (11, eB 43 a5)], []⟩
noncomputable def L15_6 (E : E15) (a0 : Setup) (a2 : (Sl Hit)) (a5 : Track) (v16 : (Sl Gate)) (v17 : Int) {A : Type} (k : Bool → Option A) : Option A :=
  ptT Tryz.prog (G15 E) E.N A15 15 [1, 1, 1, 1, 1, 1, 1, 1] [] (tyK k)
    ⟨[(2, eP a2), (6, .cl (.ptr 6 0)), (11, .cl (.ptr 11 0)), (16, eP v16), (17, .int v17)], [(6, eB 24 a0), (11, eB 43 a5)], []⟩
noncomputable def L15_7 (E : E15) (a0 : Setup) (a2 : (Sl Hit)) (a5 : Track) (v16 : (Sl Gate)) (v17 : Int) {A : Type} (k : Bool → Option A) : Option A :=
  ptT Tryz.prog (G15 E) E.N A15 15 [1, 1, 1, 1, 1, 1, 1, 1, 1] [] (tyK k)
    ⟨[(2, eP a2), (6, .cl (.ptr 6 0)), (11, .cl (.ptr 11 0)), (16, eP v16), (17, .int v17)], [(6, eB 24 a0), (11, eB 43 a5)], []⟩
theorem e15 (a0 : Setup) (a1 : Rules) (a2 : (Sl Hit)) (a3 : Int) (a4 : Int) (a5 : Track) : (F15 E (a0, a1, a2, a3, a4, a5)).T k =
  (E.c23 (a0, a2, 12)).T fun r1 =>
  cond (!r1)
  ((E.c19 ()).T fun r2 =>
    k r2)
  ((E.c24 a5).T fun r3 =>
    cond (!r3)
    ((E.c19 ()).T fun r4 =>
      k r4)
    ((E.c60 (a0, a1)).T fun r5 =>
      (E.c61 a0).T fun r6 =>
      cond r6
      ((E.c62 a1).T fun r7 =>
        cond ((r5 == 0) != r7)
        (k false)
        (cond (r5 != 0)
          (cond (r5 != 2)
            (k false)
            (L15_1 E a0 a2 a3 a4 a5 k))
          (L15_1 E a0 a2 a3 a4 a5 k)))
      (cond ((r5 == 0) != false)
        (k false)
        (cond (r5 != 0)
          (cond (r5 != 2)
            (k false)
            (L15_1 E a0 a2 a3 a4 a5 k))
          (L15_1 E a0 a2 a3 a4 a5 k))))) := ty_T.trans (by kernel_rfl)
theorem e15_1 (a0 : Setup) (a2 : (Sl Hit)) (a3 : Int) (a4 : Int) (a5 : Track) : L15_1 E a0 a2 a3 a4 a5 k =
  (E.c59 (a0, a2, a3, a4)).T fun r1 =>
  L15_2 E a0 a2 a3 a4 a5 r1.1 r1.2 k := by kernel_rfl
theorem e15_2 (a0 : Setup) (a2 : (Sl Hit)) (a3 : Int) (a4 : Int) (a5 : Track) (v14 : Int) (v15 : Int) : L15_2 E a0 a2 a3 a4 a5 v14 v15 k =
  (E.c47 (a0, a2, a5)).T fun r1 =>
  L15_3 E a0 a2 a3 a4 a5 v14 v15 r1.1 r1.2 k := by kernel_rfl
theorem e15_3 (a0 : Setup) (a2 : (Sl Hit)) (a3 : Int) (a4 : Int) (a5 : Track) (v14 : Int) (v15 : Int) (v16 : (Sl Gate)) (v17 : Int) : L15_3 E a0 a2 a3 a4 a5 v14 v15 v16 v17 k =
  (E.c26 (a0, (⟨1, 0⟩ : Rules), a2)).T fun r1 =>
  L15_4 E a0 a2 a3 a4 a5 v14 v15 v16 v17 r1 k := by kernel_rfl
theorem e15_4 (a0 : Setup) (a2 : (Sl Hit)) (a3 : Int) (a4 : Int) (a5 : Track) (v14 : Int) (v15 : Int) (v16 : (Sl Gate)) (v17 : Int) (v18 : Int) : L15_4 E a0 a2 a3 a4 a5 v14 v15 v16 v17 v18 k =
  cond (v18 != 0)
  (cond (v15 == v18)
    (cond (v17 == v18)
      (cond (v14 == 0)
        (cond ((v16.len : Int) == 0)
          ((E.c19 ()).T fun r1 =>
            k r1)
          (k false))
        (k false))
      (k false))
    (k false))
  (L15_5 E a0 a2 a3 a4 a5 v14 v15 v16 v17 k) := by kernel_rfl
theorem e15_5 (a0 : Setup) (a2 : (Sl Hit)) (a3 : Int) (a4 : Int) (a5 : Track) (v14 : Int) (v15 : Int) (v16 : (Sl Gate)) (v17 : Int) : L15_5 E a0 a2 a3 a4 a5 v14 v15 v16 v17 k =
  (E.c34 a3).T fun r1 =>
  cond (!r1)
  (cond (v15 != 2)
    (k false)
    (cond (v14 != 0)
      (k false)
      (L15_6 E a0 a2 a5 v16 v17 k)))
  (cond (v15 != 0)
    (k false)
    ((E.c63 (a0, a2, a3, a4)).T fun r2 =>
      cond (v14 != r2)
      (k false)
      (L15_6 E a0 a2 a5 v16 v17 k))) := by kernel_rfl
theorem e15_6 (a0 : Setup) (a2 : (Sl Hit)) (a5 : Track) (v16 : (Sl Gate)) (v17 : Int) : L15_6 E a0 a2 a5 v16 v17 k =
  (E.c27 (a0, a2, a5)).T fun r1 =>
  cond (!r1)
  (cond (v17 == 2)
    (cond ((v16.len : Int) == 0)
      ((E.c19 ()).T fun r2 =>
        k r2)
      (k false))
    (k false))
  (L15_7 E a0 a2 a5 v16 v17 k) := by kernel_rfl
theorem e15_7 (a0 : Setup) (a2 : (Sl Hit)) (a5 : Track) (v16 : (Sl Gate)) (v17 : Int) : L15_7 E a0 a2 a5 v16 v17 k =
  cond (v17 == 0)
  ((E.c65 (a0, a2, a5)).T fun r1 =>
    (E.c64 (v16, r1)).T fun r2 =>
    cond r2
    ((E.c19 ()).T fun r3 =>
      k r3)
    (k false))
  (k false) := by kernel_rfl
end
theorem o15 (E : E15) (h23 : Ok Tryz.prog 23 (Cps.un E.c23)) (h19 : Ok Tryz.prog 19 (Cps.un E.c19)) (h24 : Ok Tryz.prog 24 (Cps.un E.c24)) (h60 : Ok Tryz.prog 60 (Cps.un E.c60)) (h61 : Ok Tryz.prog 61 (Cps.un E.c61)) (h62 : Ok Tryz.prog 62 (Cps.un E.c62)) (h59 : Ok Tryz.prog 59 (Cps.un E.c59)) (h47 : Ok Tryz.prog 47 (Cps.un E.c47)) (h26 : Ok Tryz.prog 26 (Cps.un E.c26)) (h34 : Ok Tryz.prog 34 (Cps.un E.c34)) (h63 : Ok Tryz.prog 63 (Cps.un E.c63)) (h27 : Ok Tryz.prog 27 (Cps.un E.c27)) (h65 : Ok Tryz.prog 65 (Cps.un E.c65)) (h64 : Ok Tryz.prog 64 (Cps.un E.c64)) : Ok Tryz.prog 15 (Cps.un (F15 E)) := un_ok (aF_all ((((((((((((((TabsOk.nil.addF h23).addF h19).addF h24).addF h60).addF h61).addF h62).addF h59).addF h47).addF h26).addF h34).addF h63).addF h27).addF h65).addF h64) (callB_ok (by kernel_rfl)))
structure E23 where
  N : Nat
noncomputable abbrev G23 (E : E23) : Ctrs := csm Tabs.nil []
noncomputable def A23 : Ann := annOf Tryz.prog 23 [] {}
noncomputable def F23 (E : E23) : Setup × (Sl Hit) × Int → Cps (Bool) := Cps.ty (aF Tryz.prog E.N (G23 E) A23 23)
section
variable (E : E23) {A : Type} (k : Bool → Option A)
noncomputable def L23_1 (E : E23) (n : Nat) (a0 : Setup) (v7 : Int) {A : Type} (k : Bool → Option A) : Option A :=
  ptT Tryz.prog (G23 E) E.N A23 23 [1, 1, 0, 1, 0] [.n n] (tyK k)
    ⟨[(3, .cl (.ptr 3 0)), (7, .int v7)], [(3, eB 24 a0)], []⟩
theorem e23 (a0 : Setup) (a1 : (Sl Hit)) (a2 : Int) : (F23 E (a0, a1, a2)).T k =
  cond (decide ((a0.Planes.len : Int) > 20))
  (k false)
  (cond (decide ((a1.len : Int) > a2))
    (cond (decide ((a1.len : Int) ≤ 24))
      (k false)
      (cond (decide ((a1.len : Int) > 40))
        (k false)
        (L23_1 E E.N a0 0 k)))
    (cond (decide ((a1.len : Int) > 40))
      (k false)
      (L23_1 E E.N a0 0 k))) := ty_T.trans (by kernel_rfl)
theorem e23_1 (n0 : Nat) (a0 : Setup) (v7 : Int) : L23_1 E (n0 + 1) a0 v7 k =
  cond (decide (v7 < (a0.Planes.len : Int)))
  (chkT (decide (0 ≤ v7 ∧ v7 < (a0.Planes.len : Int))) (cond (decide (((a0.Planes.get v7.toNat).Drift.len : Int) > 60))
    (k false)
    (chkT (decide (0 ≤ v7 ∧ v7 < (a0.Planes.len : Int))) (cond (decide (((a0.Planes.get v7.toNat).Dead.len : Int) > 110))
      (k false)
      (L23_1 E n0 a0 (w64 (v7 + 1)) k)))))
  (k true) := by kernel_rfl
end
theorem o23 (E : E23) : Ok Tryz.prog 23 (Cps.un (F23 E)) := un_ok (aF_all TabsOk.nil (callB_ok (by kernel_rfl)))
structure E24 where
  N : Nat
noncomputable abbrev G24 (E : E24) : Ctrs := csm Tabs.nil []
noncomputable def A24 : Ann := annOf Tryz.prog 24 [] {}
noncomputable def F24 (E : E24) : Track → Cps (Bool) := Cps.ty (aF Tryz.prog E.N (G24 E) A24 24)
section
variable (E : E24) {A : Type} (k : Bool → Option A)
theorem e24 (a0 : Track) : (F24 E (a0)).T k =
  cond (decide ((a0.Hits.len : Int) ≤ 30))
  (k (decide ((a0.Sides.len : Int) ≤ 30)))
  (k false) := ty_T.trans (by kernel_rfl)
end
theorem o24 (E : E24) : Ok Tryz.prog 24 (Cps.un (F24 E)) := un_ok (aF_all TabsOk.nil (callB_ok (by kernel_rfl)))
structure E26 where
  N : Nat
  c61 : Setup → Cps (Bool)
  c62 : Rules → Cps (Bool)
  c85 : Setup × (Sl Hit) → Cps (Bool)
noncomputable abbrev G26 (E : E26) : Ctrs := csm (((Tabs.nil.addF 61 (Cps.un E.c61)).addF 62 (Cps.un E.c62)).addF 85 (Cps.un E.c85)) []
noncomputable def A26 : Ann := annOf Tryz.prog 26 [] {}
noncomputable def F26 (E : E26) : Setup × Rules × (Sl Hit) → Cps (Int) := Cps.ty (aF Tryz.prog E.N (G26 E) A26 26)
section
variable (E : E26) {A : Type} (k : Int → Option A)
theorem e26 (a0 : Setup) (a1 : Rules) (a2 : (Sl Hit)) : (F26 E (a0, a1, a2)).T k =
  cond (decide ((a2.len : Int) > 24))
  (k 3)
  ((E.c61 a0).T fun r1 =>
    cond (!r1)
    (k 2)
    ((E.c62 a1).T fun r2 =>
      cond (!r2)
      (k 2)
      ((E.c85 (a0, a2)).T fun r3 =>
        cond (!r3)
        (k 2)
        (k 0)))) := ty_T.trans (by kernel_rfl)
end
theorem o26 (E : E26) (h61 : Ok Tryz.prog 61 (Cps.un E.c61)) (h62 : Ok Tryz.prog 62 (Cps.un E.c62)) (h85 : Ok Tryz.prog 85 (Cps.un E.c85)) : Ok Tryz.prog 26 (Cps.un (F26 E)) := un_ok (aF_all (((TabsOk.nil.addF h61).addF h62).addF h85) (callB_ok (by kernel_rfl)))
structure E27 where
  N : Nat
  c34 : Int → Cps (Bool)
  c86 : Int × Int × Int → Cps (Bool)
  c75 : Setup × Hit → Cps ((Sl Gate))
  c87 : (Sl Hit) × (Sl Int) × Int → Cps (Bool)
noncomputable abbrev G27 (E : E27) : Ctrs := csm ((((Tabs.nil.addF 34 (Cps.un E.c34)).addF 86 (Cps.un E.c86)).addF 75 (Cps.un E.c75)).addF 87 (Cps.un E.c87)) []
noncomputable def A27 : Ann := annOf Tryz.prog 27 [] { cut := [8, 9] }
noncomputable def F27 (E : E27) : Setup × (Sl Hit) × Track → Cps (Bool) := Cps.ty (aF Tryz.prog E.N (G27 E) A27 27)
section
variable (E : E27) {A : Type} (k : Bool → Option A)
noncomputable def L27_1 (E : E27) (n : Nat) (a0 : Setup) (a1 : (Sl Hit)) (a2 : Track) (v7 : Int) {A : Type} (k : Bool → Option A) : Option A :=
  ptT Tryz.prog (G27 E) E.N A27 27 [1, 1, 0, 1, 0] [.n n] (tyK k)
    ⟨[(1, eP a1), (3, .cl (.ptr 3 0)), (5, .cl (.ptr 5 0)), (7, .int v7)], [(3, eB 24 a0), (5, eB 43 a2)], []⟩
noncomputable def L27_2 (E : E27) (n0 : Nat) (a0 : Setup) (a1 : (Sl Hit)) (a2 : Track) (v7 : Int) {A : Type} (k : Bool → Option A) : Option A :=
  ptT Tryz.prog (G27 E) E.N A27 27 [1, 1, 0, 1, 0, 0, 1, 0, 0, 1] [.n n0] (tyK k)
    ⟨[(1, eP a1), (3, .cl (.ptr 3 0)), (5, .cl (.ptr 5 0)), (7, .int v7)], [(3, eB 24 a0), (5, eB 43 a2)], []⟩
noncomputable def L27_3 (E : E27) (n0 : Nat) (a0 : Setup) (a1 : (Sl Hit)) (a2 : Track) (v7 : Int) (x8 : Hit) {A : Type} (k : Bool → Option A) : Option A :=
  ptT Tryz.prog (G27 E) E.N A27 27 [1, 1, 0, 1, 0, 0, 1, 0, 0, 1, 1] [.n n0] (tyK k)
    ⟨[(1, eP a1), (3, .cl (.ptr 3 0)), (5, .cl (.ptr 5 0)), (7, .int v7), (8, .cl (.ptr 8 0))], [(3, eB 24 a0), (5, eB 43 a2), (8, eB 92 x8)], []⟩
theorem e27 (a0 : Setup) (a1 : (Sl Hit)) (a2 : Track) : (F27 E (a0, a1, a2)).T k =
  (E.c34 a2.View).T fun r1 =>
  cond (!r1)
  (k false)
  (cond ((a2.Hits.len : Int) == 0)
    (k false)
    (cond ((a2.Sides.len : Int) != (a2.Hits.len : Int))
      (k false)
      (L27_1 E E.N a0 a1 a2 0 k))) := ty_T.trans (by kernel_rfl)
theorem e27_1 (n0 : Nat) (a0 : Setup) (a1 : (Sl Hit)) (a2 : Track) (v7 : Int) : L27_1 E (n0 + 1) a0 a1 a2 v7 k =
  cond (decide (v7 < (a2.Hits.len : Int)))
  (chkT (decide (0 ≤ v7 ∧ v7 < (a2.Hits.len : Int))) ((E.c86 (a2.Hits.get v7.toNat, 0, (w64 ((a1.len : Int) - 1)))).T fun r1 =>
    cond (!r1)
    (k false)
    (cond (decide (v7 > 0))
      (chkT (decide (0 ≤ v7 ∧ v7 < (a2.Hits.len : Int))) (chkT (decide (0 ≤ (w64 (v7 - 1)) ∧ (w64 (v7 - 1)) < (a2.Hits.len : Int))) (cond (decide (a2.Hits.get v7.toNat ≤ a2.Hits.get (w64 (v7 - 1)).toNat))
        (k false)
        (L27_2 E n0 a0 a1 a2 v7 k))))
      (L27_2 E n0 a0 a1 a2 v7 k))))
  (k true) := by kernel_rfl
theorem e27_2 (n0 : Nat) (a0 : Setup) (a1 : (Sl Hit)) (a2 : Track) (v7 : Int) : L27_2 E n0 a0 a1 a2 v7 k =
  chkT (decide (0 ≤ v7 ∧ v7 < (a2.Hits.len : Int))) (chkT (decide (0 ≤ a2.Hits.get v7.toNat ∧ a2.Hits.get v7.toNat < (a1.len : Int))) (L27_3 E n0 a0 a1 a2 v7 (a1.get (a2.Hits.get v7.toNat).toNat) k)) := by kernel_rfl
theorem e27_3 (n0 : Nat) (a0 : Setup) (a1 : (Sl Hit)) (a2 : Track) (v7 : Int) (x8 : Hit) : L27_3 E n0 a0 a1 a2 v7 x8 k =
  chkT (decide (0 ≤ x8.Plane ∧ x8.Plane < (a0.Planes.len : Int))) (cond ((a0.Planes.get x8.Plane.toNat).View != a2.View)
  (k false)
  (chkT (decide (0 ≤ v7 ∧ v7 < (a2.Sides.len : Int))) ((E.c75 (a0, x8)).T fun r1 =>
    (E.c86 (a2.Sides.get v7.toNat, 0, (w64 ((r1.len : Int) - 1)))).T fun r2 =>
    cond (!r2)
    (k false)
    (chkT (decide ((0 : Int) ≤ 0 ∧ (0 : Int) ≤ v7 ∧ v7 ≤ (a2.Hits.len : Int))) ((E.c87 (a1, (⟨((v7 : Int) - 0).toNat, (shG a2.Hits.get 0)⟩ : (Sl Int)), x8.Plane)).T fun r3 =>
      cond r3
      (k false)
      (L27_1 E n0 a0 a1 a2 (w64 (v7 + 1)) k)))))) := by kernel_rfl
end
theorem o27 (E : E27) (h34 : Ok Tryz.prog 34 (Cps.un E.c34)) (h86 : Ok Tryz.prog 86 (Cps.un E.c86)) (h75 : Ok Tryz.prog 75 (Cps.un E.c75)) (h87 : Ok Tryz.prog 87 (Cps.un E.c87)) : Ok Tryz.prog 27 (Cps.un (F27 E)) := un_ok (aF_all ((((TabsOk.nil.addF h34).addF h86).addF h75).addF h87) (callB_ok (by kernel_rfl)))
structure E34 where
  N : Nat
noncomputable abbrev G34 (E : E34) : Ctrs := csm Tabs.nil []
noncomputable def A34 : Ann := annOf Tryz.prog 34 [] {}
noncomputable def F34 (E : E34) : Int → Cps (Bool) := Cps.ty (aF Tryz.prog E.N (G34 E) A34 34)
section
variable (E : E34) {A : Type} (k : Bool → Option A)
theorem e34 (a0 : Int) : (F34 E (a0)).T k =
  cond (a0 == 1)
  (k true)
  (k (a0 == 2)) := ty_T.trans (by kernel_rfl)
end
theorem o34 (E : E34) : Ok Tryz.prog 34 (Cps.un (F34 E)) := un_ok (aF_all TabsOk.nil (callB_ok (by kernel_rfl)))
structure E47 where
  N : Nat
  c108 : Unit → Cps (Rules)
  c78 : Setup × Rules × (Sl Hit) → Cps (Int ⊕ ((Pt event) × Int))
  c79 : (Pt event) × Track → Cps (Bool)
  c105 : (Pt event) × Track → Cps ((Sl Gate))
noncomputable abbrev G47 (E : E47) : Ctrs := csm ((((Tabs.nil.addF 108 (Cps.un E.c108)).addF 78 (Cps.unA E.c78)).addF 79 (Cps.un E.c79)).addF 105 (Cps.un E.c105)) []
noncomputable def A47 : Ann := annOf Tryz.prog 47 [] {}
noncomputable def F47 (E : E47) : Setup × (Sl Hit) × Track → Cps ((Sl Gate) × Int) := Cps.ty (aF Tryz.prog E.N (G47 E) A47 47)
section
variable (E : E47) {A : Type} (k : ((Sl Gate) × Int) → Option A)
theorem e47 (a0 : Setup) (a1 : (Sl Hit)) (a2 : Track) : (F47 E (a0, a1, a2)).T k =
  (E.c108 ()).T fun r1 =>
  (E.c78 (a0, r1, a1)).T fun r2 => altT r2
  (fun r2 => cond (r2 != 0)
    (k ((⟨0, fun _ => default⟩ : (Sl Gate)), r2))
    (none))
  (fun r2 => cond (r2.2 != 0)
    (k ((⟨0, fun _ => default⟩ : (Sl Gate)), r2.2))
    ((E.c79 (r2.1, a2)).T fun r3 =>
      cond (!r3)
      (k ((⟨0, fun _ => default⟩ : (Sl Gate)), 2))
      ((E.c105 (r2.1, a2)).T fun r4 =>
        k (r4, 0)))) := ty_T.trans (by kernel_rfl)
end
theorem o47 (E : E47) (h108 : Ok Tryz.prog 108 (Cps.un E.c108)) (h78 : Ok Tryz.prog 78 (Cps.unA E.c78)) (h79 : Ok Tryz.prog 79 (Cps.un E.c79)) (h105 : Ok Tryz.prog 105 (Cps.un E.c105)) : Ok Tryz.prog 47 (Cps.un (F47 E)) := un_ok (aF_all ((((TabsOk.nil.addF h108).addF h78).addF h79).addF h105) (callB_ok (by kernel_rfl)))
structure E59 where
  N : Nat
  c108 : Unit → Cps (Rules)
  c78 : Setup × Rules × (Sl Hit) → Cps (Int ⊕ ((Pt event) × Int))
  c96 : Int → Cps (Bool)
  i173 : (Pt Int) × (Pt (Pt event)) × (Pt Int) → Cps (List (Int × Int))
noncomputable abbrev G59 (E : E59) : Ctrs := csm (((((Tabs.nil.addF 108 (Cps.un E.c108)).addF 78 (Cps.unA E.c78)).addF 96 (Cps.un E.c96)).addF 121 (aF Tryz.prog E.N (csm Tabs.nil []) (annOf Tryz.prog 121 [] {}) 121)).addI 173 (Cps.unI E.i173)) []
noncomputable def A59 : Ann := annOf Tryz.prog 59 [] { cut := [7] }
noncomputable def F59 (E : E59) : Setup × (Sl Hit) × Int × Int → Cps (Int × Int) := Cps.ty (aF Tryz.prog E.N (G59 E) A59 59)
section
variable (E : E59) {A : Type} (k : (Int × Int) → Option A)
noncomputable def L59_1 (E : E59) (a2 : Int) (a3 : Int) (x10_0 : (Pt event)) (w43 : Sl Int) {A : Type} (k : (Int × Int) → Option A) : Option A :=
  ptT Tryz.prog (G59 E) E.N A59 59 [1, 1, 1, 1, 1] [] (tyK k)
    ⟨[(2, .int a2), (3, .int a3), (10, .cl (.ptr 10 0)), (12, .cl (.ptr 12 0))], [(10, eB 143 x10_0), (12, .box 39 [.vec 43]), (43, eV 3 1 8 w43)], []⟩
noncomputable def L59_2 (E : E59) (l : List (Int × Int)) (a3 : Int) (v46_0 : (Pt Int)) (v46_1 : (Pt (Pt event))) (v46_2 : (Pt Int)) (x10_0 : (Pt event)) (w43 : Sl Int) {A : Type} (k : (Int × Int) → Option A) : Option A :=
  ptT Tryz.prog (G59 E) E.N A59 59 [1, 1, 1, 1, 1, 0, 1, 0] [.y (l.map LsC.enc)] (tyK k)
    ⟨[(3, .int a3), (10, .cl (.ptr 10 0)), (12, .cl (.ptr 12 0)), (46, .p (.fn 173 [] [.fp [.int .i64 v46_0.v] 0, .fp [.fp [.sl v46_1.v.v.Setup.Planes.len 15 (fun i => FdC.enc (v46_1.v.v.Setup.Planes.get i)), .sl v46_1.v.v.hits.len 6 (fun i => FdC.enc (v46_1.v.v.hits.get i)), .sl v46_1.v.v.gates.len 1 (fun i => FdC.enc (v46_1.v.v.gates.get i)), .int .i64 v46_1.v.v.rules.Need, .int .i64 v46_1.v.v.rules.Miss] 0] 0, .fp [.int .i64 v46_2.v] 0]))], [(10, eB 143 x10_0), (12, .box 39 [.vec 43]), (43, eV 3 1 8 w43)], []⟩
noncomputable def L59_3 (E : E59) (n : Nat) (a3 : Int) (v69 : Int) (v70 : Int) (w65 : Sl Int) (w43 : Sl Int) {A : Type} (k : (Int × Int) → Option A) : Option A :=
  ptT Tryz.prog (G59 E) E.N A59 59 [1, 1, 1, 1, 1, 1, 1, 1, 0, 1, 0] [.n n] (tyK k)
    ⟨[(3, .int a3), (12, .cl (.ptr 12 0)), (14, .cl (.vec 65)), (68, .cl (.vec 43)), (69, .int v69), (70, .int v70)], [(12, .box 39 [.vec 43]), (65, eV 3 1 8 w65), (43, eV 3 1 8 w43)], []⟩
noncomputable def L59_4 (E : E59) (n0 : Nat) (n : Nat) (a3 : Int) (v16 : Int) (v17 : Int) (v69 : Int) (v70 : Int) (w65 : Sl Int) (w43 : Sl Int) {A : Type} (k : (Int × Int) → Option A) : Option A :=
  ptT Tryz.prog (G59 E) E.N A59 59 [1, 1, 1, 1, 1, 1, 1, 1, 0, 1, 0, 0, 1, 1, 0, 0, 1, 1, 0] [.n n0, .n n] (tyK k)
    ⟨[(3, .int a3), (12, .cl (.ptr 12 0)), (14, .cl (.vec 65)), (16, .int v16), (17, .int v17), (68, .cl (.vec 43)), (69, .int v69), (70, .int v70)], [(12, .box 39 [.vec 43]), (65, eV 3 1 8 w65), (43, eV 3 1 8 w43)], []⟩
noncomputable def L59_5 (E : E59) (n : Nat) (v18 : Int) (v19 : Int) (w65 : Sl Int) {A : Type} (k : (Int × Int) → Option A) : Option A :=
  ptT Tryz.prog (G59 E) E.N A59 59 [1, 1, 1, 1, 1, 1, 1, 1, 1, 1, 0, 1, 0] [.n n] (tyK k)
    ⟨[(14, .cl (.vec 65)), (18, .int v18), (19, .int v19)], [(65, eV 3 1 8 w65)], []⟩
theorem e59 (a0 : Setup) (a1 : (Sl Hit)) (a2 : Int) (a3 : Int) : (F59 E (a0, a1, a2, a3)).T k =
  (E.c108 ()).T fun r1 =>
  (E.c78 (a0, r1, a1)).T fun r2 => altT r2
  (fun r2 => cond (r2 == 0)
    ((E.c96 a2).T fun r3 =>
      cond (!r3)
      (k (0, 2))
      (cond (r2 != 0)
        (k (0, r2))
        (none)))
    (cond (r2 != 0)
      (k (0, r2))
      (none)))
  (fun r2 => cond (r2.2 == 0)
    ((E.c96 a2).T fun r4 =>
      cond (!r4)
      (k (0, 2))
      (cond (r2.2 != 0)
        (k (0, r2.2))
        (chkT (decide ((0 : Int) ≤ (r2.1.v.Setup.Planes.len : Int) ∧ ((r2.1.v.Setup.Planes.len : Int) : Int) = (r2.1.v.Setup.Planes.len : Int) ∧ (r2.1.v.Setup.Planes.len : Int) ≤ 1000000)) (L59_1 E a2 a3 r2.1 (⟨(r2.1.v.Setup.Planes.len : Int).toNat, (fun _ => 0)⟩ : (Sl Int)) k))))
    (cond (r2.2 != 0)
      (k (0, r2.2))
      (chkT (decide ((0 : Int) ≤ (r2.1.v.Setup.Planes.len : Int) ∧ ((r2.1.v.Setup.Planes.len : Int) : Int) = (r2.1.v.Setup.Planes.len : Int) ∧ (r2.1.v.Setup.Planes.len : Int) ≤ 1000000)) (L59_1 E a2 a3 r2.1 (⟨(r2.1.v.Setup.Planes.len : Int).toNat, (fun _ => 0)⟩ : (Sl Int)) k)))) := ty_T.trans (by kernel_rfl)
theorem e59_1 (a2 : Int) (a3 : Int) (x10_0 : (Pt event)) (w43 : Sl Int) : L59_1 E a2 a3 x10_0 w43 k =
  (E.i173 ((⟨0⟩ : (Pt Int)), (⟨x10_0⟩ : (Pt (Pt event))), (⟨a2⟩ : (Pt Int)))).T fun r1 =>
  L59_2 E r1 a3 (⟨0⟩ : (Pt Int)) (⟨x10_0⟩ : (Pt (Pt event))) (⟨a2⟩ : (Pt Int)) x10_0 w43 k := by kernel_rfl
theorem e59_2n (a3 : Int) (v46_0 : (Pt Int)) (v46_1 : (Pt (Pt event))) (v46_2 : (Pt Int)) (x10_0 : (Pt event)) (w43 : Sl Int) : L59_2 E [] a3 v46_0 v46_1 v46_2 x10_0 w43 k =
  chkT (decide ((0 : Int) ≤ (w64 ((w43.len : Int) + 1)) ∧ ((w64 ((w43.len : Int) + 1)) : Int) = (w64 ((w43.len : Int) + 1)) ∧ (w64 ((w43.len : Int) + 1)) ≤ 1000000)) (chkT (decide ((0 : Int) ≤ 0 ∧ 0 < ((w64 ((w43.len : Int) + 1)).toNat : Int))) (chkT (decide (0 < (w64 ((w43.len : Int) + 1)).toNat)) (L59_3 E E.N a3 (w43.len : Int) 0 (⟨(w64 ((w43.len : Int) + 1)).toNat, (seG 0 (fun _ => 0) 1)⟩ : (Sl Int)) w43 k))) := by kernel_rfl
theorem e59_2 (y : Int × Int) (l0 : List (Int × Int)) (a3 : Int) (v46_0 : (Pt Int)) (v46_1 : (Pt (Pt event))) (v46_2 : (Pt Int)) (x10_0 : (Pt event)) (w43 : Sl Int) : L59_2 E (y :: l0) a3 v46_0 v46_1 v46_2 x10_0 w43 k =
  chkT (decide (0 ≤ y.1 ∧ y.1 < (x10_0.v.hits.len : Int))) (chkT (decide (0 ≤ (x10_0.v.hits.get y.1.toNat).Plane ∧ (x10_0.v.hits.get y.1.toNat).Plane < (w43.len : Int))) (chkT (decide ((x10_0.v.hits.get y.1.toNat).Plane.toNat < w43.len)) (chkT (decide (0 ≤ (x10_0.v.hits.get y.1.toNat).Plane ∧ (x10_0.v.hits.get y.1.toNat).Plane < (w43.len : Int))) (chkT (decide ((x10_0.v.hits.get y.1.toNat).Plane.toNat < w43.len)) (L59_2 E l0 a3 v46_0 v46_1 v46_2 x10_0 (⟨w43.len, (seG (x10_0.v.hits.get y.1.toNat).Plane.toNat w43.get (w64 (w43.get (x10_0.v.hits.get y.1.toNat).Plane.toNat + 1)))⟩ : (Sl Int)) k))))) := by kernel_rfl
theorem e59_3 (n0 : Nat) (a3 : Int) (v69 : Int) (v70 : Int) (w65 : Sl Int) (w43 : Sl Int) : L59_3 E (n0 + 1) a3 v69 v70 w65 w43 k =
  cond (decide (v70 < v69))
  (chkT (decide (0 ≤ v70 ∧ v70 < (w43.len : Int))) (chkT (decide (v70.toNat < w43.len)) (L59_4 E n0 E.N a3 (w43.get v70.toNat) (w43.len : Int) v69 v70 w65 w43 k)))
  (L59_5 E E.N 0 (if a3 > 1 then a3 else 1) w65 k) := by kernel_rfl
theorem e59_4 (n0 : Nat) (n1 : Nat) (a3 : Int) (v16 : Int) (v17 : Int) (v69 : Int) (v70 : Int) (w65 : Sl Int) (w43 : Sl Int) : L59_4 E n0 (n1 + 1) a3 v16 v17 v69 v70 w65 w43 k =
  cond (decide (v17 > 0))
  (chkT (decide (0 ≤ v17 ∧ v17 < (w65.len : Int))) (chkT (decide (v17.toNat < w65.len)) (chkT (decide (0 ≤ (w64 (v17 - 1)) ∧ (w64 (v17 - 1)) < (w65.len : Int))) (chkT (decide ((w64 (v17 - 1)).toNat < w65.len)) (chkT (decide (0 ≤ v17 ∧ v17 < (w65.len : Int))) (chkT (decide (v17.toNat < w65.len)) (L59_4 E n0 n1 a3 v16 (w64 (v17 - 1)) v69 v70 (⟨w65.len, (seG v17.toNat w65.get (w64 (w65.get v17.toNat + (w64 (w65.get (w64 (v17 - 1)).toNat * v16)))))⟩ : (Sl Int)) w43 k)))))))
  (L59_3 E n0 a3 v69 (w64 (v70 + 1)) w65 w43 k) := by kernel_rfl
theorem e59_5 (n0 : Nat) (v18 : Int) (v19 : Int) (w65 : Sl Int) : L59_5 E (n0 + 1) v18 v19 w65 k =
  cond (decide (v19 < (w65.len : Int)))
  (chkT (decide (0 ≤ v19 ∧ v19 < (w65.len : Int))) (chkT (decide (v19.toNat < w65.len)) (L59_5 E n0 (w64 (v18 + w65.get v19.toNat)) (w64 (v19 + 1)) w65 k)))
  (k (v18, 0)) := by kernel_rfl
end
theorem o59 (E : E59) (h108 : Ok Tryz.prog 108 (Cps.un E.c108)) (h78 : Ok Tryz.prog 78 (Cps.unA E.c78)) (h96 : Ok Tryz.prog 96 (Cps.un E.c96)) (j173 : ItOk Tryz.prog 173 (Cps.unI E.i173)) : Ok Tryz.prog 59 (Cps.un (F59 E)) := un_ok (aF_all (((((TabsOk.nil.addF h108).addF h78).addF h96).addF (aF_all TabsOk.nil (callB_ok (by kernel_rfl)))).addI j173) (callB_ok (by kernel_rfl)))
structure E60 where
  N : Nat
  c122 : Setup → Cps (Int)
  c123 : Int × Int × Int → Cps (Bool)
noncomputable abbrev G60 (E : E60) : Ctrs := csm ((Tabs.nil.addF 122 (Cps.un E.c122)).addF 123 (Cps.un E.c123)) []
noncomputable def A60 : Ann := annOf Tryz.prog 60 [] {}
noncomputable def F60 (E : E60) : Setup × Rules → Cps (Int) := Cps.ty (aF Tryz.prog E.N (G60 E) A60 60)
section
variable (E : E60) {A : Type} (k : Int → Option A)
theorem e60 (a0 : Setup) (a1 : Rules) : (F60 E (a0, a1)).T k =
  (E.c122 a0).T fun r1 =>
  cond (r1 != 0)
  (k 2)
  ((E.c123 (a1.Need, 1, 16)).T fun r2 =>
    cond (!r2)
    (k 2)
    ((E.c123 (a1.Miss, 0, 16)).T fun r3 =>
      cond (!r3)
      (k 2)
      (k 0))) := ty_T.trans (by kernel_rfl)
end
theorem o60 (E : E60) (h122 : Ok Tryz.prog 122 (Cps.un E.c122)) (h123 : Ok Tryz.prog 123 (Cps.un E.c123)) : Ok Tryz.prog 60 (Cps.un (F60 E)) := un_ok (aF_all ((TabsOk.nil.addF h122).addF h123) (callB_ok (by kernel_rfl)))
structure E61 where
  N : Nat
  c73 : Int × Int × Int → Cps (Bool)
  c124 : Plane → Cps (Bool)
noncomputable abbrev G61 (E : E61) : Ctrs := csm ((Tabs.nil.addF 73 (Cps.un E.c73)).addF 124 (Cps.un E.c124)) []
noncomputable def A61 : Ann := annOf Tryz.prog 61 [] {}
noncomputable def F61 (E : E61) : Setup → Cps (Bool) := Cps.ty (aF Tryz.prog E.N (G61 E) A61 61)
section
variable (E : E61) {A : Type} (k : Bool → Option A)
noncomputable def L61_1 (E : E61) (n : Nat) (a0 : Setup) (v3 : Int) {A : Type} (k : Bool → Option A) : Option A :=
  ptT Tryz.prog (G61 E) E.N A61 61 [1, 1, 0, 1, 0] [.n n] (tyK k)
    ⟨[(1, .cl (.ptr 1 0)), (3, .int v3)], [(1, eB 24 a0)], []⟩
theorem e61 (a0 : Setup) : (F61 E (a0)).T k =
  (E.c73 ((a0.Planes.len : Int), 1, 16)).T fun r1 =>
  cond (!r1)
  (k false)
  (L61_1 E E.N a0 0 k) := ty_T.trans (by kernel_rfl)
theorem e61_1 (n0 : Nat) (a0 : Setup) (v3 : Int) : L61_1 E (n0 + 1) a0 v3 k =
  cond (decide (v3 < (a0.Planes.len : Int)))
  (chkT (decide (0 ≤ v3 ∧ v3 < (a0.Planes.len : Int))) ((E.c124 (a0.Planes.get v3.toNat)).T fun r1 =>
    cond (!r1)
    (k false)
    (cond (decide (v3 > 0))
      (chkT (decide (0 ≤ v3 ∧ v3 < (a0.Planes.len : Int))) (chkT (decide (0 ≤ (w64 (v3 - 1)) ∧ (w64 (v3 - 1)) < (a0.Planes.len : Int))) (cond (decide ((a0.Planes.get v3.toNat).Z ≤ (a0.Planes.get (w64 (v3 - 1)).toNat).Z))
        (k false)
        (L61_1 E n0 a0 (w64 (v3 + 1)) k))))
      (L61_1 E n0 a0 (w64 (v3 + 1)) k))))
  (k true) := by kernel_rfl
end
theorem o61 (E : E61) (h73 : Ok Tryz.prog 73 (Cps.un E.c73)) (h124 : Ok Tryz.prog 124 (Cps.un E.c124)) : Ok Tryz.prog 61 (Cps.un (F61 E)) := un_ok (aF_all ((TabsOk.nil.addF h73).addF h124) (callB_ok (by kernel_rfl)))
structure E62 where
  N : Nat
  c86 : Int × Int × Int → Cps (Bool)
noncomputable abbrev G62 (E : E62) : Ctrs := csm (Tabs.nil.addF 86 (Cps.un E.c86)) []
noncomputable def A62 : Ann := annOf Tryz.prog 62 [] {}
noncomputable def F62 (E : E62) : Rules → Cps (Bool) := Cps.ty (aF Tryz.prog E.N (G62 E) A62 62)
section
variable (E : E62) {A : Type} (k : Bool → Option A)
theorem e62 (a0 : Rules) : (F62 E (a0)).T k =
  (E.c86 (a0.Need, 1, 16)).T fun r1 =>
  cond r1
  ((E.c86 (a0.Miss, 0, 16)).T fun r2 =>
    k r2)
  (k false) := ty_T.trans (by kernel_rfl)
end
theorem o62 (E : E62) (h86 : Ok Tryz.prog 86 (Cps.un E.c86)) : Ok Tryz.prog 62 (Cps.un (F62 E)) := un_ok (aF_all (TabsOk.nil.addF h86) (callB_ok (by kernel_rfl)))
structure E63 where
  N : Nat
  c75 : Setup × Hit → Cps ((Sl Gate))
noncomputable abbrev G63 (E : E63) : Ctrs := csm (Tabs.nil.addF 75 (Cps.un E.c75)) []
noncomputable def A63 : Ann := annOf Tryz.prog 63 [] { ks := [(1, 3, ⟨[], [], [], [], [], [9], []⟩)] }
noncomputable def F63 (E : E63) : Setup × (Sl Hit) × Int × Int → Cps (Int) := Cps.ty (aF Tryz.prog E.N (G63 E) A63 63)
section
variable (E : E63) {A : Type} (k : Int → Option A)
noncomputable def L63_1 (E : E63) (n : Nat) (a0 : Setup) (a1 : (Sl Hit)) (a2 : Int) (a3 : Int) (v9 : (Sl Int)) (v10 : Int) {A : Type} (k : Int → Option A) : Option A :=
  ptT Tryz.prog (G63 E) E.N A63 63 [1, 1, 0, 1, 0] [.n n] (tyK k)
    ⟨[(1, eP a1), (2, .int a2), (3, .int a3), (4, .cl (.ptr 4 0)), (9, eP v9), (10, .int v10)], [(4, eB 24 a0)], []⟩
noncomputable def L63_2 (E : E63) (n0 : Nat) (n : Nat) (a0 : Setup) (a1 : (Sl Hit)) (a2 : Int) (a3 : Int) (v9 : (Sl Int)) (v10 : Int) (v11 : Int) (v12 : Int) {A : Type} (k : Int → Option A) : Option A :=
  ptT Tryz.prog (G63 E) E.N A63 63 [1, 1, 0, 1, 0, 0, 1, 0, 0, 1, 0, 1, 0] [.n n0, .n n] (tyK k)
    ⟨[(1, eP a1), (2, .int a2), (3, .int a3), (4, .cl (.ptr 4 0)), (9, eP v9), (10, .int v10), (11, .int v11), (12, .int v12)], [(4, eB 24 a0)], []⟩
noncomputable def L63_3 (E : E63) (n : Nat) (v9 : (Sl Int)) (v15 : Int) (v16 : Int) {A : Type} (k : Int → Option A) : Option A :=
  ptT Tryz.prog (G63 E) E.N A63 63 [1, 1, 1, 1, 0, 1, 0] [.n n] (tyK k)
    ⟨[(9, eP v9), (15, .int v15), (16, .int v16)], [], []⟩
noncomputable def L63_4 (E : E63) (n0 : Nat) (n : Nat) (a0 : Setup) (a1 : (Sl Hit)) (a2 : Int) (a3 : Int) (v9 : (Sl Int)) (v10 : Int) (v11 : Int) (v14 : Int) (w58 : Sl Int) {A : Type} (k : Int → Option A) : Option A :=
  ptT Tryz.prog (G63 E) E.N A63 63 [1, 1, 0, 1, 0, 0, 1, 0, 0, 1, 1, 1, 0, 1, 0] [.n n0, .n n] (tyK k)
    ⟨[(1, eP a1), (2, .int a2), (3, .int a3), (4, .cl (.ptr 4 0)), (9, eP v9), (10, .int v10), (11, .int v11), (13, .cl (.vec 58)), (14, .int v14)], [(4, eB 24 a0), (58, eV 3 1 8 w58)], []⟩
theorem e63 (a0 : Setup) (a1 : (Sl Hit)) (a2 : Int) (a3 : Int) : (F63 E (a0, a1, a2, a3)).T k =
  L63_1 E E.N a0 a1 a2 a3 (⟨1, (fun _ => 1)⟩ : (Sl Int)) 0 k := ty_T.trans (by kernel_rfl)
theorem e63_1 (n0 : Nat) (a0 : Setup) (a1 : (Sl Hit)) (a2 : Int) (a3 : Int) (v9 : (Sl Int)) (v10 : Int) : L63_1 E (n0 + 1) a0 a1 a2 a3 v9 v10 k =
  cond (decide (v10 < (a0.Planes.len : Int)))
  (L63_2 E n0 E.N a0 a1 a2 a3 v9 v10 0 0 k)
  (L63_3 E E.N v9 0 (if a3 > 1 then a3 else 1) k) := by kernel_rfl
theorem e63_2 (n0 : Nat) (n1 : Nat) (a0 : Setup) (a1 : (Sl Hit)) (a2 : Int) (a3 : Int) (v9 : (Sl Int)) (v10 : Int) (v11 : Int) (v12 : Int) : L63_2 E n0 (n1 + 1) a0 a1 a2 a3 v9 v10 v11 v12 k =
  cond (decide (v12 < (a1.len : Int)))
  (chkT (decide (0 ≤ v12 ∧ v12 < (a1.len : Int))) (cond ((a1.get v12.toNat).Plane == v10)
    (chkT (decide (0 ≤ v10 ∧ v10 < (a0.Planes.len : Int))) (cond ((a0.Planes.get v10.toNat).View == a2)
      (chkT (decide (0 ≤ v12 ∧ v12 < (a1.len : Int))) ((E.c75 (a0, (a1.get v12.toNat))).T fun r1 =>
        L63_2 E n0 n1 a0 a1 a2 a3 v9 v10 (w64 (v11 + (r1.len : Int))) (w64 (v12 + 1)) k))
      (L63_2 E n0 n1 a0 a1 a2 a3 v9 v10 v11 (w64 (v12 + 1)) k)))
    (L63_2 E n0 n1 a0 a1 a2 a3 v9 v10 v11 (w64 (v12 + 1)) k)))
  (chkT (room v9.len 8) (chkT (room (v9.len + 1) 8) (L63_4 E n0 E.N a0 a1 a2 a3 v9 v10 v11 0 (⟨(v9.len + 1), (apG v9.len v9.get (fun _ => 0))⟩ : (Sl Int)) k))) := by kernel_rfl
theorem e63_3 (n0 : Nat) (v9 : (Sl Int)) (v15 : Int) (v16 : Int) : L63_3 E (n0 + 1) v9 v15 v16 k =
  cond (decide (v16 < (v9.len : Int)))
  (chkT (decide (0 ≤ v16 ∧ v16 < (v9.len : Int))) (L63_3 E n0 v9 (w64 (v15 + v9.get v16.toNat)) (w64 (v16 + 1)) k))
  (k v15) := by kernel_rfl
theorem e63_4 (n0 : Nat) (n1 : Nat) (a0 : Setup) (a1 : (Sl Hit)) (a2 : Int) (a3 : Int) (v9 : (Sl Int)) (v10 : Int) (v11 : Int) (v14 : Int) (w58 : Sl Int) : L63_4 E n0 (n1 + 1) a0 a1 a2 a3 v9 v10 v11 v14 w58 k =
  cond (decide (v14 < (v9.len : Int)))
  (chkT (decide (0 ≤ (w64 (v14 + 1)) ∧ (w64 (v14 + 1)) < (w58.len : Int))) (chkT (decide ((w64 (v14 + 1)).toNat < w58.len)) (chkT (decide (0 ≤ v14 ∧ v14 < (v9.len : Int))) (chkT (decide (0 ≤ (w64 (v14 + 1)) ∧ (w64 (v14 + 1)) < (w58.len : Int))) (chkT (decide ((w64 (v14 + 1)).toNat < w58.len)) (L63_4 E n0 n1 a0 a1 a2 a3 v9 v10 v11 (w64 (v14 + 1)) (⟨w58.len, (seG (w64 (v14 + 1)).toNat w58.get (w64 (w58.get (w64 (v14 + 1)).toNat + (w64 (v11 * v9.get v14.toNat)))))⟩ : (Sl Int)) k))))))
  (L63_1 E n0 a0 a1 a2 a3 w58 (w64 (v10 + 1)) k) := by kernel_rfl
end
theorem o63 (E : E63) (h75 : Ok Tryz.prog 75 (Cps.un E.c75)) : Ok Tryz.prog 63 (Cps.un (F63 E)) := un_ok (aF_all (TabsOk.nil.addF h75) (callB_ok (by kernel_rfl)))
structure E64 where
  N : Nat
noncomputable abbrev G64 (E : E64) : Ctrs := csm Tabs.nil []
noncomputable def A64 : Ann := annOf Tryz.prog 64 [] {}
noncomputable def F64 (E : E64) : (Sl Gate) × (Sl Gate) → Cps (Bool) := Cps.ty (aF Tryz.prog E.N (G64 E) A64 64)
section
variable (E : E64) {A : Type} (k : Bool → Option A)
noncomputable def L64_1 (E : E64) (n : Nat) (a0 : (Sl Gate)) (a1 : (Sl Gate)) (v5 : Int) {A : Type} (k : Bool → Option A) : Option A :=
  ptT Tryz.prog (G64 E) E.N A64 64 [1, 1, 0, 1, 0] [.n n] (tyK k)
    ⟨[(0, eP a0), (1, eP a1), (5, .int v5)], [], []⟩
theorem e64 (a0 : (Sl Gate)) (a1 : (Sl Gate)) : (F64 E (a0, a1)).T k =
  cond ((a0.len : Int) != (a1.len : Int))
  (k false)
  (L64_1 E E.N a0 a1 0 k) := ty_T.trans (by kernel_rfl)
theorem e64_1 (n0 : Nat) (a0 : (Sl Gate)) (a1 : (Sl Gate)) (v5 : Int) : L64_1 E (n0 + 1) a0 a1 v5 k =
  cond (decide (v5 < (a0.len : Int)))
  (chkT (decide (0 ≤ v5 ∧ v5 < (a0.len : Int))) (chkT (decide (0 ≤ v5 ∧ v5 < (a1.len : Int))) (cond (!(cond ((a0.get v5.toNat).Z == (a1.get v5.toNat).Z) (cond ((a0.get v5.toNat).Low == (a1.get v5.toNat).Low) (cond ((a0.get v5.toNat).High == (a1.get v5.toNat).High) true false) false) false))
    (k false)
    (L64_1 E n0 a0 a1 (w64 (v5 + 1)) k))))
  (k true) := by kernel_rfl
end
theorem o64 (E : E64) : Ok Tryz.prog 64 (Cps.un (F64 E)) := un_ok (aF_all TabsOk.nil (callB_ok (by kernel_rfl)))
structure E65 where
  N : Nat
  c75 : Setup × Hit → Cps ((Sl Gate))
noncomputable abbrev G65 (E : E65) : Ctrs := csm (Tabs.nil.addF 75 (Cps.un E.c75)) []
noncomputable def A65 : Ann := annOf Tryz.prog 65 [] { ks := [(1, 3, ⟨[], [(7, 35, 101)], [], [], [], [], []⟩)] }
noncomputable def F65 (E : E65) : Setup × (Sl Hit) × Track → Cps ((Sl Gate)) := Cps.ty (aF Tryz.prog E.N (G65 E) A65 65)
section
variable (E : E65) {A : Type} (k : (Sl Gate) → Option A)
noncomputable def L65_1 (E : E65) (n : Nat) (a0 : Setup) (a1 : (Sl Hit)) (a2 : Track) (v8 : Int) (w35 : Sl Gate) {A : Type} (k : (Sl Gate) → Option A) : Option A :=
  ptT Tryz.prog (G65 E) E.N A65 65 [1, 1, 0, 1, 0] [.n n] (tyK k)
    ⟨[(1, eP a1), (3, .cl (.ptr 3 0)), (5, .cl (.ptr 5 0)), (7, .cl (.vec 35)), (8, .int v8)], [(3, eB 24 a0), (5, eB 43 a2), (35, eV 101 3 24 w35)], []⟩
theorem e65 (a0 : Setup) (a1 : (Sl Hit)) (a2 : Track) : (F65 E (a0, a1, a2)).T k =
  L65_1 E E.N a0 a1 a2 0 (⟨0, (fun _ => (⟨0, 0, 0⟩ : Gate))⟩ : (Sl Gate)) k := ty_T.trans (by kernel_rfl)
theorem e65_1 (n0 : Nat) (a0 : Setup) (a1 : (Sl Hit)) (a2 : Track) (v8 : Int) (w35 : Sl Gate) : L65_1 E (n0 + 1) a0 a1 a2 v8 w35 k =
  cond (decide (v8 < (a2.Hits.len : Int)))
  (chkT (decide (0 ≤ v8 ∧ v8 < (a2.Hits.len : Int))) (chkT (decide (0 ≤ a2.Hits.get v8.toNat ∧ a2.Hits.get v8.toNat < (a1.len : Int))) ((E.c75 (a0, (a1.get (a2.Hits.get v8.toNat).toNat))).T fun r1 =>
    chkT (decide (0 ≤ v8 ∧ v8 < (a2.Sides.len : Int))) (chkT (decide (0 ≤ a2.Sides.get v8.toNat ∧ a2.Sides.get v8.toNat < (r1.len : Int))) (chkT (room (w35.len + 1) 24) (L65_1 E n0 a0 a1 a2 (w64 (v8 + 1)) (⟨(w35.len + 1), (apG w35.len w35.get (fun _ => (r1.get (a2.Sides.get v8.toNat).toNat)))⟩ : (Sl Gate)) k))))))
  (k w35) := by kernel_rfl
end
theorem o65 (E : E65) (h75 : Ok Tryz.prog 75 (Cps.un E.c75)) : Ok Tryz.prog 65 (Cps.un (F65 E)) := un_ok (aF_all (TabsOk.nil.addF h75) (callB_ok (by kernel_rfl)))
structure E73 where
  N : Nat
noncomputable abbrev G73 (E : E73) : Ctrs := csm Tabs.nil []
noncomputable def A73 : Ann := annOf Tryz.prog 73 [] {}
noncomputable def F73 (E : E73) : Int × Int × Int → Cps (Bool) := Cps.ty (aF Tryz.prog E.N (G73 E) A73 73)
section
variable (E : E73) {A : Type} (k : Bool → Option A)
theorem e73 (a0 : Int) (a1 : Int) (a2 : Int) : (F73 E (a0, a1, a2)).T k =
  cond (decide (a0 ≥ a1))
  (k (decide (a0 ≤ a2)))
  (k false) := ty_T.trans (by kernel_rfl)
end
theorem o73 (E : E73) : Ok Tryz.prog 73 (Cps.un (F73 E)) := un_ok (aF_all TabsOk.nil (callB_ok (by kernel_rfl)))
structure E75 where
  N : Nat
  c135 : Plane × Int → Cps (Int × Int)
noncomputable abbrev G75 (E : E75) : Ctrs := csm (Tabs.nil.addF 135 (Cps.un E.c135)) []
noncomputable def A75 : Ann := annOf Tryz.prog 75 [] {}
noncomputable def F75 (E : E75) : Setup × Hit → Cps ((Sl Gate)) := Cps.ty (aF Tryz.prog E.N (G75 E) A75 75)
section
variable (E : E75) {A : Type} (k : (Sl Gate) → Option A)
theorem e75 (a0 : Setup) (a1 : Hit) : (F75 E (a0, a1)).T k =
  chkT (decide (0 ≤ a1.Plane ∧ a1.Plane < (a0.Planes.len : Int))) (cond ((a0.Planes.get a1.Plane.toNat).Kind != 2)
  (cond (decide ((w64 ((w64 ((a0.Planes.get a1.Plane.toNat).First + (w64 ((w64 ((w64 (a1.Channel + a1.Many)) - 1)) * (a0.Planes.get a1.Plane.toNat).Pitch)))) - (a0.Planes.get a1.Plane.toNat).Spill)) > (w64 ((w64 ((a0.Planes.get a1.Plane.toNat).First + (w64 ((w64 (a1.Channel + 1)) * (a0.Planes.get a1.Plane.toNat).Pitch)))) + (a0.Planes.get a1.Plane.toNat).Spill))))
    (k (⟨0, fun _ => default⟩ : (Sl Gate)))
    (k (⟨1, (fun _ => (⟨(a0.Planes.get a1.Plane.toNat).Z, (w64 ((w64 ((w64 ((a0.Planes.get a1.Plane.toNat).First + (w64 ((w64 ((w64 (a1.Channel + a1.Many)) - 1)) * (a0.Planes.get a1.Plane.toNat).Pitch)))) - (a0.Planes.get a1.Plane.toNat).Spill)) + (a0.Planes.get a1.Plane.toNat).Offset.Low)), (w64 ((w64 ((w64 ((a0.Planes.get a1.Plane.toNat).First + (w64 ((w64 (a1.Channel + 1)) * (a0.Planes.get a1.Plane.toNat).Pitch)))) + (a0.Planes.get a1.Plane.toNat).Spill)) + (a0.Planes.get a1.Plane.toNat).Offset.High))⟩ : Gate))⟩ : (Sl Gate))))
  ((E.c135 ((a0.Planes.get a1.Plane.toNat), a1.Drift)).T fun r1 =>
    cond (decide ((w64 ((w64 ((w64 ((a0.Planes.get a1.Plane.toNat).First + (w64 (a1.Channel * (a0.Planes.get a1.Plane.toNat).Pitch)))) - r1.1)) + (a0.Planes.get a1.Plane.toNat).Offset.High)) ≥ (w64 ((w64 ((w64 ((a0.Planes.get a1.Plane.toNat).First + (w64 (a1.Channel * (a0.Planes.get a1.Plane.toNat).Pitch)))) + r1.1)) + (a0.Planes.get a1.Plane.toNat).Offset.Low))))
    (k (⟨1, (fun _ => (⟨(a0.Planes.get a1.Plane.toNat).Z, (w64 ((w64 ((w64 ((a0.Planes.get a1.Plane.toNat).First + (w64 (a1.Channel * (a0.Planes.get a1.Plane.toNat).Pitch)))) - r1.2)) + (a0.Planes.get a1.Plane.toNat).Offset.Low)), (w64 ((w64 ((w64 ((a0.Planes.get a1.Plane.toNat).First + (w64 (a1.Channel * (a0.Planes.get a1.Plane.toNat).Pitch)))) + r1.2)) + (a0.Planes.get a1.Plane.toNat).Offset.High))⟩ : Gate))⟩ : (Sl Gate)))
    (k (⟨2, (lsG [(⟨(a0.Planes.get a1.Plane.toNat).Z, (w64 ((w64 ((w64 ((a0.Planes.get a1.Plane.toNat).First + (w64 (a1.Channel * (a0.Planes.get a1.Plane.toNat).Pitch)))) - r1.2)) + (a0.Planes.get a1.Plane.toNat).Offset.Low)), (w64 ((w64 ((w64 ((a0.Planes.get a1.Plane.toNat).First + (w64 (a1.Channel * (a0.Planes.get a1.Plane.toNat).Pitch)))) - r1.1)) + (a0.Planes.get a1.Plane.toNat).Offset.High))⟩ : Gate), (⟨(a0.Planes.get a1.Plane.toNat).Z, (w64 ((w64 ((w64 ((a0.Planes.get a1.Plane.toNat).First + (w64 (a1.Channel * (a0.Planes.get a1.Plane.toNat).Pitch)))) + r1.1)) + (a0.Planes.get a1.Plane.toNat).Offset.Low)), (w64 ((w64 ((w64 ((a0.Planes.get a1.Plane.toNat).First + (w64 (a1.Channel * (a0.Planes.get a1.Plane.toNat).Pitch)))) + r1.2)) + (a0.Planes.get a1.Plane.toNat).Offset.High))⟩ : Gate)])⟩ : (Sl Gate))))) := ty_T.trans (by kernel_rfl)
end
theorem o75 (E : E75) (h135 : Ok Tryz.prog 135 (Cps.un E.c135)) : Ok Tryz.prog 75 (Cps.un (F75 E)) := un_ok (aF_all (TabsOk.nil.addF h135) (callB_ok (by kernel_rfl)))
structure E85 where
  N : Nat
  c143 : Setup × Hit → Cps (Bool)
noncomputable abbrev G85 (E : E85) : Ctrs := csm (Tabs.nil.addF 143 (Cps.un E.c143)) []
noncomputable def A85 : Ann := annOf Tryz.prog 85 [] {}
noncomputable def F85 (E : E85) : Setup × (Sl Hit) → Cps (Bool) := Cps.ty (aF Tryz.prog E.N (G85 E) A85 85)
section
variable (E : E85) {A : Type} (k : Bool → Option A)
noncomputable def L85_1 (E : E85) (n : Nat) (a0 : Setup) (a1 : (Sl Hit)) (v5 : Int) {A : Type} (k : Bool → Option A) : Option A :=
  ptT Tryz.prog (G85 E) E.N A85 85 [1, 0, 1, 0] [.n n] (tyK k)
    ⟨[(1, eP a1), (2, .cl (.ptr 2 0)), (5, .int v5)], [(2, eB 24 a0)], []⟩
theorem e85 (a0 : Setup) (a1 : (Sl Hit)) : (F85 E (a0, a1)).T k =
  L85_1 E E.N a0 a1 0 k := ty_T.trans (by kernel_rfl)
theorem e85_1 (n0 : Nat) (a0 : Setup) (a1 : (Sl Hit)) (v5 : Int) : L85_1 E (n0 + 1) a0 a1 v5 k =
  cond (decide (v5 < (a1.len : Int)))
  (chkT (decide (0 ≤ v5 ∧ v5 < (a1.len : Int))) ((E.c143 (a0, (a1.get v5.toNat))).T fun r1 =>
    cond (!r1)
    (k false)
    (L85_1 E n0 a0 a1 (w64 (v5 + 1)) k)))
  (k true) := by kernel_rfl
end
theorem o85 (E : E85) (h143 : Ok Tryz.prog 143 (Cps.un E.c143)) : Ok Tryz.prog 85 (Cps.un (F85 E)) := un_ok (aF_all (TabsOk.nil.addF h143) (callB_ok (by kernel_rfl)))
structure E86 where
  N : Nat
noncomputable abbrev G86 (E : E86) : Ctrs := csm Tabs.nil []
noncomputable def A86 : Ann := annOf Tryz.prog 86 [] {}
noncomputable def F86 (E : E86) : Int × Int × Int → Cps (Bool) := Cps.ty (aF Tryz.prog E.N (G86 E) A86 86)
section
variable (E : E86) {A : Type} (k : Bool → Option A)
theorem e86 (a0 : Int) (a1 : Int) (a2 : Int) : (F86 E (a0, a1, a2)).T k =
  cond (decide (a0 ≥ a1))
  (k (decide (a0 ≤ a2)))
  (k false) := ty_T.trans (by kernel_rfl)
end
theorem o86 (E : E86) : Ok Tryz.prog 86 (Cps.un (F86 E)) := un_ok (aF_all TabsOk.nil (callB_ok (by kernel_rfl)))
structure E87 where
  N : Nat
noncomputable abbrev G87 (E : E87) : Ctrs := csm Tabs.nil []
noncomputable def A87 : Ann := annOf Tryz.prog 87 [] {}
noncomputable def F87 (E : E87) : (Sl Hit) × (Sl Int) × Int → Cps (Bool) := Cps.ty (aF Tryz.prog E.N (G87 E) A87 87)
section
variable (E : E87) {A : Type} (k : Bool → Option A)
noncomputable def L87_1 (E : E87) (n : Nat) (a0 : (Sl Hit)) (a1 : (Sl Int)) (a2 : Int) (v7 : Int) {A : Type} (k : Bool → Option A) : Option A :=
  ptT Tryz.prog (G87 E) E.N A87 87 [1, 0, 1, 0] [.n n] (tyK k)
    ⟨[(0, eP a0), (1, eP a1), (2, .int a2), (7, .int v7)], [], []⟩
theorem e87 (a0 : (Sl Hit)) (a1 : (Sl Int)) (a2 : Int) : (F87 E (a0, a1, a2)).T k =
  L87_1 E E.N a0 a1 a2 0 k := ty_T.trans (by kernel_rfl)
theorem e87_1 (n0 : Nat) (a0 : (Sl Hit)) (a1 : (Sl Int)) (a2 : Int) (v7 : Int) : L87_1 E (n0 + 1) a0 a1 a2 v7 k =
  cond (decide (v7 < (a1.len : Int)))
  (chkT (decide (0 ≤ v7 ∧ v7 < (a1.len : Int))) (chkT (decide (0 ≤ a1.get v7.toNat ∧ a1.get v7.toNat < (a0.len : Int))) (cond ((a0.get (a1.get v7.toNat).toNat).Plane == a2)
    (k true)
    (L87_1 E n0 a0 a1 a2 (w64 (v7 + 1)) k))))
  (k false) := by kernel_rfl
end
theorem o87 (E : E87) : Ok Tryz.prog 87 (Cps.un (F87 E)) := un_ok (aF_all TabsOk.nil (callB_ok (by kernel_rfl)))
structure E108 where
  N : Nat
noncomputable abbrev G108 (E : E108) : Ctrs := csm Tabs.nil []
noncomputable def A108 : Ann := annOf Tryz.prog 108 [] {}
noncomputable def F108 (E : E108) : Unit → Cps (Rules) := Cps.ty (aF Tryz.prog E.N (G108 E) A108 108)
section
variable (E : E108) {A : Type} (k : Rules → Option A)
theorem e108 : (F108 E ()).T k =
  k (⟨1, 0⟩ : Rules) := ty_T.trans (by kernel_rfl)
end
theorem o108 (E : E108) : Ok Tryz.prog 108 (Cps.un (F108 E)) := un_ok (aF_all TabsOk.nil (callB_ok (by kernel_rfl)))
structure E124 where
  N : Nat
  c73 : Int × Int × Int → Cps (Bool)
  c174 : Int → Cps (Bool)
  c175 : (Sl Drift) × Int → Cps (Bool)
noncomputable abbrev G124 (E : E124) : Ctrs := csm (((Tabs.nil.addF 73 (Cps.un E.c73)).addF 174 (Cps.un E.c174)).addF 175 (Cps.un E.c175)) []
noncomputable def A124 : Ann := annOf Tryz.prog 124 [] { cut := [3, 5, 7] }
noncomputable def F124 (E : E124) : Plane → Cps (Bool) := Cps.ty (aF Tryz.prog E.N (G124 E) A124 124)
section
variable (E : E124) {A : Type} (k : Bool → Option A)
noncomputable def L124_1 (E : E124) (a0 : Plane) {A : Type} (k : Bool → Option A) : Option A :=
  ptT Tryz.prog (G124 E) E.N A124 124 [1, 1] [] (tyK k)
    ⟨[(1, .cl (.ptr 1 0))], [(1, eB 124 a0)], []⟩
noncomputable def L124_2 (E : E124) (a0 : Plane) {A : Type} (k : Bool → Option A) : Option A :=
  ptT Tryz.prog (G124 E) E.N A124 124 [1, 1, 1] [] (tyK k)
    ⟨[(1, .cl (.ptr 1 0))], [(1, eB 124 a0)], []⟩
noncomputable def L124_3 (E : E124) (a0 : Plane) {A : Type} (k : Bool → Option A) : Option A :=
  ptT Tryz.prog (G124 E) E.N A124 124 [1, 1, 1, 1] [] (tyK k)
    ⟨[(1, .cl (.ptr 1 0))], [(1, eB 124 a0)], []⟩
noncomputable def L124_4 (E : E124) (n : Nat) (a0 : Plane) (v3 : Int) {A : Type} (k : Bool → Option A) : Option A :=
  ptT Tryz.prog (G124 E) E.N A124 124 [1, 1, 1, 1, 1, 0, 1, 0] [.n n] (tyK k)
    ⟨[(1, .cl (.ptr 1 0)), (3, .int v3)], [(1, eB 124 a0)], []⟩
theorem e124 (a0 : Plane) : (F124 E (a0)).T k =
  cond (decide (a0.Kind < 1))
  (k false)
  (cond (decide (a0.Kind > 3))
    (k false)
    (cond (a0.View != 1)
      (cond (a0.View != 2)
        (k false)
        ((E.c73 (a0.Z, 0, 100000)).T fun r1 =>
          cond (!r1)
          (k false)
          ((E.c174 a0.First).T fun r2 =>
            cond (!r2)
            (k false)
            ((E.c73 (a0.Pitch, 2, 100000)).T fun r3 =>
              cond (!r3)
              (k false)
              ((E.c73 (a0.Strips, 1, 2000)).T fun r4 =>
                cond (!r4)
                (k false)
                ((E.c73 (a0.Spill, 0, 100000)).T fun r5 =>
                  cond (!r5)
                  (k false)
                  (L124_1 E a0 k)))))))
      ((E.c73 (a0.Z, 0, 100000)).T fun r6 =>
        cond (!r6)
        (k false)
        ((E.c174 a0.First).T fun r7 =>
          cond (!r7)
          (k false)
          ((E.c73 (a0.Pitch, 2, 100000)).T fun r8 =>
            cond (!r8)
            (k false)
            ((E.c73 (a0.Strips, 1, 2000)).T fun r9 =>
              cond (!r9)
              (k false)
              ((E.c73 (a0.Spill, 0, 100000)).T fun r10 =>
                cond (!r10)
                (k false)
                (L124_1 E a0 k)))))))) := ty_T.trans (by kernel_rfl)
theorem e124_1 (a0 : Plane) : L124_1 E a0 k =
  (E.c174 a0.Offset.Low).T fun r1 =>
  cond (!r1)
  (k false)
  ((E.c174 a0.Offset.High).T fun r2 =>
    cond (!r2)
    (k false)
    (cond (decide (a0.Offset.Low > a0.Offset.High))
      (k false)
      ((E.c73 (a0.Clock.Low, (-1000000000), 1000000000)).T fun r3 =>
        cond (!r3)
        (k false)
        ((E.c73 (a0.Clock.High, (-1000000000), 1000000000)).T fun r4 =>
          cond (!r4)
          (k false)
          (cond (decide (a0.Clock.Low > a0.Clock.High))
            (k false)
            (L124_2 E a0 k)))))) := by kernel_rfl
theorem e124_2 (a0 : Plane) : L124_2 E a0 k =
  (E.c73 (a0.Jitter, 0, 1000000)).T fun r1 =>
  cond (!r1)
  (k false)
  ((E.c73 (a0.Least, 0, 1000000)).T fun r2 =>
    cond (!r2)
    (k false)
    ((E.c174 (w64 ((w64 ((w64 (a0.First - a0.Pitch)) - a0.Spill)) + a0.Offset.Low))).T fun r3 =>
      cond (!r3)
      (k false)
      ((E.c174 (w64 ((w64 ((w64 (a0.First + (w64 ((w64 (a0.Strips + 1)) * a0.Pitch)))) + a0.Spill)) + a0.Offset.High))).T fun r4 =>
        cond (!r4)
        (k false)
        (L124_3 E a0 k)))) := by kernel_rfl
theorem e124_3 (a0 : Plane) : L124_3 E a0 k =
  cond (a0.Kind == 2)
  ((E.c175 (a0.Drift, a0.Pitch)).T fun r1 =>
    cond (!r1)
    (k false)
    (cond (a0.Kind != 2)
      (cond (decide ((a0.Drift.len : Int) > 0))
        (k false)
        (cond (decide ((a0.Dead.len : Int) > 100))
          (k false)
          (L124_4 E E.N a0 0 k)))
      (cond (decide ((a0.Dead.len : Int) > 100))
        (k false)
        (L124_4 E E.N a0 0 k))))
  (cond (a0.Kind != 2)
    (cond (decide ((a0.Drift.len : Int) > 0))
      (k false)
      (cond (decide ((a0.Dead.len : Int) > 100))
        (k false)
        (L124_4 E E.N a0 0 k)))
    (cond (decide ((a0.Dead.len : Int) > 100))
      (k false)
      (L124_4 E E.N a0 0 k))) := by kernel_rfl
theorem e124_4 (n0 : Nat) (a0 : Plane) (v3 : Int) : L124_4 E (n0 + 1) a0 v3 k =
  cond (decide (v3 < (a0.Dead.len : Int)))
  (chkT (decide (0 ≤ v3 ∧ v3 < (a0.Dead.len : Int))) ((E.c73 (a0.Dead.get v3.toNat, 0, (w64 (a0.Strips - 1)))).T fun r1 =>
    cond (!r1)
    (k false)
    (cond (decide (v3 > 0))
      (chkT (decide (0 ≤ v3 ∧ v3 < (a0.Dead.len : Int))) (chkT (decide (0 ≤ (w64 (v3 - 1)) ∧ (w64 (v3 - 1)) < (a0.Dead.len : Int))) (cond (decide (a0.Dead.get v3.toNat ≤ a0.Dead.get (w64 (v3 - 1)).toNat))
        (k false)
        (L124_4 E n0 a0 (w64 (v3 + 1)) k))))
      (L124_4 E n0 a0 (w64 (v3 + 1)) k))))
  (k true) := by kernel_rfl
end
theorem o124 (E : E124) (h73 : Ok Tryz.prog 73 (Cps.un E.c73)) (h174 : Ok Tryz.prog 174 (Cps.un E.c174)) (h175 : Ok Tryz.prog 175 (Cps.un E.c175)) : Ok Tryz.prog 124 (Cps.un (F124 E)) := un_ok (aF_all (((TabsOk.nil.addF h73).addF h174).addF h175) (callB_ok (by kernel_rfl)))
structure E135 where
  N : Nat
noncomputable abbrev G135 (E : E135) : Ctrs := csm Tabs.nil []
noncomputable def A135 : Ann := annOf Tryz.prog 135 [] {}
noncomputable def F135 (E : E135) : Plane × Int → Cps (Int × Int) := Cps.ty (aF Tryz.prog E.N (G135 E) A135 135)
section
variable (E : E135) {A : Type} (k : (Int × Int) → Option A)
noncomputable def L135_1 (E : E135) (n : Nat) (a0 : Plane) (a1 : Int) (v6 : Int) (v7 : Int) (v8 : Int) {A : Type} (k : (Int × Int) → Option A) : Option A :=
  ptT Tryz.prog (G135 E) E.N A135 135 [1, 1, 0, 1, 0] [.n n] (tyK k)
    ⟨[(1, .int a1), (2, .cl (.ptr 2 0)), (6, .int v6), (7, .int v7), (8, .int v8)], [(2, eB 124 a0)], []⟩
noncomputable def L135_2 (E : E135) (n : Nat) (a0 : Plane) (a1 : Int) (v6 : Int) (v7 : Int) (v9 : Int) {A : Type} (k : (Int × Int) → Option A) : Option A :=
  ptT Tryz.prog (G135 E) E.N A135 135 [1, 1, 1, 0, 1, 0] [.n n] (tyK k)
    ⟨[(1, .int a1), (2, .cl (.ptr 2 0)), (6, .int v6), (7, .int v7), (9, .int v9)], [(2, eB 124 a0)], []⟩
theorem e135 (a0 : Plane) (a1 : Int) : (F135 E (a0, a1)).T k =
  L135_1 E E.N a0 a1 0 (w64 (a0.Pitch.tdiv 2)) 0 k := ty_T.trans (by kernel_rfl)
theorem e135_1 (n0 : Nat) (a0 : Plane) (a1 : Int) (v6 : Int) (v7 : Int) (v8 : Int) : L135_1 E (n0 + 1) a0 a1 v6 v7 v8 k =
  cond (decide (v8 < (a0.Drift.len : Int)))
  (chkT (decide (0 ≤ v8 ∧ v8 < (a0.Drift.len : Int))) (cond (decide ((a0.Drift.get v8.toNat).Time ≤ (w64 (a1 - a0.Jitter))))
    (chkT (decide (0 ≤ v8 ∧ v8 < (a0.Drift.len : Int))) (L135_1 E n0 a0 a1 (a0.Drift.get v8.toNat).Radius.Low v7 (w64 (v8 + 1)) k))
    (L135_1 E n0 a0 a1 v6 v7 (w64 (v8 + 1)) k)))
  (L135_2 E E.N a0 a1 v6 v7 (w64 ((a0.Drift.len : Int) - 1)) k) := by kernel_rfl
theorem e135_2 (n0 : Nat) (a0 : Plane) (a1 : Int) (v6 : Int) (v7 : Int) (v9 : Int) : L135_2 E (n0 + 1) a0 a1 v6 v7 v9 k =
  cond (decide (v9 ≥ 0))
  (chkT (decide (0 ≤ v9 ∧ v9 < (a0.Drift.len : Int))) (cond (decide ((a0.Drift.get v9.toNat).Time ≥ (w64 (a1 + a0.Jitter))))
    (chkT (decide (0 ≤ v9 ∧ v9 < (a0.Drift.len : Int))) (L135_2 E n0 a0 a1 v6 (a0.Drift.get v9.toNat).Radius.High (w64 (v9 - 1)) k))
    (L135_2 E n0 a0 a1 v6 v7 (w64 (v9 - 1)) k)))
  (k (v6, v7)) := by kernel_rfl
end
theorem o135 (E : E135) : Ok Tryz.prog 135 (Cps.un (F135 E)) := un_ok (aF_all TabsOk.nil (callB_ok (by kernel_rfl)))
structure E137 where
  N : Nat
noncomputable abbrev G137 (E : E137) : Ctrs := csm Tabs.nil []
noncomputable def A137 : Ann := annOf Tryz.prog 137 [] {}
noncomputable def F137 (E : E137) : Plane × Int → Cps (Bool) := Cps.ty (aF Tryz.prog E.N (G137 E) A137 137)
section
variable (E : E137) {A : Type} (k : Bool → Option A)
noncomputable def L137_1 (E : E137) (n : Nat) (a0 : Plane) (a1 : Int) (v5 : Int) {A : Type} (k : Bool → Option A) : Option A :=
  ptT Tryz.prog (G137 E) E.N A137 137 [1, 0, 1, 0] [.n n] (tyK k)
    ⟨[(1, .int a1), (2, .cl (.ptr 2 0)), (5, .int v5)], [(2, eB 124 a0)], []⟩
theorem e137 (a0 : Plane) (a1 : Int) : (F137 E (a0, a1)).T k =
  L137_1 E E.N a0 a1 0 k := ty_T.trans (by kernel_rfl)
theorem e137_1 (n0 : Nat) (a0 : Plane) (a1 : Int) (v5 : Int) : L137_1 E (n0 + 1) a0 a1 v5 k =
  cond (decide (v5 < (a0.Dead.len : Int)))
  (chkT (decide (0 ≤ v5 ∧ v5 < (a0.Dead.len : Int))) (cond (a0.Dead.get v5.toNat == a1)
    (k true)
    (L137_1 E n0 a0 a1 (w64 (v5 + 1)) k)))
  (k false) := by kernel_rfl
end
theorem o137 (E : E137) : Ok Tryz.prog 137 (Cps.un (F137 E)) := un_ok (aF_all TabsOk.nil (callB_ok (by kernel_rfl)))
structure E143 where
  N : Nat
  c73 : Int × Int × Int → Cps (Bool)
  c137 : Plane × Int → Cps (Bool)
noncomputable abbrev G143 (E : E143) : Ctrs := csm ((Tabs.nil.addF 73 (Cps.un E.c73)).addF 137 (Cps.un E.c137)) []
noncomputable def A143 : Ann := annOf Tryz.prog 143 [] {}
noncomputable def F143 (E : E143) : Setup × Hit → Cps (Bool) := Cps.ty (aF Tryz.prog E.N (G143 E) A143 143)
section
variable (E : E143) {A : Type} (k : Bool → Option A)
noncomputable def L143_1 (E : E143) (n : Nat) (a0 : Setup) (a1 : Hit) (v6 : Int) {A : Type} (k : Bool → Option A) : Option A :=
  ptT Tryz.prog (G143 E) E.N A143 143 [1, 1, 1, 1, 0, 1, 0] [.n n] (tyK k)
    ⟨[(3, .cl (.ptr 3 0)), (5, .cl (.ptr 5 0)), (6, .int v6)], [(3, eB 92 a1), (5, eB 124 (a0.Planes.get a1.Plane.toNat))], []⟩
theorem e143 (a0 : Setup) (a1 : Hit) : (F143 E (a0, a1)).T k =
  (E.c73 (a1.Plane, 0, (w64 ((a0.Planes.len : Int) - 1)))).T fun r1 =>
  cond (!r1)
  (k false)
  (chkT (decide (0 ≤ a1.Plane ∧ a1.Plane < (a0.Planes.len : Int))) ((E.c73 (a1.Channel, 0, (w64 ((a0.Planes.get a1.Plane.toNat).Strips - 1)))).T fun r2 =>
    cond (!r2)
    (k false)
    ((E.c73 (a1.Many, 1, (w64 ((a0.Planes.get a1.Plane.toNat).Strips - a1.Channel)))).T fun r3 =>
      cond (!r3)
      (k false)
      ((E.c73 (a1.Charge, (a0.Planes.get a1.Plane.toNat).Least, 1000000)).T fun r4 =>
        cond (!r4)
        (k false)
        ((E.c73 (a1.Time, (-1000000000), 1000000000)).T fun r5 =>
          cond (!r5)
          (k false)
          (L143_1 E E.N a0 a1 0 k)))))) := ty_T.trans (by kernel_rfl)
theorem e143_1 (n0 : Nat) (a0 : Setup) (a1 : Hit) (v6 : Int) : L143_1 E (n0 + 1) a0 a1 v6 k =
  cond (decide (v6 < a1.Many))
  ((E.c137 ((a0.Planes.get a1.Plane.toNat), (w64 (a1.Channel + v6)))).T fun r1 =>
    cond r1
    (k false)
    (L143_1 E n0 a0 a1 (w64 (v6 + 1)) k))
  (cond ((a0.Planes.get a1.Plane.toNat).Kind == 2)
    (cond (a1.Many == 1)
      ((E.c73 (a1.Drift, 0, 1000000)).T fun r2 =>
        k r2)
      (k false))
    (cond ((a0.Planes.get a1.Plane.toNat).Kind == 3)
      (cond (a1.Drift == 0)
        (k (a1.Time == 0))
        (k false))
      (k (a1.Drift == 0)))) := by kernel_rfl
end
theorem o143 (E : E143) (h73 : Ok Tryz.prog 73 (Cps.un E.c73)) (h137 : Ok Tryz.prog 137 (Cps.un E.c137)) : Ok Tryz.prog 143 (Cps.un (F143 E)) := un_ok (aF_all ((TabsOk.nil.addF h73).addF h137) (callB_ok (by kernel_rfl)))
structure E174 where
  N : Nat
  c73 : Int × Int × Int → Cps (Bool)
noncomputable abbrev G174 (E : E174) : Ctrs := csm (Tabs.nil.addF 73 (Cps.un E.c73)) []
noncomputable def A174 : Ann := annOf Tryz.prog 174 [] {}
noncomputable def F174 (E : E174) : Int → Cps (Bool) := Cps.ty (aF Tryz.prog E.N (G174 E) A174 174)
section
variable (E : E174) {A : Type} (k : Bool → Option A)
theorem e174 (a0 : Int) : (F174 E (a0)).T k =
  (E.c73 (a0, (-1000000), 1000000)).T fun r1 =>
  k r1 := ty_T.trans (by kernel_rfl)
end
theorem o174 (E : E174) (h73 : Ok Tryz.prog 73 (Cps.un E.c73)) : Ok Tryz.prog 174 (Cps.un (F174 E)) := un_ok (aF_all (TabsOk.nil.addF h73) (callB_ok (by kernel_rfl)))
structure E175 where
  N : Nat
  c73 : Int × Int × Int → Cps (Bool)
noncomputable abbrev G175 (E : E175) : Ctrs := csm (Tabs.nil.addF 73 (Cps.un E.c73)) []
noncomputable def A175 : Ann := annOf Tryz.prog 175 [] {}
noncomputable def F175 (E : E175) : (Sl Drift) × Int → Cps (Bool) := Cps.ty (aF Tryz.prog E.N (G175 E) A175 175)
section
variable (E : E175) {A : Type} (k : Bool → Option A)
noncomputable def L175_1 (E : E175) (n : Nat) (a0 : (Sl Drift)) (a1 : Int) (v5 : Int) {A : Type} (k : Bool → Option A) : Option A :=
  ptT Tryz.prog (G175 E) E.N A175 175 [1, 0, 1, 0] [.n n] (tyK k)
    ⟨[(0, eP a0), (1, .int a1), (5, .int v5)], [], []⟩
theorem e175 (a0 : (Sl Drift)) (a1 : Int) : (F175 E (a0, a1)).T k =
  L175_1 E E.N a0 a1 0 k := ty_T.trans (by kernel_rfl)
theorem e175_1 (n0 : Nat) (a0 : (Sl Drift)) (a1 : Int) (v5 : Int) : L175_1 E (n0 + 1) a0 a1 v5 k =
  cond (decide (v5 < (a0.len : Int)))
  (chkT (decide (0 ≤ v5 ∧ v5 < (a0.len : Int))) ((E.c73 ((a0.get v5.toNat).Time, 0, 1000000)).T fun r1 =>
    cond (!r1)
    (k false)
    (cond (decide ((a0.get v5.toNat).Radius.Low < 0))
      (k false)
      (cond (decide ((a0.get v5.toNat).Radius.Low > (a0.get v5.toNat).Radius.High))
        (k false)
        (cond (decide ((a0.get v5.toNat).Radius.High > (w64 (a1.tdiv 2))))
          (k false)
          (cond (decide (v5 > 0))
            (chkT (decide (0 ≤ (w64 (v5 - 1)) ∧ (w64 (v5 - 1)) < (a0.len : Int))) (cond (decide ((a0.get v5.toNat).Time ≤ (a0.get (w64 (v5 - 1)).toNat).Time))
              (k false)
              (chkT (decide (0 ≤ (w64 (v5 - 1)) ∧ (w64 (v5 - 1)) < (a0.len : Int))) (cond (decide ((a0.get v5.toNat).Radius.Low < (a0.get (w64 (v5 - 1)).toNat).Radius.Low))
                (k false)
                (chkT (decide (0 ≤ (w64 (v5 - 1)) ∧ (w64 (v5 - 1)) < (a0.len : Int))) (cond (decide ((a0.get v5.toNat).Radius.High < (a0.get (w64 (v5 - 1)).toNat).Radius.High))
                  (k false)
                  (L175_1 E n0 a0 a1 (w64 (v5 + 1)) k)))))))
            (L175_1 E n0 a0 a1 (w64 (v5 + 1)) k)))))))
  ((E.c73 ((a0.len : Int), 1, 50)).T fun r2 =>
    k r2) := by kernel_rfl
end
theorem o175 (E : E175) (h73 : Ok Tryz.prog 73 (Cps.un E.c73)) : Ok Tryz.prog 175 (Cps.un (F175 E)) := un_ok (aF_all (TabsOk.nil.addF h73) (callB_ok (by kernel_rfl)))
structure E78 where
  N : Nat
  c60 : Setup × Rules → Cps (Int)
  c138 : Setup × Hit → Cps (Int)
  c139 : Setup × Hit → Cps ((Sl Gate) × Int)
noncomputable abbrev G78 (E : E78) : Ctrs := csm (((Tabs.nil.addF 60 (Cps.un E.c60)).addF 138 (Cps.un E.c138)).addF 139 (Cps.un E.c139)) []
noncomputable def A78 : Ann := annOf Tryz.prog 78 [] { ks := [(1, 7, ⟨[], [], [(24, 2, 55, 96)], [], [], [], []⟩)], cut := [14] }
noncomputable def F78 (E : E78) : Setup × Rules × (Sl Hit) → Cps (Int ⊕ ((Pt event) × Int)) := Cps.tyA (aF Tryz.prog E.N (G78 E) A78 78)
section
variable (E : E78) {A : Type} (k : (Int ⊕ ((Pt event) × Int)) → Option A)
noncomputable def L78_1 (E : E78) (n : Nat) (a0 : Setup) (a1 : Rules) (a2 : (Sl Hit)) (v27 : Int) (w55 : Sl (Sl Gate)) {A : Type} (k : (Int ⊕ ((Pt event) × Int)) → Option A) : Option A :=
  ptT Tryz.prog (G78 E) E.N A78 78 [1, 1, 1, 1, 0, 1, 0] [.n n] (tyKA k)
    ⟨[(3, .cl (.ptr 3 0)), (8, .cl (.ptr 24 0)), (25, eP a2), (26, .int (a2.len : Int)), (27, .int v27)], [(3, eB 24 a0), (24, .box 208 [.p (.sl a0.Planes.len 15 (fun i => FdC.enc (a0.Planes.get i))), .p (.sl a2.len 6 (fun i => FdC.enc (a2.get i))), .vec 55, .p (.int .i64 a1.Need), .p (.int .i64 a1.Miss)]), (55, eV 96 1 24 w55)], []⟩
noncomputable def L78_2 (E : E78) (n0 : Nat) (a0 : Setup) (a1 : Rules) (a2 : (Sl Hit)) (v11 : (Sl Gate)) (v27 : Int) (w55 : Sl (Sl Gate)) {A : Type} (k : (Int ⊕ ((Pt event) × Int)) → Option A) : Option A :=
  ptT Tryz.prog (G78 E) E.N A78 78 [1, 1, 1, 1, 0, 1, 0, 0, 1, 1, 0, 0, 1, 1, 1, 1] [.n n0] (tyKA k)
    ⟨[(3, .cl (.ptr 3 0)), (8, .cl (.ptr 24 0)), (11, eP v11), (25, eP a2), (26, .int (a2.len : Int)), (27, .int v27)], [(3, eB 24 a0), (24, .box 208 [.p (.sl a0.Planes.len 15 (fun i => FdC.enc (a0.Planes.get i))), .p (.sl a2.len 6 (fun i => FdC.enc (a2.get i))), .vec 55, .p (.int .i64 a1.Need), .p (.int .i64 a1.Miss)]), (55, eV 96 1 24 w55)], []⟩
theorem e78 (a0 : Setup) (a1 : Rules) (a2 : (Sl Hit)) : (F78 E (a0, a1, a2)).T k =
  cond (decide ((a2.len : Int) > 24))
  (k (.inl 3))
  ((E.c60 (a0, a1)).T fun r1 =>
    cond (r1 != 0)
    (k (.inl 2))
    (L78_1 E E.N a0 a1 a2 0 (⟨0, (fun _ => (⟨0, (fun _ => (⟨0, 0, 0⟩ : Gate))⟩ : (Sl Gate)))⟩ : (Sl (Sl Gate))) k)) := tyA_T.trans (by kernel_rfl)
theorem e78_1 (n0 : Nat) (a0 : Setup) (a1 : Rules) (a2 : (Sl Hit)) (v27 : Int) (w55 : Sl (Sl Gate)) : L78_1 E (n0 + 1) a0 a1 a2 v27 w55 k =
  cond (decide (v27 < (a2.len : Int)))
  (chkT (decide (0 ≤ v27 ∧ v27 < (a2.len : Int))) ((E.c138 (a0, (a2.get v27.toNat))).T fun r1 =>
    cond (r1 != 0)
    (k (.inl 2))
    ((E.c139 (a0, (a2.get v27.toNat))).T fun r2 =>
      cond (r2.2 != 0)
      (cond (r2.2 != 5)
        (k (.inl r2.2))
        (L78_2 E n0 a0 a1 a2 r2.1 v27 w55 k))
      (L78_2 E n0 a0 a1 a2 r2.1 v27 w55 k))))
  (k (.inr ((⟨(⟨a0, a2, w55, a1⟩ : event)⟩ : (Pt event)), 0))) := by kernel_rfl
theorem e78_2 (n0 : Nat) (a0 : Setup) (a1 : Rules) (a2 : (Sl Hit)) (v11 : (Sl Gate)) (v27 : Int) (w55 : Sl (Sl Gate)) : L78_2 E n0 a0 a1 a2 v11 v27 w55 k =
  chkT (room (w55.len + 1) 24) (L78_1 E n0 a0 a1 a2 (w64 (v27 + 1)) (⟨(w55.len + 1), (apG w55.len w55.get (fun _ => v11))⟩ : (Sl (Sl Gate))) k) := by kernel_rfl
end
theorem o78 (E : E78) (h60 : Ok Tryz.prog 60 (Cps.un E.c60)) (h138 : Ok Tryz.prog 138 (Cps.un E.c138)) (h139 : Ok Tryz.prog 139 (Cps.un E.c139)) : Ok Tryz.prog 78 (Cps.unA (F78 E)) := unA_ok (aF_all (((TabsOk.nil.addF h60).addF h138).addF h139) (callB_ok (by kernel_rfl)))
structure E79 where
  N : Nat
  c123 : Int × Int × Int → Cps (Bool)
  c140 : (Pt event) × Int → Cps (Int)
  c96 : Int → Cps (Bool)
noncomputable abbrev G79 (E : E79) : Ctrs := csm (((Tabs.nil.addF 123 (Cps.un E.c123)).addF 140 (Cps.un E.c140)).addF 96 (Cps.un E.c96)) [8]
noncomputable def A79 : Ann := annOf Tryz.prog 79 [] { cut := [7] }
noncomputable def F79 (E : E79) : (Pt event) × Track → Cps (Bool) := Cps.ty (aF Tryz.prog E.N (G79 E) A79 79)
section
variable (E : E79) {A : Type} (k : Bool → Option A)
noncomputable def L79_1 (E : E79) (n : Nat) (a0 : (Pt event)) (a1 : Track) (v12 : Int) (mn8 : Nat) (mf8 : List Int → Option (List Int)) {A : Type} (k : Bool → Option A) : Option A :=
  ptT Tryz.prog (G79 E) E.N A79 79 [1, 1, 0, 1, 0] [.n n] (tyK k)
    ⟨[(0, eP a0), (3, .cl (.ptr 3 0)), (5, .cl (.mo 8)), (10, eP a1.Hits), (11, .int (a1.Hits.len : Int)), (12, .int v12)], [(3, eB 43 a1), (8, .mo 3 4 (.one, 1, false, [none]) mn8 mf8)], []⟩
noncomputable def L79_2 (E : E79) (n0 : Nat) (a0 : (Pt event)) (a1 : Track) (v7 : Int) (v12 : Int) (mn8 : Nat) (mf8 : List Int → Option (List Int)) {A : Type} (k : Bool → Option A) : Option A :=
  ptT Tryz.prog (G79 E) E.N A79 79 [1, 1, 0, 1, 0, 0, 1, 1, 0, 0, 1, 1] [.n n0] (tyK k)
    ⟨[(0, eP a0), (3, .cl (.ptr 3 0)), (5, .cl (.mo 8)), (7, .int v7), (10, eP a1.Hits), (11, .int (a1.Hits.len : Int)), (12, .int v12)], [(3, eB 43 a1), (8, .mo 3 4 (.one, 1, false, [none]) mn8 mf8)], []⟩
theorem e79 (a0 : (Pt event)) (a1 : Track) : (F79 E (a0, a1)).T k =
  L79_1 E E.N a0 a1 0 0 (fun _ => none) k := ty_T.trans (by kernel_rfl)
theorem e79_1 (n0 : Nat) (a0 : (Pt event)) (a1 : Track) (v12 : Int) (mn8 : Nat) (mf8 : List Int → Option (List Int)) : L79_1 E (n0 + 1) a0 a1 v12 mn8 mf8 k =
  cond (decide (v12 < (a1.Hits.len : Int)))
  (chkT (decide (0 ≤ v12 ∧ v12 < (a1.Hits.len : Int))) ((E.c123 (a1.Hits.get v12.toNat, 0, (w64 ((a0.v.hits.len : Int) - 1)))).T fun r1 =>
    cond (!r1)
    (k false)
    (cond (decide (v12 > 0))
      (chkT (decide (0 ≤ (w64 (v12 - 1)) ∧ (w64 (v12 - 1)) < (a1.Hits.len : Int))) (cond (decide (a1.Hits.get v12.toNat ≤ a1.Hits.get (w64 (v12 - 1)).toNat))
        (k false)
        ((E.c140 (a0, a1.Hits.get v12.toNat)).T fun r2 =>
          cond (r2 != a1.View)
          (k false)
          (chkT (decide (0 ≤ a1.Hits.get v12.toNat ∧ a1.Hits.get v12.toNat < (a0.v.hits.len : Int))) (cond (nthO (mf8 [(a0.v.hits.get (a1.Hits.get v12.toNat).toNat).Plane]) 0 != 0)
            (k false)
            (cond (decide (v12 ≥ (a1.Sides.len : Int)))
              (k false)
              (chkT (decide (0 ≤ v12 ∧ v12 < (a1.Sides.len : Int))) (chkT (decide (0 ≤ a1.Hits.get v12.toNat ∧ a1.Hits.get v12.toNat < (a0.v.gates.len : Int))) ((E.c123 (a1.Sides.get v12.toNat, 0, (w64 (((a0.v.gates.get (a1.Hits.get v12.toNat).toNat).len : Int) - 1)))).T fun r3 =>
                cond (!r3)
                (k false)
                (L79_2 E n0 a0 a1 (a1.Hits.get v12.toNat) v12 mn8 mf8 k))))))))))
      ((E.c140 (a0, a1.Hits.get v12.toNat)).T fun r4 =>
        cond (r4 != a1.View)
        (k false)
        (chkT (decide (0 ≤ a1.Hits.get v12.toNat ∧ a1.Hits.get v12.toNat < (a0.v.hits.len : Int))) (cond (nthO (mf8 [(a0.v.hits.get (a1.Hits.get v12.toNat).toNat).Plane]) 0 != 0)
          (k false)
          (cond (decide (v12 ≥ (a1.Sides.len : Int)))
            (k false)
            (chkT (decide (0 ≤ v12 ∧ v12 < (a1.Sides.len : Int))) (chkT (decide (0 ≤ a1.Hits.get v12.toNat ∧ a1.Hits.get v12.toNat < (a0.v.gates.len : Int))) ((E.c123 (a1.Sides.get v12.toNat, 0, (w64 (((a0.v.gates.get (a1.Hits.get v12.toNat).toNat).len : Int) - 1)))).T fun r5 =>
              cond (!r5)
              (k false)
              (L79_2 E n0 a0 a1 (a1.Hits.get v12.toNat) v12 mn8 mf8 k)))))))))))
  ((E.c96 a1.View).T fun r6 =>
    cond r6
    (cond (decide ((a1.Hits.len : Int) > 0))
      (k ((a1.Sides.len : Int) == (a1.Hits.len : Int)))
      (k false))
    (k false)) := by kernel_rfl
theorem e79_2 (n0 : Nat) (a0 : (Pt event)) (a1 : Track) (v7 : Int) (v12 : Int) (mn8 : Nat) (mf8 : List Int → Option (List Int)) : L79_2 E n0 a0 a1 v7 v12 mn8 mf8 k =
  chkT (decide (0 ≤ v7 ∧ v7 < (a0.v.hits.len : Int))) (L79_1 E n0 a0 a1 (w64 (v12 + 1)) (addN (mf8 [(a0.v.hits.get v7.toNat).Plane]) mn8) (setM [(a0.v.hits.get v7.toNat).Plane] [1] mf8) k) := by kernel_rfl
end
theorem o79 (E : E79) (h123 : Ok Tryz.prog 123 (Cps.un E.c123)) (h140 : Ok Tryz.prog 140 (Cps.un E.c140)) (h96 : Ok Tryz.prog 96 (Cps.un E.c96)) : Ok Tryz.prog 79 (Cps.un (F79 E)) := un_ok (aF_all (((TabsOk.nil.addF h123).addF h140).addF h96) (callB_ok (by kernel_rfl)))
structure E96 where
  N : Nat
noncomputable abbrev G96 (E : E96) : Ctrs := csm Tabs.nil []
noncomputable def A96 : Ann := annOf Tryz.prog 96 [] {}
noncomputable def F96 (E : E96) : Int → Cps (Bool) := Cps.ty (aF Tryz.prog E.N (G96 E) A96 96)
section
variable (E : E96) {A : Type} (k : Bool → Option A)
theorem e96 (a0 : Int) : (F96 E (a0)).T k =
  cond (a0 == 1)
  (k true)
  (k (a0 == 2)) := ty_T.trans (by kernel_rfl)
end
theorem o96 (E : E96) : Ok Tryz.prog 96 (Cps.un (F96 E)) := un_ok (aF_all TabsOk.nil (callB_ok (by kernel_rfl)))
structure E105 where
  N : Nat
noncomputable abbrev G105 (E : E105) : Ctrs := csm Tabs.nil []
noncomputable def A105 : Ann := annOf Tryz.prog 105 [] { ks := [(1, 3, ⟨[], [(5, 32, 101)], [], [], [], [], []⟩)] }
noncomputable def F105 (E : E105) : (Pt event) × Track → Cps ((Sl Gate)) := Cps.ty (aF Tryz.prog E.N (G105 E) A105 105)
section
variable (E : E105) {A : Type} (k : (Sl Gate) → Option A)
noncomputable def L105_1 (E : E105) (n : Nat) (a0 : (Pt event)) (a1 : Track) (v11 : Int) (w32 : Sl Gate) {A : Type} (k : (Sl Gate) → Option A) : Option A :=
  ptT Tryz.prog (G105 E) E.N A105 105 [1, 1, 0, 1, 0] [.n n] (tyK k)
    ⟨[(0, eP a0), (3, .cl (.ptr 3 0)), (5, .cl (.vec 32)), (9, eP a1.Hits), (10, .int (a1.Hits.len : Int)), (11, .int v11)], [(3, eB 43 a1), (32, eV 101 3 24 w32)], []⟩
theorem e105 (a0 : (Pt event)) (a1 : Track) : (F105 E (a0, a1)).T k =
  L105_1 E E.N a0 a1 0 (⟨0, (fun _ => (⟨0, 0, 0⟩ : Gate))⟩ : (Sl Gate)) k := ty_T.trans (by kernel_rfl)
theorem e105_1 (n0 : Nat) (a0 : (Pt event)) (a1 : Track) (v11 : Int) (w32 : Sl Gate) : L105_1 E (n0 + 1) a0 a1 v11 w32 k =
  cond (decide (v11 < (a1.Hits.len : Int)))
  (chkT (decide (0 ≤ v11 ∧ v11 < (a1.Hits.len : Int))) (chkT (decide (0 ≤ a1.Hits.get v11.toNat ∧ a1.Hits.get v11.toNat < (a0.v.gates.len : Int))) (chkT (decide (0 ≤ v11 ∧ v11 < (a1.Sides.len : Int))) (chkT (decide (0 ≤ a1.Sides.get v11.toNat ∧ a1.Sides.get v11.toNat < ((a0.v.gates.get (a1.Hits.get v11.toNat).toNat).len : Int))) (chkT (room (w32.len + 1) 24) (L105_1 E n0 a0 a1 (w64 (v11 + 1)) (⟨(w32.len + 1), (apG w32.len w32.get (fun _ => ((a0.v.gates.get (a1.Hits.get v11.toNat).toNat).get (a1.Sides.get v11.toNat).toNat)))⟩ : (Sl Gate)) k))))))
  (k w32) := by kernel_rfl
end
theorem o105 (E : E105) : Ok Tryz.prog 105 (Cps.un (F105 E)) := un_ok (aF_all TabsOk.nil (callB_ok (by kernel_rfl)))
structure E173 where
  N : Nat
  c140 : (Pt event) × Int → Cps (Int)
noncomputable abbrev G173 (E : E173) : Ctrs := csm (Tabs.nil.addF 140 (Cps.un E.c140)) []
noncomputable def A173 : Ann := annOf Tryz.prog 173 [0] { yl := [7] }
noncomputable def R173 (E : E173) (c : List PA) : YO := aI Tryz.prog (G173 E) E.N A173 173 c
noncomputable def I173 (E : E173) : (Pt Int) × (Pt (Pt event)) × (Pt Int) → Cps (List (Int × Int)) := Cps.tyI fun c => .opt (R173 E c)
section
variable (E : E173)
noncomputable def L173_1 (E : E173) (n : Nat) (a2 : (Pt (Pt event))) (a3 : (Pt Int)) (v5 : Int) : YO :=
  ptY Tryz.prog (G173 E) E.N A173 173 [1, 0] [n]
    ⟨[(0, .cl (.vec 4095)), (2, eP a2), (3, eP a3), (5, .int v5)], [(4095, .gone)], []⟩
noncomputable def L173_2 (E : E173) (n0 : Nat) (n : Nat) (a2 : (Pt (Pt event))) (a3 : (Pt Int)) (v5 : Int) (v29 : Int) (v30 : Int) : YO :=
  ptY Tryz.prog (G173 E) E.N A173 173 [1, 0, 0, 1, 0, 0, 1, 1, 0] [n0, n]
    ⟨[(0, .cl (.vec 4095)), (2, eP a2), (3, eP a3), (5, .int v5), (29, .int v29), (30, .int v30)], [(4095, .gone)], []⟩
theorem e173 (a1 : (Pt Int)) (a2 : (Pt (Pt event))) (a3 : (Pt Int)) : R173 E (LsC.enc ((a1, a2, a3) : (Pt Int) × (Pt (Pt event)) × (Pt Int))) =
  L173_1 E E.N a2 a3 a1.v := by kernel_rfl
theorem e173_1 (n0 : Nat) (a2 : (Pt (Pt event))) (a3 : (Pt Int)) (v5 : Int) : L173_1 E (n0 + 1) a2 a3 v5 =
  cond (decide (v5 < (a2.v.v.hits.len : Int)))
  ((E.c140 (a2.v, v5)).T fun r1 =>
    cond (r1 != a3.v)
    (L173_1 E n0 a2 a3 (w64 (v5 + 1)))
    (chkT (decide (0 ≤ v5 ∧ v5 < (a2.v.v.gates.len : Int))) (L173_2 E n0 E.N a2 a3 v5 ((a2.v.v.gates.get v5.toNat).len : Int) 0)))
  (some []) := by kernel_rfl
theorem e173_2 (n0 : Nat) (n1 : Nat) (a2 : (Pt (Pt event))) (a3 : (Pt Int)) (v5 : Int) (v29 : Int) (v30 : Int) : L173_2 E n0 (n1 + 1) a2 a3 v5 v29 v30 =
  cond (decide (v30 < v29))
  (yT (LsC.enc ((v5, v30) : Int × Int)) (some [])
    (L173_2 E n0 n1 a2 a3 v5 v29 (w64 (v30 + 1))))
  (L173_1 E n0 a2 a3 (w64 (v5 + 1))) := by kernel_rfl
end
theorem o173 (E : E173) (h140 : Ok Tryz.prog 140 (Cps.un E.c140)) : ItOk Tryz.prog 173 (Cps.unI (I173 E)) := unI_ok (aI_all (TabsOk.nil.addF h140) (callB_ok (by kernel_rfl)))
structure E140 where
  N : Nat
noncomputable abbrev G140 (E : E140) : Ctrs := csm Tabs.nil []
noncomputable def A140 : Ann := annOf Tryz.prog 140 [] {}
noncomputable def F140 (E : E140) : (Pt event) × Int → Cps (Int) := Cps.ty (aF Tryz.prog E.N (G140 E) A140 140)
section
variable (E : E140) {A : Type} (k : Int → Option A)
theorem e140 (a0 : (Pt event)) (a1 : Int) : (F140 E (a0, a1)).T k =
  chkT (decide (0 ≤ a1 ∧ a1 < (a0.v.hits.len : Int))) (chkT (decide (0 ≤ (a0.v.hits.get a1.toNat).Plane ∧ (a0.v.hits.get a1.toNat).Plane < (a0.v.Setup.Planes.len : Int))) (k (a0.v.Setup.Planes.get (a0.v.hits.get a1.toNat).Plane.toNat).View)) := ty_T.trans (by kernel_rfl)
end
theorem o140 (E : E140) : Ok Tryz.prog 140 (Cps.un (F140 E)) := un_ok (aF_all TabsOk.nil (callB_ok (by kernel_rfl)))
structure E122 where
  N : Nat
  c160 : Setup → Cps (Bool)
noncomputable abbrev G122 (E : E122) : Ctrs := csm (Tabs.nil.addF 160 (Cps.un E.c160)) []
noncomputable def A122 : Ann := annOf Tryz.prog 122 [] {}
noncomputable def F122 (E : E122) : Setup → Cps (Int) := Cps.ty (aF Tryz.prog E.N (G122 E) A122 122)
section
variable (E : E122) {A : Type} (k : Int → Option A)
theorem e122 (a0 : Setup) : (F122 E (a0)).T k =
  (E.c160 a0).T fun r1 =>
  cond (!r1)
  (k 2)
  (k 0) := ty_T.trans (by kernel_rfl)
end
theorem o122 (E : E122) (h160 : Ok Tryz.prog 160 (Cps.un E.c160)) : Ok Tryz.prog 122 (Cps.un (F122 E)) := un_ok (aF_all (TabsOk.nil.addF h160) (callB_ok (by kernel_rfl)))
structure E123 where
  N : Nat
noncomputable abbrev G123 (E : E123) : Ctrs := csm Tabs.nil []
noncomputable def A123 : Ann := annOf Tryz.prog 123 [] {}
noncomputable def F123 (E : E123) : Int × Int × Int → Cps (Bool) := Cps.ty (aF Tryz.prog E.N (G123 E) A123 123)
section
variable (E : E123) {A : Type} (k : Bool → Option A)
theorem e123 (a0 : Int) (a1 : Int) (a2 : Int) : (F123 E (a0, a1, a2)).T k =
  cond (decide (a0 ≥ a1))
  (k (decide (a0 ≤ a2)))
  (k false) := ty_T.trans (by kernel_rfl)
end
theorem o123 (E : E123) : Ok Tryz.prog 123 (Cps.un (F123 E)) := un_ok (aF_all TabsOk.nil (callB_ok (by kernel_rfl)))
structure E138 where
  N : Nat
  c188 : Setup × Hit → Cps (Bool)
noncomputable abbrev G138 (E : E138) : Ctrs := csm (Tabs.nil.addF 188 (Cps.un E.c188)) []
noncomputable def A138 : Ann := annOf Tryz.prog 138 [] {}
noncomputable def F138 (E : E138) : Setup × Hit → Cps (Int) := Cps.ty (aF Tryz.prog E.N (G138 E) A138 138)
section
variable (E : E138) {A : Type} (k : Int → Option A)
theorem e138 (a0 : Setup) (a1 : Hit) : (F138 E (a0, a1)).T k =
  (E.c188 (a0, a1)).T fun r1 =>
  cond (!r1)
  (k 2)
  (k 0) := ty_T.trans (by kernel_rfl)
end
theorem o138 (E : E138) (h188 : Ok Tryz.prog 188 (Cps.un E.c188)) : Ok Tryz.prog 138 (Cps.un (F138 E)) := un_ok (aF_all (TabsOk.nil.addF h188) (callB_ok (by kernel_rfl)))
structure E139 where
  N : Nat
  c188 : Setup × Hit → Cps (Bool)
  c112 : Setup × Hit → Cps (placed × Bool)
  c189 : placed × Hit → Cps ((Sl Gate))
noncomputable abbrev G139 (E : E139) : Ctrs := csm (((Tabs.nil.addF 188 (Cps.un E.c188)).addF 112 (Cps.un E.c112)).addF 189 (Cps.un E.c189)) []
noncomputable def A139 : Ann := annOf Tryz.prog 139 [] {}
noncomputable def F139 (E : E139) : Setup × Hit → Cps ((Sl Gate) × Int) := Cps.ty (aF Tryz.prog E.N (G139 E) A139 139)
section
variable (E : E139) {A : Type} (k : ((Sl Gate) × Int) → Option A)
theorem e139 (a0 : Setup) (a1 : Hit) : (F139 E (a0, a1)).T k =
  (E.c188 (a0, a1)).T fun r1 =>
  cond (!r1)
  (k ((⟨0, fun _ => default⟩ : (Sl Gate)), 2))
  ((E.c112 (a0, a1)).T fun r2 =>
    (E.c189 (r2.1, a1)).T fun r3 =>
    cond ((r3.len : Int) == 0)
    (k ((⟨0, fun _ => default⟩ : (Sl Gate)), 5))
    (k (r3, 0))) := ty_T.trans (by kernel_rfl)
end
theorem o139 (E : E139) (h188 : Ok Tryz.prog 188 (Cps.un E.c188)) (h112 : Ok Tryz.prog 112 (Cps.un E.c112)) (h189 : Ok Tryz.prog 189 (Cps.un E.c189)) : Ok Tryz.prog 139 (Cps.un (F139 E)) := un_ok (aF_all (((TabsOk.nil.addF h188).addF h112).addF h189) (callB_ok (by kernel_rfl)))
structure E112 where
  N : Nat
  c161 : Int × Int × Int → Cps (Bool)
noncomputable abbrev G112 (E : E112) : Ctrs := csm (Tabs.nil.addF 161 (Cps.un E.c161)) []
noncomputable def A112 : Ann := annOf Tryz.prog 112 [] {}
noncomputable def F112 (E : E112) : Setup × Hit → Cps (placed × Bool) := Cps.ty (aF Tryz.prog E.N (G112 E) A112 112)
section
variable (E : E112) {A : Type} (k : (placed × Bool) → Option A)
noncomputable def L112_1 (E : E112) (n : Nat) (a0 : Setup) (a1 : Hit) (v67 : Int) {A : Type} (k : (placed × Bool) → Option A) : Option A :=
  ptT Tryz.prog (G112 E) E.N A112 112 [1, 1, 1, 1, 0, 1, 0] [.n n] (tyK k)
    ⟨[(3, .cl (.ptr 3 0)), (4, .cl (.ptr 4 0)), (6, .cl (.ptr 6 0)), (65, eP (a0.Planes.get a1.Plane.toNat).Dead), (66, .int ((a0.Planes.get a1.Plane.toNat).Dead.len : Int)), (67, .int v67)], [(3, eB 92 a1), (4, .box 185 [.p (.int .i64 0), .p (.int .i64 0), .p (.int .i64 0), .p (.int .i64 0), .p (.int .i64 0), .p (.int .i64 0), .p (.int .i64 0), .p (.int .i64 0), .p (.int .i64 0), .p (.int .i64 0), .p (.int .i64 0), .p (.int .i64 0), .p (.int .i64 0), .p (.nils), .p (.nils), .p (.int .i64 0)]), (6, .box 185 [.p (.int .i64 (a0.Planes.get a1.Plane.toNat).Kind), .p (.int .i64 (a0.Planes.get a1.Plane.toNat).View), .p (.int .i64 (a0.Planes.get a1.Plane.toNat).Z), .p (.int .i64 (a0.Planes.get a1.Plane.toNat).First), .p (.int .i64 (a0.Planes.get a1.Plane.toNat).Pitch), .p (.int .i64 (a0.Planes.get a1.Plane.toNat).Strips), .p (.int .i64 (a0.Planes.get a1.Plane.toNat).Spill), .p (.int .i64 (a0.Planes.get a1.Plane.toNat).Offset.Low), .p (.int .i64 (a0.Planes.get a1.Plane.toNat).Offset.High), .p (.int .i64 (a0.Planes.get a1.Plane.toNat).Clock.Low), .p (.int .i64 (a0.Planes.get a1.Plane.toNat).Clock.High), .p (.int .i64 (a0.Planes.get a1.Plane.toNat).Jitter), .p (.int .i64 (a0.Planes.get a1.Plane.toNat).Least), .p (.sl (a0.Planes.get a1.Plane.toNat).Drift.len 3 (fun i => FdC.enc ((a0.Planes.get a1.Plane.toNat).Drift.get i))), .p (.sl (a0.Planes.get a1.Plane.toNat).Dead.len 1 (fun i => FdC.enc ((a0.Planes.get a1.Plane.toNat).Dead.get i))), .p (.int .i64 a1.Plane)])], []⟩
theorem e112 (a0 : Setup) (a1 : Hit) : (F112 E (a0, a1)).T k =
  (E.c161 (a1.Plane, 0, (w64 ((a0.Planes.len : Int) - 1)))).T fun r1 =>
  cond (!r1)
  (k ((⟨(⟨0, 0, 0, 0, 0, 0, 0, (⟨0, 0⟩ : Span), (⟨0, 0⟩ : Span), 0, 0, (⟨0, fun _ => default⟩ : (Sl Drift)), (⟨0, fun _ => default⟩ : (Sl Int))⟩ : Plane), 0⟩ : placed), false))
  (chkT (decide (0 ≤ a1.Plane ∧ a1.Plane < (a0.Planes.len : Int))) ((E.c161 (a1.Channel, 0, (w64 ((a0.Planes.get a1.Plane.toNat).Strips - 1)))).T fun r2 =>
    cond (!r2)
    (k ((⟨(a0.Planes.get a1.Plane.toNat), a1.Plane⟩ : placed), false))
    ((E.c161 (a1.Many, 1, (w64 ((a0.Planes.get a1.Plane.toNat).Strips - a1.Channel)))).T fun r3 =>
      cond (!r3)
      (k ((⟨(a0.Planes.get a1.Plane.toNat), a1.Plane⟩ : placed), false))
      ((E.c161 (a1.Charge, (a0.Planes.get a1.Plane.toNat).Least, 1000000)).T fun r4 =>
        cond (!r4)
        (k ((⟨(a0.Planes.get a1.Plane.toNat), a1.Plane⟩ : placed), false))
        ((E.c161 (a1.Time, (-1000000000), 1000000000)).T fun r5 =>
          cond (!r5)
          (k ((⟨(a0.Planes.get a1.Plane.toNat), a1.Plane⟩ : placed), false))
          (L112_1 E E.N a0 a1 0 k)))))) := ty_T.trans (by kernel_rfl)
theorem e112_1 (n0 : Nat) (a0 : Setup) (a1 : Hit) (v67 : Int) : L112_1 E (n0 + 1) a0 a1 v67 k =
  cond (decide (v67 < ((a0.Planes.get a1.Plane.toNat).Dead.len : Int)))
  (chkT (decide (0 ≤ v67 ∧ v67 < ((a0.Planes.get a1.Plane.toNat).Dead.len : Int))) ((E.c161 ((a0.Planes.get a1.Plane.toNat).Dead.get v67.toNat, a1.Channel, (w64 ((w64 (a1.Channel + a1.Many)) - 1)))).T fun r1 =>
    cond r1
    (k ((⟨(a0.Planes.get a1.Plane.toNat), a1.Plane⟩ : placed), false))
    (L112_1 E n0 a0 a1 (w64 (v67 + 1)) k)))
  (cond ((a0.Planes.get a1.Plane.toNat).Kind == 2)
    (cond (a1.Many == 1)
      ((E.c161 (a1.Drift, 0, 1000000)).T fun r2 =>
        k ((⟨(a0.Planes.get a1.Plane.toNat), a1.Plane⟩ : placed), r2))
      (k ((⟨(a0.Planes.get a1.Plane.toNat), a1.Plane⟩ : placed), false)))
    (cond (a1.Drift == 0)
      (cond ((a0.Planes.get a1.Plane.toNat).Kind != 3)
        (k ((⟨(a0.Planes.get a1.Plane.toNat), a1.Plane⟩ : placed), true))
        (k ((⟨(a0.Planes.get a1.Plane.toNat), a1.Plane⟩ : placed), (a1.Time == 0))))
      (k ((⟨(a0.Planes.get a1.Plane.toNat), a1.Plane⟩ : placed), false)))) := by kernel_rfl
end
theorem o112 (E : E112) (h161 : Ok Tryz.prog 161 (Cps.un E.c161)) : Ok Tryz.prog 112 (Cps.un (F112 E)) := un_ok (aF_all (TabsOk.nil.addF h161) (callB_ok (by kernel_rfl)))
structure E161 where
  N : Nat
noncomputable abbrev G161 (E : E161) : Ctrs := csm Tabs.nil []
noncomputable def A161 : Ann := annOf Tryz.prog 161 [] {}
noncomputable def F161 (E : E161) : Int × Int × Int → Cps (Bool) := Cps.ty (aF Tryz.prog E.N (G161 E) A161 161)
section
variable (E : E161) {A : Type} (k : Bool → Option A)
theorem e161 (a0 : Int) (a1 : Int) (a2 : Int) : (F161 E (a0, a1, a2)).T k =
  cond (decide (a0 ≥ a1))
  (k (decide (a0 ≤ a2)))
  (k false) := ty_T.trans (by kernel_rfl)
end
theorem o161 (E : E161) : Ok Tryz.prog 161 (Cps.un (F161 E)) := un_ok (aF_all TabsOk.nil (callB_ok (by kernel_rfl)))
structure E160 where
  N : Nat
  c201 : placed → Cps (Bool)
  c161 : Int × Int × Int → Cps (Bool)
noncomputable abbrev G160 (E : E160) : Ctrs := csm ((Tabs.nil.addF 201 (Cps.un E.c201)).addF 161 (Cps.un E.c161)) []
noncomputable def A160 : Ann := annOf Tryz.prog 160 [] {}
noncomputable def F160 (E : E160) : Setup → Cps (Bool) := Cps.ty (aF Tryz.prog E.N (G160 E) A160 160)
section
variable (E : E160) {A : Type} (k : Bool → Option A)
noncomputable def L160_1 (E : E160) (n : Nat) (a0 : Setup) (v9 : Int) {A : Type} (k : Bool → Option A) : Option A :=
  ptT Tryz.prog (G160 E) E.N A160 160 [1, 0, 1, 0] [.n n] (tyK k)
    ⟨[(1, .cl (.ptr 1 0)), (7, eP a0.Planes), (8, .int (a0.Planes.len : Int)), (9, .int v9)], [(1, eB 24 a0)], []⟩
theorem e160 (a0 : Setup) : (F160 E (a0)).T k =
  L160_1 E E.N a0 0 k := ty_T.trans (by kernel_rfl)
theorem e160_1 (n0 : Nat) (a0 : Setup) (v9 : Int) : L160_1 E (n0 + 1) a0 v9 k =
  cond (decide (v9 < (a0.Planes.len : Int)))
  (chkT (decide (0 ≤ v9 ∧ v9 < (a0.Planes.len : Int))) ((E.c201 (⟨(a0.Planes.get v9.toNat), v9⟩ : placed)).T fun r1 =>
    cond (!r1)
    (k false)
    (cond (decide (v9 > 0))
      (chkT (decide (0 ≤ (w64 (v9 - 1)) ∧ (w64 (v9 - 1)) < (a0.Planes.len : Int))) (cond (decide ((a0.Planes.get v9.toNat).Z ≤ (a0.Planes.get (w64 (v9 - 1)).toNat).Z))
        (k false)
        (L160_1 E n0 a0 (w64 (v9 + 1)) k)))
      (L160_1 E n0 a0 (w64 (v9 + 1)) k))))
  ((E.c161 ((a0.Planes.len : Int), 1, 16)).T fun r2 =>
    k r2) := by kernel_rfl
end
theorem o160 (E : E160) (h201 : Ok Tryz.prog 201 (Cps.un E.c201)) (h161 : Ok Tryz.prog 161 (Cps.un E.c161)) : Ok Tryz.prog 160 (Cps.un (F160 E)) := un_ok (aF_all ((TabsOk.nil.addF h201).addF h161) (callB_ok (by kernel_rfl)))
structure E164 where
  N : Nat
  c161 : Int × Int × Int → Cps (Bool)
noncomputable abbrev G164 (E : E164) : Ctrs := csm (Tabs.nil.addF 161 (Cps.un E.c161)) []
noncomputable def A164 : Ann := annOf Tryz.prog 164 [] {}
noncomputable def F164 (E : E164) : Span × Int → Cps (Bool) := Cps.ty (aF Tryz.prog E.N (G164 E) A164 164)
section
variable (E : E164) {A : Type} (k : Bool → Option A)
theorem e164 (a0 : Span) (a1 : Int) : (F164 E (a0, a1)).T k =
  (E.c161 (a0.Low, (w64 (0 - a1)), a0.High)).T fun r1 =>
  cond r1
  (k (decide (a0.High ≤ a1)))
  (k false) := ty_T.trans (by kernel_rfl)
end
theorem o164 (E : E164) (h161 : Ok Tryz.prog 161 (Cps.un E.c161)) : Ok Tryz.prog 164 (Cps.un (F164 E)) := un_ok (aF_all (TabsOk.nil.addF h161) (callB_ok (by kernel_rfl)))
structure E201 where
  N : Nat
  c161 : Int × Int × Int → Cps (Bool)
  c235 : placed → Cps (Bool)
  c232 : placed → Cps (Bool)
  c233 : placed → Cps (Bool)
  c234 : placed → Cps (Bool)
noncomputable abbrev G201 (E : E201) : Ctrs := csm (((((Tabs.nil.addF 161 (Cps.un E.c161)).addF 235 (Cps.un E.c235)).addF 232 (Cps.un E.c232)).addF 233 (Cps.un E.c233)).addF 234 (Cps.un E.c234)) []
noncomputable def A201 : Ann := annOf Tryz.prog 201 [] {}
noncomputable def F201 (E : E201) : placed → Cps (Bool) := Cps.ty (aF Tryz.prog E.N (G201 E) A201 201)
abbrev knd (n : Int) (a : placed) : placed := { a with Plane := { a.Plane with Kind := n } }
section
variable (E : E201) {A : Type} (k : Bool → Option A)
noncomputable def L201_1 (E : E201) (a0 : placed) (v16 : Bool) {A : Type} (k : Bool → Option A) : Option A :=
  ptT Tryz.prog (G201 E) E.N A201 201 [1, 1, 0, 0] [.o 4] (tyK k)
    ⟨[(16, .bool v16), (15, .int a0.Plane.Kind), (14, .cl (.ptr 1 0)), (13, .cl (.ptr 1 0)), (1, .cl (.ptr 1 0)), (3, .cl (.ptr 3 0))], [(1, eB 185 a0), (3, .box 301 [.p (.nilf), .p (.fna 232 (FdC.enc a0)), .p (.fna 233 (FdC.enc a0)), .p (.fna 234 (FdC.enc a0))])], [(2, 1, 0)]⟩
noncomputable def L201_2 (E : E201) (n : Nat) (a0 : placed) (v36 : Int) {A : Type} (k : Bool → Option A) : Option A :=
  ptT Tryz.prog (G201 E) E.N A201 201 [1, 1, 1, 0, 1, 0] [.n n] (tyK k)
    ⟨[(1, .cl (.ptr 1 0)), (34, eP a0.Plane.Dead), (35, .int (a0.Plane.Dead.len : Int)), (36, .int v36)], [(1, eB 185 a0)], []⟩
theorem e201 (a0 : placed) : (F201 E (a0)).T k =
  (E.c161 (a0.Plane.Kind, 1, 3)).T fun r1 =>
  L201_1 E a0 r1 k := ty_T.trans (by kernel_rfl)
theorem e201_1f (a0 : placed) : L201_1 E a0 false k =
  k false := by kernel_rfl
theorem e201_1a (a0 : placed) : L201_1 E (knd 1 a0) true k =
  (E.c235 (knd 1 a0)).T fun r1 =>
  cond (!r1)
  (k false)
  ((E.c232 (knd 1 a0)).T fun r2 =>
    cond (!r2)
    (k false)
    (L201_2 E E.N (knd 1 a0) 0 k)) := by kernel_rfl
theorem e201_1b (a0 : placed) : L201_1 E (knd 2 a0) true k =
  (E.c235 (knd 2 a0)).T fun r1 =>
  cond (!r1)
  (k false)
  ((E.c233 (knd 2 a0)).T fun r2 =>
    cond (!r2)
    (k false)
    (L201_2 E E.N (knd 2 a0) 0 k)) := by kernel_rfl
theorem e201_1c (a0 : placed) : L201_1 E (knd 3 a0) true k =
  (E.c235 (knd 3 a0)).T fun r1 =>
  cond (!r1)
  (k false)
  ((E.c234 (knd 3 a0)).T fun r2 =>
    cond (!r2)
    (k false)
    (L201_2 E E.N (knd 3 a0) 0 k)) := by kernel_rfl
theorem e201_2 (n0 : Nat) (a0 : placed) (v36 : Int) : L201_2 E (n0 + 1) a0 v36 k =
  cond (decide (v36 < (a0.Plane.Dead.len : Int)))
  (chkT (decide (0 ≤ v36 ∧ v36 < (a0.Plane.Dead.len : Int))) ((E.c161 (a0.Plane.Dead.get v36.toNat, 0, (w64 (a0.Plane.Strips - 1)))).T fun r1 =>
    cond (!r1)
    (k false)
    (cond (decide (v36 > 0))
      (chkT (decide (0 ≤ (w64 (v36 - 1)) ∧ (w64 (v36 - 1)) < (a0.Plane.Dead.len : Int))) (cond (decide (a0.Plane.Dead.get v36.toNat ≤ a0.Plane.Dead.get (w64 (v36 - 1)).toNat))
        (k false)
        (L201_2 E n0 a0 (w64 (v36 + 1)) k)))
      (L201_2 E n0 a0 (w64 (v36 + 1)) k))))
  (k (decide ((a0.Plane.Dead.len : Int) ≤ 100))) := by kernel_rfl
end
theorem o201 (E : E201) (h161 : Ok Tryz.prog 161 (Cps.un E.c161)) (h235 : Ok Tryz.prog 235 (Cps.un E.c235)) (h232 : Ok Tryz.prog 232 (Cps.un E.c232)) (h233 : Ok Tryz.prog 233 (Cps.un E.c233)) (h234 : Ok Tryz.prog 234 (Cps.un E.c234)) : Ok Tryz.prog 201 (Cps.un (F201 E)) := un_ok (aF_all (((((TabsOk.nil.addF h161).addF h235).addF h232).addF h233).addF h234) (callB_ok (by kernel_rfl)))
structure E232 where
  N : Nat
noncomputable abbrev G232 (E : E232) : Ctrs := csm Tabs.nil []
noncomputable def A232 : Ann := annOf Tryz.prog 232 [] {}
noncomputable def F232 (E : E232) : placed → Cps (Bool) := Cps.ty (aF Tryz.prog E.N (G232 E) A232 232)
section
variable (E : E232) {A : Type} (k : Bool → Option A)
theorem e232 (a0 : placed) : (F232 E (a0)).T k =
  k ((a0.Plane.Drift.len : Int) == 0) := ty_T.trans (by kernel_rfl)
end
theorem o232 (E : E232) : Ok Tryz.prog 232 (Cps.un (F232 E)) := un_ok (aF_all TabsOk.nil (callB_ok (by kernel_rfl)))
structure E233 where
  N : Nat
  c161 : Int × Int × Int → Cps (Bool)
noncomputable abbrev G233 (E : E233) : Ctrs := csm (Tabs.nil.addF 161 (Cps.un E.c161)) []
noncomputable def A233 : Ann := annOf Tryz.prog 233 [] {}
noncomputable def F233 (E : E233) : placed → Cps (Bool) := Cps.ty (aF Tryz.prog E.N (G233 E) A233 233)
section
variable (E : E233) {A : Type} (k : Bool → Option A)
noncomputable def L233_1 (E : E233) (n : Nat) (a0 : placed) (v9 : Int) {A : Type} (k : Bool → Option A) : Option A :=
  ptT Tryz.prog (G233 E) E.N A233 233 [1, 0, 1, 0] [.n n] (tyK k)
    ⟨[(1, .cl (.ptr 1 0)), (7, eP a0.Plane.Drift), (8, .int (a0.Plane.Drift.len : Int)), (9, .int v9)], [(1, eB 185 a0)], []⟩
theorem e233 (a0 : placed) : (F233 E (a0)).T k =
  L233_1 E E.N a0 0 k := ty_T.trans (by kernel_rfl)
theorem e233_1 (n0 : Nat) (a0 : placed) (v9 : Int) : L233_1 E (n0 + 1) a0 v9 k =
  cond (decide (v9 < (a0.Plane.Drift.len : Int)))
  (chkT (decide (0 ≤ v9 ∧ v9 < (a0.Plane.Drift.len : Int))) ((E.c161 ((a0.Plane.Drift.get v9.toNat).Time, 0, 1000000)).T fun r1 =>
    cond (!r1)
    (k false)
    ((E.c161 ((a0.Plane.Drift.get v9.toNat).Radius.Low, 0, (a0.Plane.Drift.get v9.toNat).Radius.High)).T fun r2 =>
      cond (!r2)
      (k false)
      (cond (decide ((a0.Plane.Drift.get v9.toNat).Radius.High > (w64 (a0.Plane.Pitch.tdiv 2))))
        (k false)
        (cond (decide (v9 > 0))
          (chkT (decide (0 ≤ (w64 (v9 - 1)) ∧ (w64 (v9 - 1)) < (a0.Plane.Drift.len : Int))) (cond (decide ((a0.Plane.Drift.get v9.toNat).Time ≤ (a0.Plane.Drift.get (w64 (v9 - 1)).toNat).Time))
            (k false)
            (chkT (decide (0 ≤ (w64 (v9 - 1)) ∧ (w64 (v9 - 1)) < (a0.Plane.Drift.len : Int))) (cond (decide ((a0.Plane.Drift.get v9.toNat).Radius.Low < (a0.Plane.Drift.get (w64 (v9 - 1)).toNat).Radius.Low))
              (k false)
              (chkT (decide (0 ≤ (w64 (v9 - 1)) ∧ (w64 (v9 - 1)) < (a0.Plane.Drift.len : Int))) (cond (decide ((a0.Plane.Drift.get v9.toNat).Radius.High < (a0.Plane.Drift.get (w64 (v9 - 1)).toNat).Radius.High))
                (k false)
                (L233_1 E n0 a0 (w64 (v9 + 1)) k)))))))
          (L233_1 E n0 a0 (w64 (v9 + 1)) k))))))
  ((E.c161 ((a0.Plane.Drift.len : Int), 1, 50)).T fun r3 =>
    k r3) := by kernel_rfl
end
theorem o233 (E : E233) (h161 : Ok Tryz.prog 161 (Cps.un E.c161)) : Ok Tryz.prog 233 (Cps.un (F233 E)) := un_ok (aF_all (TabsOk.nil.addF h161) (callB_ok (by kernel_rfl)))
structure E234 where
  N : Nat
noncomputable abbrev G234 (E : E234) : Ctrs := csm Tabs.nil []
noncomputable def A234 : Ann := annOf Tryz.prog 234 [] {}
noncomputable def F234 (E : E234) : placed → Cps (Bool) := Cps.ty (aF Tryz.prog E.N (G234 E) A234 234)
section
variable (E : E234) {A : Type} (k : Bool → Option A)
theorem e234 (a0 : placed) : (F234 E (a0)).T k =
  k ((a0.Plane.Drift.len : Int) == 0) := ty_T.trans (by kernel_rfl)
end
theorem o234 (E : E234) : Ok Tryz.prog 234 (Cps.un (F234 E)) := un_ok (aF_all TabsOk.nil (callB_ok (by kernel_rfl)))
structure E235 where
  N : Nat
  c161 : Int × Int × Int → Cps (Bool)
  c164 : Span × Int → Cps (Bool)
noncomputable abbrev G235 (E : E235) : Ctrs := csm ((Tabs.nil.addF 161 (Cps.un E.c161)).addF 164 (Cps.un E.c164)) []
noncomputable def A235 : Ann := annOf Tryz.prog 235 [] {}
noncomputable def F235 (E : E235) : placed → Cps (Bool) := Cps.ty (aF Tryz.prog E.N (G235 E) A235 235)
section
variable (E : E235) {A : Type} (k : Bool → Option A)
theorem e235 (a0 : placed) : (F235 E (a0)).T k =
  (E.c161 (a0.Plane.View, 1, 2)).T fun r1 =>
  cond (!r1)
  (k false)
  ((E.c161 (a0.Plane.Z, 0, 100000)).T fun r2 =>
    cond (!r2)
    (k false)
    ((E.c161 (a0.Plane.First, (-1000000), 1000000)).T fun r3 =>
      cond (!r3)
      (k false)
      ((E.c161 (a0.Plane.Pitch, 2, 100000)).T fun r4 =>
        cond (!r4)
        (k false)
        ((E.c161 (a0.Plane.Strips, 1, 2000)).T fun r5 =>
          cond (!r5)
          (k false)
          ((E.c161 (a0.Plane.Spill, 0, 100000)).T fun r6 =>
            cond (!r6)
            (k false)
            ((E.c164 (a0.Plane.Offset, 1000000)).T fun r7 =>
              cond (!r7)
              (k false)
              ((E.c164 (a0.Plane.Clock, 1000000000)).T fun r8 =>
                cond (!r8)
                (k false)
                ((E.c161 (a0.Plane.Jitter, 0, 1000000)).T fun r9 =>
                  cond (!r9)
                  (k false)
                  ((E.c161 (a0.Plane.Least, 0, 1000000)).T fun r10 =>
                    cond (!r10)
                    (k false)
                    (cond (decide ((w64 ((w64 ((w64 (a0.Plane.First - a0.Plane.Pitch)) - a0.Plane.Spill)) + a0.Plane.Offset.Low)) ≥ (-1000000)))
                      (k (decide ((w64 ((w64 ((w64 (a0.Plane.First + (w64 ((w64 (a0.Plane.Strips + 1)) * a0.Plane.Pitch)))) + a0.Plane.Spill)) + a0.Plane.Offset.High)) ≤ 1000000)))
                      (k false))))))))))) := ty_T.trans (by kernel_rfl)
end
theorem o235 (E : E235) (h161 : Ok Tryz.prog 161 (Cps.un E.c161)) (h164 : Ok Tryz.prog 164 (Cps.un E.c164)) : Ok Tryz.prog 235 (Cps.un (F235 E)) := un_ok (aF_all ((TabsOk.nil.addF h161).addF h164) (callB_ok (by kernel_rfl)))
structure E188 where
  N : Nat
  c160 : Setup → Cps (Bool)
  c112 : Setup × Hit → Cps (placed × Bool)
noncomputable abbrev G188 (E : E188) : Ctrs := csm ((Tabs.nil.addF 160 (Cps.un E.c160)).addF 112 (Cps.un E.c112)) []
noncomputable def A188 : Ann := annOf Tryz.prog 188 [] {}
noncomputable def F188 (E : E188) : Setup × Hit → Cps (Bool) := Cps.ty (aF Tryz.prog E.N (G188 E) A188 188)
section
variable (E : E188) {A : Type} (k : Bool → Option A)
theorem e188 (a0 : Setup) (a1 : Hit) : (F188 E (a0, a1)).T k =
  (E.c160 a0).T fun r1 =>
  cond (!r1)
  (k false)
  ((E.c112 (a0, a1)).T fun r2 =>
    k r2.2) := ty_T.trans (by kernel_rfl)
end
theorem o188 (E : E188) (h160 : Ok Tryz.prog 160 (Cps.un E.c160)) (h112 : Ok Tryz.prog 112 (Cps.un E.c112)) : Ok Tryz.prog 188 (Cps.un (F188 E)) := un_ok (aF_all ((TabsOk.nil.addF h160).addF h112) (callB_ok (by kernel_rfl)))
structure E189 where
  N : Nat
  c223 : placed × Int × Int → Cps (Gate)
  c224 : placed × Int → Cps (Int × Int)
noncomputable abbrev G189 (E : E189) : Ctrs := csm ((Tabs.nil.addF 223 (Cps.un E.c223)).addF 224 (Cps.un E.c224)) []
noncomputable def A189 : Ann := annOf Tryz.prog 189 [] {}
noncomputable def F189 (E : E189) : placed × Hit → Cps ((Sl Gate)) := Cps.ty (aF Tryz.prog E.N (G189 E) A189 189)
section
variable (E : E189) {A : Type} (k : (Sl Gate) → Option A)
theorem e189 (a0 : placed) (a1 : Hit) : (F189 E (a0, a1)).T k =
  cond (a0.Plane.Kind != 2)
  (cond (decide ((w64 ((w64 (a0.Plane.First + (w64 ((w64 ((w64 (a1.Channel + a1.Many)) - 1)) * a0.Plane.Pitch)))) - a0.Plane.Spill)) > (w64 ((w64 (a0.Plane.First + (w64 ((w64 (a1.Channel + 1)) * a0.Plane.Pitch)))) + a0.Plane.Spill))))
    (k (⟨0, fun _ => default⟩ : (Sl Gate)))
    ((E.c223 (a0, (w64 ((w64 (a0.Plane.First + (w64 ((w64 ((w64 (a1.Channel + a1.Many)) - 1)) * a0.Plane.Pitch)))) - a0.Plane.Spill)), (w64 ((w64 (a0.Plane.First + (w64 ((w64 (a1.Channel + 1)) * a0.Plane.Pitch)))) + a0.Plane.Spill)))).T fun r1 =>
      k (⟨1, (fun _ => r1)⟩ : (Sl Gate))))
  ((E.c224 (a0, a1.Drift)).T fun r2 =>
    (E.c223 (a0, (w64 ((w64 (a0.Plane.First + (w64 (a1.Channel * a0.Plane.Pitch)))) - r2.2)), (w64 ((w64 (a0.Plane.First + (w64 (a1.Channel * a0.Plane.Pitch)))) - r2.1)))).T fun r3 =>
    (E.c223 (a0, (w64 ((w64 (a0.Plane.First + (w64 (a1.Channel * a0.Plane.Pitch)))) + r2.1)), (w64 ((w64 (a0.Plane.First + (w64 (a1.Channel * a0.Plane.Pitch)))) + r2.2)))).T fun r4 =>
    cond (decide (r3.High ≥ r4.Low))
    (k (⟨1, (fun _ => (⟨a0.Plane.Z, r3.Low, r4.High⟩ : Gate))⟩ : (Sl Gate)))
    (k (⟨2, (lsG [r3, r4])⟩ : (Sl Gate)))) := ty_T.trans (by kernel_rfl)
end
theorem o189 (E : E189) (h223 : Ok Tryz.prog 223 (Cps.un E.c223)) (h224 : Ok Tryz.prog 224 (Cps.un E.c224)) : Ok Tryz.prog 189 (Cps.un (F189 E)) := un_ok (aF_all ((TabsOk.nil.addF h223).addF h224) (callB_ok (by kernel_rfl)))
structure E223 where
  N : Nat
noncomputable abbrev G223 (E : E223) : Ctrs := csm Tabs.nil []
noncomputable def A223 : Ann := annOf Tryz.prog 223 [] {}
noncomputable def F223 (E : E223) : placed × Int × Int → Cps (Gate) := Cps.ty (aF Tryz.prog E.N (G223 E) A223 223)
section
variable (E : E223) {A : Type} (k : Gate → Option A)
theorem e223 (a0 : placed) (a1 : Int) (a2 : Int) : (F223 E (a0, a1, a2)).T k =
  k (⟨a0.Plane.Z, (w64 (a1 + a0.Plane.Offset.Low)), (w64 (a2 + a0.Plane.Offset.High))⟩ : Gate) := ty_T.trans (by kernel_rfl)
end
theorem o223 (E : E223) : Ok Tryz.prog 223 (Cps.un (F223 E)) := un_ok (aF_all TabsOk.nil (callB_ok (by kernel_rfl)))
structure E224 where
  N : Nat
  i251 : (Pt (Sl Drift)) → Cps (List (Int × Drift))
noncomputable abbrev G224 (E : E224) : Ctrs := csm ((Tabs.nil.addF 246 (aF Tryz.prog E.N (csm Tabs.nil []) (annOf Tryz.prog 246 [] {}) 246)).addI 251 (Cps.unI E.i251)) []
noncomputable def A224 : Ann := annOf Tryz.prog 224 [] {}
noncomputable def F224 (E : E224) : placed × Int → Cps (Int × Int) := Cps.ty (aF Tryz.prog E.N (G224 E) A224 224)
section
variable (E : E224) {A : Type} (k : (Int × Int) → Option A)
noncomputable def L224_1 (E : E224) (n : Nat) (a0 : placed) (a1 : Int) (v6 : Int) (v20 : Int) (x7_0 : Int) {A : Type} (k : (Int × Int) → Option A) : Option A :=
  ptT Tryz.prog (G224 E) E.N A224 224 [1, 1, 0, 1, 0] [.n n] (tyK k)
    ⟨[(2, .cl (.ptr 2 0)), (3, .cl (.ptr 3 0)), (6, .int v6), (7, .cl (.ptr 7 0)), (18, eP a0.Plane.Drift), (19, .int (a0.Plane.Drift.len : Int)), (20, .int v20)], [(2, eB 185 a0), (3, eB 3 a1), (7, eB 3 x7_0)], []⟩
noncomputable def L224_2 (E : E224) (l : List (Int × Drift)) (a0 : placed) (a1 : Int) (v6 : Int) (x7_0 : Int) {A : Type} (k : (Int × Int) → Option A) : Option A :=
  ptT Tryz.prog (G224 E) E.N A224 224 [1, 1, 1, 0, 1, 0] [.y (l.map LsC.enc)] (tyK k)
    ⟨[(2, .cl (.ptr 2 0)), (3, .cl (.ptr 3 0)), (6, .int v6), (7, .cl (.ptr 7 0)), (39, .p (.fn 251 [] [.fp [.sl a0.Plane.Drift.len 3 (fun i => FdC.enc (a0.Plane.Drift.get i))] 0]))], [(2, eB 185 a0), (3, eB 3 a1), (7, eB 3 x7_0)], []⟩
theorem e224 (a0 : placed) (a1 : Int) : (F224 E (a0, a1)).T k =
  L224_1 E E.N a0 a1 0 0 (w64 (a0.Plane.Pitch.tdiv 2)) k := ty_T.trans (by kernel_rfl)
theorem e224_1 (n0 : Nat) (a0 : placed) (a1 : Int) (v6 : Int) (v20 : Int) (x7_0 : Int) : L224_1 E (n0 + 1) a0 a1 v6 v20 x7_0 k =
  cond (decide (v20 < (a0.Plane.Drift.len : Int)))
  (chkT (decide (0 ≤ v20 ∧ v20 < (a0.Plane.Drift.len : Int))) (cond (decide ((a0.Plane.Drift.get v20.toNat).Time ≤ (w64 (a1 - a0.Plane.Jitter))))
    (L224_1 E n0 a0 a1 (a0.Plane.Drift.get v20.toNat).Radius.Low (w64 (v20 + 1)) x7_0 k)
    (L224_1 E n0 a0 a1 v6 (w64 (v20 + 1)) x7_0 k)))
  ((E.i251 (⟨a0.Plane.Drift⟩ : (Pt (Sl Drift)))).T fun r1 =>
    L224_2 E r1 a0 a1 v6 x7_0 k) := by kernel_rfl
theorem e224_2n (a0 : placed) (a1 : Int) (v6 : Int) (x7_0 : Int) : L224_2 E [] a0 a1 v6 x7_0 k =
  k (v6, x7_0) := by kernel_rfl
theorem e224_2 (y : Int × Drift) (l0 : List (Int × Drift)) (a0 : placed) (a1 : Int) (v6 : Int) (x7_0 : Int) : L224_2 E (y :: l0) a0 a1 v6 x7_0 k =
  cond (decide (y.2.Time ≥ (w64 (a1 + a0.Plane.Jitter))))
  (L224_2 E l0 a0 a1 v6 y.2.Radius.High k)
  (L224_2 E l0 a0 a1 v6 x7_0 k) := by kernel_rfl
end
theorem o224 (E : E224) (j251 : ItOk Tryz.prog 251 (Cps.unI E.i251)) : Ok Tryz.prog 224 (Cps.un (F224 E)) := un_ok (aF_all ((TabsOk.nil.addF (aF_all TabsOk.nil (callB_ok (by kernel_rfl)))).addI j251) (callB_ok (by kernel_rfl)))
structure E251 where
  N : Nat
noncomputable abbrev G251 (E : E251) : Ctrs := csm Tabs.nil []
noncomputable def A251 : Ann := annOf Tryz.prog 251 [0] { yl := [3] }
noncomputable def R251 (E : E251) (c : List PA) : YO := aI Tryz.prog (G251 E) E.N A251 251 c
noncomputable def I251 (E : E251) : (Pt (Sl Drift)) → Cps (List (Int × Drift)) := Cps.tyI fun c => .opt (R251 E c)
section
variable (E : E251)
noncomputable def L251_1 (E : E251) (n : Nat) (a1 : (Pt (Sl Drift))) (v3 : Int) : YO :=
  ptY Tryz.prog (G251 E) E.N A251 251 [1, 0] [n]
    ⟨[(0, .cl (.vec 4095)), (1, eP a1), (3, .int v3)], [(4095, .gone)], []⟩
theorem e251 (a1 : (Pt (Sl Drift))) : R251 E (LsC.enc ((a1) : (Pt (Sl Drift)))) =
  L251_1 E E.N a1 (w64 ((a1.v.len : Int) - 1)) := by kernel_rfl
theorem e251_1 (n0 : Nat) (a1 : (Pt (Sl Drift))) (v3 : Int) : L251_1 E (n0 + 1) a1 v3 =
  cond (decide (v3 ≥ 0))
  (chkT (decide (0 ≤ v3 ∧ v3 < (a1.v.len : Int))) (yT (LsC.enc ((v3, (a1.v.get v3.toNat)) : Int × Drift)) (some [])
    (L251_1 E n0 a1 (w64 (v3 - 1)))))
  (some []) := by kernel_rfl
end
theorem o251 (E : E251) : ItOk Tryz.prog 251 (Cps.unI (I251 E)) := unI_ok (aI_all TabsOk.nil (callB_ok (by kernel_rfl)))
theorem w64_id {x : Int} (h1 : -9223372036854775808 ≤ x) (h2 : x ≤ 9223372036854775807) : w64 x = x := by
  have hb : IntKind.i64.bits = 64 := rfl
  have hs : IntKind.i64.signed = true := rfl
  unfold w64 IntKind.wrap
  rw [hb, hs]
  simp only [Bool.true_and, decide_eq_true_eq]
  split <;> omega
theorem w64_up {i : Nat} (h : i < 4611686018427387904) : w64 ((i : Int) + 1) = ((i + 1 : Nat) : Int) := by rw [w64_id (by omega) (by omega)]; omega
theorem w64_dn {i : Nat} (h : i < 4611686018427387904) : w64 ((i : Int) - 1) = (i : Int) - 1 := w64_id (by omega) (by omega)
section
variable {A ρ : Type}
theorem okT {r : ρ} {k : ρ → Option A} : (Cps.ok r).T k = k r := rfl
theorem chk1 {p : Prop} [Decidable p] {x : Option A} (h : p) : chkT (decide p) x = x := by rw [decide_eq_true h]; rfl
theorem condT {p : Prop} [Decidable p] {x y : Option A} (h : p) : cond (decide p) x y = x := by rw [decide_eq_true h]; rfl
theorem condF {p : Prop} [Decidable p] {x y : Option A} (h : ¬ p) : cond (decide p) x y = y := by rw [decide_eq_false h]; rfl
theorem kc {τ : Type} (f : τ → Option A) (b : Bool) (x y : τ) : cond b (f x) (f y) = f (cond b x y) := by cases b <;> rfl
theorem two (Y s : Option A) : ∃ f : Bool → Option A, f true = Y ∧ f false = s := ⟨fun b => cond b Y s, rfl, rfl⟩
theorem andk (k : Bool → Option A) (a b : Bool) : cond a (k b) (k false) = k (a && b) := by cases a <;> rfl
end
theorem allN_iff {p : Nat → Bool} {n : Nat} : allN p n = true ↔ ∀ i, i < n → p i = true := by
  refine ⟨fun h i hi => allN_lt h i hi, fun h => ?_⟩
  induction n with
  | zero => rfl
  | succ n ih => simp only [allN, ih fun i hi => h i (by omega), h n (by omega), Bool.and_self]
section
variable {A : Type}
theorem loopB {L : Nat → Int → Option A} {p : Nat → Bool} {m : Nat} {fin stop : Option A} (hm : m < 4611686018427387904)
    (hL : ∀ n i, i < m → (∀ j, j < i → p j = true) → L (n + 1) (i : Int) = cond (p i) (L n (w64 ((i : Int) + 1))) stop) (hE : ∀ n, (∀ j, j < m → p j = true) → L (n + 1) (m : Int) = fin) :
    ∀ n, m < n → L n 0 = cond (allN p m) fin stop := by
  have key : ∀ (d i n : Nat), i + d = m → d < n → (∀ j, j < i → p j = true) → L n (i : Int) = cond (allN p m) fin stop := by
    intro d
    induction d with
    | zero =>
      intro i n hi hn hp
      obtain ⟨n, rfl⟩ : ∃ n', n = n' + 1 := ⟨n - 1, by omega⟩
      have e : i = m := by omega
      subst e
      rw [hE n hp, allN_iff.2 hp]; rfl
    | succ d ih =>
      intro i n hi hn hp
      obtain ⟨n, rfl⟩ : ∃ n', n = n' + 1 := ⟨n - 1, by omega⟩
      rw [hL n i (by omega) hp]
      cases hi' : p i with
      | true =>
        rw [cond_true, w64_up (by omega)]
        exact ih (i + 1) n (by omega) (by omega) fun j hj => by
          by_cases e : j = i
          · rw [e]; exact hi'
          · exact hp j (by omega)
      | false =>
        have : allN p m = false := by
          cases e : allN p m with
          | false => rfl
          | true => rw [allN_iff.1 e i (by omega)] at hi'; cases hi'
        rw [this]; rfl
  intro n hn
  exact key m 0 n (by omega) hn fun j hj => absurd hj (by omega)
theorem loopA {L : Nat → Int → Option A} {p : Nat → Bool} {m : Nat} {fin stop : Option A} (hm : m < 4611686018427387904)
    (hL : ∀ n i, i < m → L (n + 1) (i : Int) = cond (p i) (L n (w64 ((i : Int) + 1))) stop) (hE : ∀ n, L (n + 1) (m : Int) = fin) :
    ∀ n, m < n → L n 0 = cond (allN p m) fin stop := loopB hm (fun n i hi _ => hL n i hi) fun n _ => hE n
end
theorem allN_congr {p q : Nat → Bool} {n : Nat} (h : ∀ i, i < n → p i = q i) : allN p n = allN q n := by
  rw [Bool.eq_iff_iff, allN_iff, allN_iff]
  exact ⟨fun g i hi => by rw [← h i hi]; exact g i hi, fun g i hi => by rw [h i hi]; exact g i hi⟩
def inB (x a b : Int) : Bool := decide (a ≤ x ∧ x ≤ b)
abbrev QIn (C : Int × Int × Int → Cps Bool) : Prop := ∀ x a b, C (x, a, b) = .ok (inB x a b)
theorem s73 {E : E73} : QIn (F73 E) := fun x a b => Cps.ext fun k => by rw [e73, kc k, okT]; congr 1; simp only [inB]; grind
theorem s86 {E : E86} : QIn (F86 E) := fun x a b => Cps.ext fun k => by rw [e86, kc k, okT]; congr 1; simp only [inB]; grind
theorem s123 {E : E123} : QIn (F123 E) := fun x a b => Cps.ext fun k => by rw [e123, kc k, okT]; congr 1; simp only [inB]; grind
theorem s161 {E : E161} : QIn (F161 E) := fun x a b => Cps.ext fun k => by rw [e161, kc k, okT]; congr 1; simp only [inB]; grind
abbrev Q174 (C : Int → Cps Bool) : Prop := ∀ x, C x = .ok (inB x (-1000000) 1000000)
theorem s174 {E : E174} (h73 : QIn E.c73) : Q174 (F174 E) := fun x => Cps.ext fun k => by rw [e174]; simp only [h73, okT]
abbrev Big (N : Nat) : Prop := 100000 < N
def stB (l : Sl Drift) (pitch : Int) (i : Nat) : Bool :=
  inB (l.get i).Time 0 1000000 && inB (l.get i).Radius.Low 0 (l.get i).Radius.High && decide ((l.get i).Radius.High ≤ w64 (pitch.tdiv 2)) &&
    (decide (i = 0) || decide ((l.get (i - 1)).Time < (l.get i).Time) && decide ((l.get (i - 1)).Radius.Low ≤ (l.get i).Radius.Low) && decide ((l.get (i - 1)).Radius.High ≤ (l.get i).Radius.High))
def stepsB (l : Sl Drift) (pitch : Int) : Bool := allN (stB l pitch) l.len && inB l.len 1 50
theorem pre1 {i n : Nat} (h : i < n) (hn : n < 4611686018427387904) (h0 : (i : Int) > 0) : (0 ≤ w64 ((i : Int) - 1) ∧ w64 ((i : Int) - 1) < (n : Int)) ∧ (w64 ((i : Int) - 1)).toNat = i - 1 := by
  rw [w64_dn (by omega)]; omega
abbrev Q175 (C : Sl Drift × Int → Cps Bool) : Prop := ∀ l p, l.len ≤ 60 → C (l, p) = .ok (stepsB l p)
theorem s175 {E : E175} (N : Big E.N) (h73 : QIn E.c73) : Q175 (F175 E) := fun l p h => Cps.ext fun k => by
  rw [e175]
  refine (loopA (L := fun n v => L175_1 E n l p v k) (p := stB l p) (m := l.len) (fin := k (inB l.len 1 50)) (stop := k false) (by omega) (fun n i hi => ?_) (fun n => ?_) _ (by omega)).trans ?_
  · obtain ⟨f, h1, h2⟩ := two (L175_1 E n l p (w64 ((i : Int) + 1)) k) (k false)
    rw [e175_1, chk1 (by omega), ← h1, ← h2]
    simp only [h73, okT, Int.toNat_natCast]
    by_cases h0 : (i : Int) > 0
    · obtain ⟨p1, p2⟩ := pre1 hi (by omega) h0
      simp only [chk1 p1, p2, kc f]
      congr 1; simp only [stB, inB]; grind
    · simp only [decide_eq_false h0, cond_false, kc f]
      congr 1; simp only [stB, inB]; grind
  · rw [e175_1]; simp only [h73, okT, Int.lt_irrefl, decide_false, cond_false]
  · exact andk k _ _
def lfP (p : Plane) : Int := w64 (w64 (w64 (p.First - p.Pitch) - p.Spill) + p.Offset.Low)
def rtP (p : Plane) : Int := w64 (w64 (w64 (p.First + w64 (w64 (p.Strips + 1) * p.Pitch)) + p.Spill) + p.Offset.High)
def PlN (p : Plane) : Prop := (1 ≤ p.Kind ∧ p.Kind ≤ 3) ∧ (1 ≤ p.View ∧ p.View ≤ 2) ∧ (0 ≤ p.Z ∧ p.Z ≤ 100000) ∧ (-1000000 ≤ p.First ∧ p.First ≤ 1000000) ∧ (2 ≤ p.Pitch ∧ p.Pitch ≤ 100000) ∧ (1 ≤ p.Strips ∧ p.Strips ≤ 2000) ∧ (0 ≤ p.Spill ∧ p.Spill ≤ 100000) ∧
  (-1000000 ≤ p.Offset.Low ∧ p.Offset.Low ≤ p.Offset.High ∧ p.Offset.High ≤ 1000000) ∧ (-1000000000 ≤ p.Clock.Low ∧ p.Clock.Low ≤ p.Clock.High ∧ p.Clock.High ≤ 1000000000) ∧ (0 ≤ p.Jitter ∧ p.Jitter ≤ 1000000) ∧ (0 ≤ p.Least ∧ p.Least ≤ 1000000) ∧ -1000000 ≤ lfP p ∧ rtP p ≤ 1000000
instance (p : Plane) : Decidable (PlN p) := by unfold PlN; infer_instance
theorem prod_in {a b : Int} (ha : 0 ≤ a ∧ a ≤ 10000) (hb : 0 ≤ b ∧ b ≤ 100000) : 0 ≤ a * b ∧ a * b ≤ 1000000000 :=
  ⟨Int.mul_nonneg ha.1 hb.1, by have := Int.mul_le_mul ha.2 hb.2 hb.1 (by omega); omega⟩
theorem lr_P {p : Plane} (h1 : -1000000 ≤ p.First ∧ p.First ≤ 1000000) (h2 : 2 ≤ p.Pitch ∧ p.Pitch ≤ 100000) (h3 : 1 ≤ p.Strips ∧ p.Strips ≤ 2000) (h4 : 0 ≤ p.Spill ∧ p.Spill ≤ 100000)
    (h5 : -1000000 ≤ p.Offset.Low ∧ p.Offset.Low ≤ p.Offset.High ∧ p.Offset.High ≤ 1000000) :
    lfP p = p.First - p.Pitch - p.Spill + p.Offset.Low ∧ rtP p = p.First + (p.Strips + 1) * p.Pitch + p.Spill + p.Offset.High ∧ lfP p < rtP p := by
  obtain ⟨q1, q2⟩ := prod_in (a := p.Strips + 1) (b := p.Pitch) (by omega) (by omega)
  have e1 : lfP p = p.First - p.Pitch - p.Spill + p.Offset.Low := by
    unfold lfP
    rw [w64_id (x := p.First - p.Pitch) (by omega) (by omega), w64_id (x := p.First - p.Pitch - p.Spill) (by omega) (by omega), w64_id (by omega) (by omega)]
  have e2 : rtP p = p.First + (p.Strips + 1) * p.Pitch + p.Spill + p.Offset.High := by
    unfold rtP
    rw [w64_id (x := p.Strips + 1) (by omega) (by omega), w64_id (x := (p.Strips + 1) * p.Pitch) (by omega) (by omega), w64_id (x := p.First + (p.Strips + 1) * p.Pitch) (by omega) (by omega), w64_id (x := p.First + (p.Strips + 1) * p.Pitch + p.Spill) (by omega) (by omega), w64_id (by omega) (by omega)]
  exact ⟨e1, e2, by omega⟩
def dB (p : Plane) (i : Nat) : Bool := inB (p.Dead.get i) 0 (w64 (p.Strips - 1)) && (decide (i = 0) || decide (p.Dead.get (i - 1) < p.Dead.get i))
def plB (p : Plane) : Bool := decide (PlN p) && cond (p.Kind == 2) (stepsB p.Drift p.Pitch) (decide (p.Drift.len = 0)) && decide (p.Dead.len ≤ 100) && allN (dB p) p.Dead.len
def Few (p : Plane) : Prop := p.Drift.len ≤ 60 ∧ p.Dead.len ≤ 110
abbrev Q124 (C : Plane → Cps Bool) : Prop := ∀ p, Few p → C p = .ok (plB p)
theorem s124 {E : E124} (N : Big E.N) (h73 : QIn E.c73) (h174 : Q174 E.c174) (h175 : Q175 E.c175) : Q124 (F124 E) := fun p h => Cps.ext fun k => by
  have hl := h.1
  have hd := h.2
  have lp : L124_4 E E.N p 0 k = k (allN (dB p) p.Dead.len) := by
    refine (loopA (L := fun n v => L124_4 E n p v k) (p := dB p) (m := p.Dead.len) (fin := k true) (stop := k false) (by omega) (fun n i hi => ?_) (fun n => ?_) _ (by omega)).trans ?_
    · obtain ⟨f, h1, h2⟩ := two (L124_4 E n p (w64 ((i : Int) + 1)) k) (k false)
      rw [e124_4, chk1 (by omega), ← h1, ← h2]
      simp only [h73, okT, Int.toNat_natCast]
      by_cases h0 : (i : Int) > 0
      · obtain ⟨p1, p2⟩ := pre1 hi (by omega) h0
        simp only [chk1 p1, chk1 (show 0 ≤ (i : Int) ∧ (i : Int) < (p.Dead.len : Int) by omega), p2, kc f]
        congr 1; simp only [dB]; grind
      · simp only [decide_eq_false h0, cond_false, kc f]
        congr 1; simp only [dB]; grind
    · rw [e124_4]; simp only [Int.lt_irrefl, decide_false, cond_false]
    · rw [kc k]; congr 1; cases allN (dB p) p.Dead.len <;> rfl
  rw [e124]
  simp only [e124_1, e124_2, e124_3, h73, h174, h175 _ _ hl, okT, lp, kc k]
  congr 1
  have lr := @lr_P p
  have e1 : w64 (w64 (w64 (p.First - p.Pitch) - p.Spill) + p.Offset.Low) = lfP p := rfl
  have e2 : w64 (w64 (w64 (p.First + w64 (w64 (p.Strips + 1) * p.Pitch)) + p.Spill) + p.Offset.High) = rtP p := rfl
  simp only [e1, e2, plB, PlN, inB]
  generalize stepsB p.Drift p.Pitch = A
  generalize allN (dB p) p.Dead.len = B
  grind (splits := 60)
def Shrt (s : Setup) : Prop := s.Planes.len ≤ 20 ∧ ∀ i, i < s.Planes.len → Few (s.Planes.get i)
def seB (s : Setup) (i : Nat) : Bool := plB (s.Planes.get i) && (decide (i = 0) || decide ((s.Planes.get (i - 1)).Z < (s.Planes.get i).Z))
def setupB (s : Setup) : Bool := inB s.Planes.len 1 16 && allN (seB s) s.Planes.len
abbrev QSe (C : Setup → Cps Bool) : Prop := ∀ s, Shrt s → C s = .ok (setupB s)
theorem s61 {E : E61} (N : Big E.N) (h73 : QIn E.c73) (h124 : Q124 E.c124) : QSe (F61 E) := fun s h => Cps.ext fun k => by
  have hl := h.1
  rw [e61]
  have lp : L61_1 E E.N s 0 k = k (allN (seB s) s.Planes.len) := by
    refine (loopA (L := fun n v => L61_1 E n s v k) (p := seB s) (m := s.Planes.len) (fin := k true) (stop := k false) (by omega) (fun n i hi => ?_) (fun n => ?_) _ (by omega)).trans ?_
    · obtain ⟨f, h1, h2⟩ := two (L61_1 E n s (w64 ((i : Int) + 1)) k) (k false)
      rw [e61_1, chk1 (by omega), ← h1, ← h2]
      simp only [Int.toNat_natCast, h124 _ (h.2 i hi), okT]
      by_cases h0 : (i : Int) > 0
      · obtain ⟨p1, p2⟩ := pre1 hi (by omega) h0
        simp only [chk1 p1, chk1 (show 0 ≤ (i : Int) ∧ (i : Int) < (s.Planes.len : Int) by omega), p2, kc f]
        congr 1; simp only [seB]; grind
      · simp only [decide_eq_false h0, cond_false, kc f]
        congr 1; simp only [seB]; grind
    · rw [e61_1]; simp only [Int.lt_irrefl, decide_false, cond_false]
    · rw [kc k]; congr 1; cases allN (seB s) s.Planes.len <;> rfl
  simp only [h73, okT, lp, kc k]
  congr 1; simp only [setupB]; cases inB s.Planes.len 1 16 <;> rfl
end Go.Proofs
