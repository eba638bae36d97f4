/- The W-layer, part 3: frames of which less is told; loops with invariants over told frames. -/
import Derived.Test.YtgnjidopnplbbaaGreatDoorW2
set_option linter.unusedSimpArgs false
set_option linter.unusedVariables false
namespace Go.V
open Go.RowKit

/-- Of a' less is known than of a. -/
structure AAct.Wk (a' a : AAct) : Prop where
  t : ∀ t, a'.t t = .v .undef ∨ (a'.t t = a.t t ∧ ∀ k off, a.t t = .l k off → a'.l k = a.l k) ∨ (∃ x x', a.t t = .v x ∧ a'.t t = .v x' ∧ Go.V.Wk x x')

theorem AAct.Wk.refl (a : AAct) : a.Wk a := ⟨fun t => .inr (.inl ⟨rfl, fun _ _ _ => rfl⟩)⟩

section
variable {E : Env} {H : Hand} {rd : Option Nat} {n : Nat} {R0 : Nat → Option Obj} {loc : Nat → Option Nat} {g : Ghost} {σ : State} {w : World} {a a' : AAct} {act : Act} {an : FnAnn}

theorem Fr.wk (h : Fr n R0 E.B g loc a act) (hw : a'.Wk a) : ∃ loc', Fr n R0 E.B g loc' a' act := by
  classical
  refine ⟨fun k => if a'.l k = a.l k then loc k else none, h.size, h.marks, fun t => ?_, fun k b hk => ?_, fun k j b hk hj => ?_, h.sub⟩
  · rcases hw.t t with e | ⟨e, hl⟩ | ⟨x, x', e1, e2, hx⟩
    · rw [e]; exact RV.undef _
    · have ht := h.tmp t
      rw [e]
      cases hx : a.t t with
      | v x => rw [hx] at ht; exact ht
      | l k off =>
        rw [hx] at ht
        obtain ⟨b, hb, hu⟩ := ht
        exact ⟨b, by dsimp only; rw [if_pos (hl k off hx)]; exact hb, hu⟩
    · have ht := h.tmp t
      rw [e1] at ht
      rw [e2]
      exact hx _ _ ht
  · split at hk
    · rename_i e
      rw [e]; exact h.cell k b hk
    · cases hk
  · split at hk
    · split at hj
      · exact h.inj k j b hk hj
      · cases hj
    · cases hk

theorem AWp.pre_wk {c : Code} {Q : Post} {σ' : State} (hw : a'.Wk a) (hl : σ'.Le σ) (h : AWp E rd n c Q a' σ') : AWp E rd n c Q a σ :=
  ⟨fun g w act loc R0 F hF hG hS hT => by
    obtain ⟨loc', hT'⟩ := hT.wk hw
    exact h.run g w act loc' R0 F hF hG (hS.forget hl) hT'⟩

theorem AWp.post_wk {c : Code} {Q : Post} (h : AWp E rd n c (fun e a σ => ∃ a' σ', a'.Wk a ∧ σ'.Le σ ∧ Q e a' σ') a σ) : AWp E rd n c Q a σ :=
  ⟨fun g w act loc R0 F hF hG hS hT => wpIn_mono (h.run g w act loc R0 F hF hG hS hT) fun e act' w' k => by
    cases e <;> first | exact k | (
      obtain ⟨g', a1, σ1, loc1, h1, h2, h3, a2, σ2, h4, h5, h6⟩ := k
      obtain ⟨loc', h7⟩ := h3.wk h4
      exact ⟨g', a2, σ2, loc', h1, h2.forget h5, h7, h6⟩)⟩
end

def lukT : List (Nat × TV) → Nat → TV
  | [], _ => .v .undef
  | (i, v) :: r, j => match Nat.beq i j with
    | true => v
    | false => lukT r j
def lukL : List (Nat × List AV) → Nat → List AV
  | [], _ => []
  | (i, v) :: r, j => match Nat.beq i j with
    | true => v
    | false => lukL r j

/-- A frame of which only what is listed is known. -/
def frm (F : List (Nat × TV)) (FL : List (Nat × List AV)) : AAct := ⟨lukT F, lukL FL⟩

def hasT (a : AAct) : List (Nat × TV) → Prop → Prop
  | [], R => R
  | (i, v) :: r, R => a.t i = v ∧ hasT a r R
def hasL (a : AAct) : List (Nat × List AV) → Prop → Prop
  | [], R => R
  | (i, v) :: r, R => a.l i = v ∧ hasL a r R
def okF (FL : List (Nat × List AV)) : List (Nat × TV) → Bool
  | [] => true
  | (_, .v _) :: r => okF FL r
  | (_, .l k _) :: r => FL.any (fun x => Nat.beq x.1 k) && okF FL r

/-- A frame is as listed. -/
def atF (a : AAct) (F : List (Nat × TV)) (FL : List (Nat × List AV)) (R : Prop) : Prop :=
  match okF FL F with
  | true => hasT a F (hasL a FL R)
  | false => False

theorem hasL_ok {a : AAct} {R : Prop} : ∀ {FL : List (Nat × List AV)}, hasL a FL R → R ∧ ∀ k, FL.any (fun x => Nat.beq x.1 k) = true → lukL FL k = a.l k
  | [], h => ⟨h, fun k hk => by simp at hk⟩
  | (i, v) :: r, h => by
    obtain ⟨h1, h2⟩ := hasL_ok h.2
    refine ⟨h1, fun k hk => ?_⟩
    unfold lukL
    split
    · rename_i e
      have : i = k := Nat.eq_of_beq_eq_true e
      subst this; exact h.1.symm
    · rename_i e
      refine h2 k ?_
      simp only [List.any_cons, Bool.or_eq_true] at hk
      rcases hk with hk | hk
      · rw [e] at hk; cases hk
      · exact hk
theorem hasT_ok {a : AAct} {R : Prop} {FL : List (Nat × List AV)} : ∀ {F : List (Nat × TV)}, okF FL F = true → hasT a F R → R ∧ ∀ t, lukT F t = .v .undef ∨ (lukT F t = a.t t ∧ ∀ k off, a.t t = .l k off → FL.any (fun x => Nat.beq x.1 k) = true)
  | [], _, h => ⟨h, fun t => .inl rfl⟩
  | (i, v) :: r, ho, h => by
    have ho' : okF FL r = true := by
      cases v with
      | v x => exact ho
      | l k off => simp only [okF, Bool.and_eq_true] at ho; exact ho.2
    obtain ⟨h1, h2⟩ := hasT_ok ho' h.2
    refine ⟨h1, fun t => ?_⟩
    unfold lukT
    split
    · rename_i e
      have : i = t := Nat.eq_of_beq_eq_true e
      subst this
      refine .inr ⟨h.1.symm, fun k off hk => ?_⟩
      rw [h.1] at hk
      subst hk
      simp only [okF, Bool.and_eq_true] at ho
      exact ho.1
    · exact h2 t

theorem atF_ok {a : AAct} {F : List (Nat × TV)} {FL : List (Nat × List AV)} {R : Prop} (h : atF a F FL R) : (frm F FL).Wk a ∧ R := by
  unfold atF at h
  split at h
  · rename_i ho
    obtain ⟨h1, h2⟩ := hasT_ok ho h
    obtain ⟨h3, h4⟩ := hasL_ok h1
    refine ⟨⟨fun t => ?_⟩, h3⟩
    rcases h2 t with e | ⟨e, hk⟩
    · exact .inl e
    · exact .inr (.inl ⟨e, fun k off hko => h4 k (hk k off hko)⟩)
  · exact h.elim

/-- A state of which only the objects that are listed are known; how many numbers are given away. -/
def lst (L : List AObj) (n : Nat) : State := ⟨fun j => L.getD j .dead, n⟩

def isDead : AObj → Bool
  | .dead => true
  | _ => false
def atSGo (σ : State) : Nat → List AObj → Prop → Prop
  | _, [], R => R
  | i, o :: L, R => match isDead o with
    | true => atSGo σ (i + 1) L R
    | false => σ.objs i = o ∧ atSGo σ (i + 1) L R
/-- A state is as listed. -/
def atS (σ : State) (L : List AObj) (n : Nat) (R : Prop) : Prop := σ.next = n ∧ atSGo σ 0 L R

theorem isDead_ok {o : AObj} (h : isDead o = true) : o = .dead := by cases o <;> first | rfl | cases h
theorem atSGo_ok {σ : State} {R : Prop} : ∀ {L : List AObj} {i : Nat}, atSGo σ i L R → R ∧ ∀ j, L.getD j .dead = σ.objs (i + j) ∨ L.getD j .dead = .dead
  | [], i, h => ⟨h, fun j => .inr (by simp)⟩
  | o :: L, i, h => by
    unfold atSGo at h
    split at h
    · rename_i hd
      obtain ⟨h1, h2⟩ := atSGo_ok h
      refine ⟨h1, fun j => ?_⟩
      cases j with
      | zero => exact .inr (isDead_ok hd)
      | succ j => have := h2 j; rw [show i + (j + 1) = i + 1 + j by omega]; simpa using this
    · obtain ⟨h1, h2⟩ := atSGo_ok h.2
      refine ⟨h1, fun j => ?_⟩
      cases j with
      | zero => exact .inl h.1.symm
      | succ j => have := h2 j; rw [show i + (j + 1) = i + 1 + j by omega]; simpa using this
theorem atS_ok {σ : State} {L : List AObj} {n : Nat} {R : Prop} (h : atS σ L n R) : (lst L n).Le σ ∧ R := by
  obtain ⟨h1, h2⟩ := h
  obtain ⟨h3, h4⟩ := atSGo_ok h2
  exact ⟨⟨h1.symm, fun id => by have := h4 id; rw [Nat.zero_add] at this; exact this⟩, h3⟩

section
variable {E : Env} {rd : Option Nat} {n : Nat} {σ : State} {a : AAct}

/-- Frame and state are as listed. -/
def atFS (a : AAct) (σ : State) (F : List (Nat × TV)) (FL : List (Nat × List AV)) (L : List AObj) (n : Nat) : Prop := atF a F FL (atS σ L n True)
theorem atFS_ok {F : List (Nat × TV)} {FL : List (Nat × List AV)} {L : List AObj} {m : Nat} (h : atFS a σ F FL L m) : (frm F FL).Wk a ∧ (lst L m).Le σ :=
  ⟨(atF_ok h).1, (atS_ok (atF_ok h).2).1⟩

/-- What is told of a loop: frames, variables and objects of a round's beginning, by what changes from round to round; what holds, what gets less, how the loop is left. -/
structure LI (X : Type) where
  F : X → List (Nat × TV)
  FL : X → List (Nat × List AV)
  L : X → List AObj
  m : X → Nat
  I : X → Prop
  μ : X → Nat
  Ex : X → Exit → AAct → State → Prop

def LI.post {X : Type} (l : LI X) (x : X) : Post := fun e a σ => match e with
  | .normal => ∃ x', (l.I x' ∧ l.μ x' < l.μ x) ∧ atFS a σ (l.F x') (l.FL x') (l.L x') (l.m x')
  | e => l.Ex x e a σ

/-- A loop, by an invariant over told frames; its exits as they are told. -/
theorem awp_loopE {X : Type} (l : LI X) {c : Code} {Q : Post} (hb : ∀ x, l.I x → AWp E rd n c (l.post x) (frm (l.F x) (l.FL x)) (lst (l.L x) (l.m x)))
    (hx : ∀ x, l.I x → ∀ e a σ, e ≠ .normal → l.Ex x e a σ → ∃ a' σ', a'.Wk a ∧ σ'.Le σ ∧ Q e a' σ')
    {x0 : X} (h0 : l.I x0) (ha : atFS a σ (l.F x0) (l.FL x0) (l.L x0) (l.m x0)) : AWp E rd n (.loop c) Q a σ := by
  refine .post_wk (awp_loop (fun k a σ => ∃ x, l.I x ∧ l.μ x = k ∧ (frm (l.F x) (l.FL x)).Wk a ∧ (lst (l.L x) (l.m x)).Le σ) (m := l.μ x0) ⟨x0, h0, rfl, atFS_ok ha⟩ ?_)
  rintro k a σ ⟨x, hI, rfl, h1, h2⟩
  refine .pre_wk h1 h2 ((hb x hI).mono fun e a σ k => ?_)
  cases e with
  | normal =>
    obtain ⟨x', ⟨h3, h4⟩, h5⟩ := k
    exact ⟨l.μ x', h4, x', h3, rfl, atFS_ok h5⟩
  | _ => exact hx x hI _ _ _ (by simp) k

theorem exit_at {e : Exit} {F : List (Nat × TV)} {FL : List (Nat × List AV)} {L : List AObj} {m : Nat} {Q : Post} (ha : atFS a σ F FL L m) (hq : Q e (frm F FL) (lst L m)) : ∃ a' σ', a'.Wk a ∧ σ'.Le σ ∧ Q e a' σ' :=
  ⟨_, _, (atFS_ok ha).1, (atFS_ok ha).2, hq⟩

/-- The body of a function's loop. -/
def lbody (P : Program) (f i : Nat) : Code :=
  match (fnLoops P f)[i]? with
  | some (.loop c) => c
  | _ => .skip
end
end Go.V
