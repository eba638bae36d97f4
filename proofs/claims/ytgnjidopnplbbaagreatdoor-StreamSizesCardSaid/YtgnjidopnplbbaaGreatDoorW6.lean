/- The W-layer, part 6: a call may be shown on the few objects that it reaches, under numbers of their own, and holds beside all others. -/
import Derived.Test.YtgnjidopnplbbaaGreatDoorW5
set_option linter.unusedSimpArgs false
set_option linter.unusedVariables false
namespace Go.V
open Go.RowKit

/-- v under some numbers is v' under others. -/
def RenP (R : Nat → Nat → Prop) (v v' : AV) : Prop := ∀ (g g' : Ghost) u, (∀ b o x, g.F b o = some x → g'.F b o = some x) → (∀ i j x, R i j → g.info i = some x → g'.info j = some x) → RV g v u → RV g' v' u
inductive RenL (R : Nat → Nat → Prop) : List AV → List AV → Prop where
  | nil : RenL R [] []
  | cons {v v' : AV} {vs vs' : List AV} (h : RenP R v v') (hs : RenL R vs vs') : RenL R (v :: vs) (v' :: vs')

variable {R : Nat → Nat → Prop}
theorem RenP.noId {v : AV} (h : NoId v) : RenP R v v := fun g g' u hF _ k => h g g' u hF k
theorem RenP.undef (v : AV) : RenP R v .undef := fun g g' u _ _ k => .undef u
theorem RenL.noId : ∀ {vs : List AV}, (∀ v ∈ vs, NoId v) → RenL R vs vs
  | [], _ => .nil
  | v :: vs, h => .cons (.noId (h v (by simp))) (RenL.noId fun x hx => h x (by simp [hx]))
theorem RenL.append {as as' bs bs' : List AV} (h : RenL R as as') (k : RenL R bs bs') : RenL R (as ++ bs) (as' ++ bs') := by
  induction h with
  | nil => exact k
  | cons h hs ih => exact .cons h ih
theorem RenL.rv {vs vs' : List AV} (h : RenL R vs vs') {g g' : Ghost} {us : List Value} (hF : ∀ b o x, g.F b o = some x → g'.F b o = some x) (hi : ∀ i j x, R i j → g.info i = some x → g'.info j = some x) (k : RVL g vs us) : RVL g' vs' us := by
  induction h generalizing us with
  | nil => have := k.nil_inv; subst this; exact .nil g'
  | cons h hs ih => obtain ⟨u, us', rfl, h1, h2⟩ := k.cons_inv; exact .cons (h g g' u hF hi h1) (ih h2)
theorem RenL.length {vs vs' : List AV} (h : RenL R vs vs') : vs'.length = vs.length := by
  induction h with
  | nil => rfl
  | cons h hs ih => simp [ih]
theorem RenP.ptr {i j : Nat} (h : R i j) (off : Nat) : RenP R (.ptr i off) (.ptr j off) := fun g g' u hF hi k => by
  cases k with
  | ptr _ _ x hx => exact .ptr j off x (hi i j x h hx)
theorem RenP.rslice {i j : Nat} (h : R i j) (off len : Nat) : RenP R (.rslice i off len) (.rslice j off len) := fun g g' u hF hi k => by
  cases k with
  | rslice _ _ _ x a cap hx ha hc hl => exact .rslice j off len x a cap (hi i j x h hx) ha hc hl
theorem RenP.map {i j : Nat} (h : R i j) : RenP R (.map i) (.map j) := fun g g' u hF hi k => by
  cases k with
  | map _ x hx => exact .map j x (hi i j x h hx)
theorem RenP.agg {cs cs' : List AV} (h : RenL R cs cs') : RenP R (.agg cs) (.agg cs') := fun g g' u hF hi k => by
  obtain ⟨vs, rfl, k1⟩ := k.agg_inv; exact .agg' (h.rv hF hi k1)
theorem RenP.tuple {cs cs' : List AV} (h : RenL R cs cs') : RenP R (.tuple cs) (.tuple cs') := fun g g' u hF hi k => by
  obtain ⟨vs, rfl, k1⟩ := k.tuple_inv; exact .tuple' (h.rv hF hi k1)

/-- An object under one number is one under another. -/
def RenO (R : Nat → Nat → Prop) (o o' : AObj) : Prop := ∀ B (g g' : Ghost) w i j, g'.F = g.F → (∀ i j x, R i j → g.info i = some x → g'.info j = some x) → R i j → ObjOk B g w i o → ObjOk B g' w j o'

theorem RenO.dead (o : AObj) : RenO R o .dead := fun _ _ _ _ _ _ _ _ _ _ => trivial
theorem RenO.cells {cs cs' : List AV} {e sz : Nat} {gr : Bool} (h : RenL R cs cs') (h1 : cs'.all AV.one = true) : RenO R (.cells cs e sz gr) (.cells cs' e sz gr) := fun B g g' w i j hF hi hij k => by
  obtain ⟨x, c, k1, k2, k3, k4, k5, k6, k7, k8, k9, k10, k11⟩ := k
  have hl := h.length
  exact ⟨x, c, hi i j x hij k1, k2, k3, k4, by rw [hl]; exact k5, fun e => by rw [hl]; exact k6 e, k7, k8, by rw [hl]; exact h.rv (fun b o x hx => by rw [hF]; exact hx) hi k9, h1, fun o => by rw [hF]; exact k11 o⟩

def outNo (k : Nat) (ρ : Nat → Nat) (n : Nat) (i : Nat) : Nat := if i < k then ρ i else n + (i - k)

/-- What a call has left on few objects, beside all others. -/
structure Beside (k : Nat) (ρ : Nat → Nat) (σ σs' σ' : State) : Prop where
  next : σ'.next = σ.next + (σs'.next - k)
  objs : ∀ i, i < σs'.next → σ'.objs (outNo k ρ σ.next i) = .dead ∨ (σs'.objs i ≠ .dead ∧ RenO (fun i j => j = outNo k ρ σ.next i) (σs'.objs i) (σ'.objs (outNo k ρ σ.next i)))
  rest : ∀ j, j < σ.next → (∀ i, i < k → j ≠ ρ i) → σ'.objs j = σ.untok.objs j ∨ σ'.objs j = .dead
  dead : ∀ j, σ'.next ≤ j → σ'.objs j = .dead

section
variable {B : Nat} {w0 : World} {g : Ghost} {σ σs : State} {w : World} {k : Nat} {ρ : Nat → Nat}

def heldX (g : Ghost) (σ : State) (k : Nat) (ρ : Nat → Nat) (b : Nat) : Prop := ∃ id i, σ.objs id ≠ .dead ∧ isTok (σ.objs id) = false ∧ (∀ j, j < k → id ≠ ρ j) ∧ g.info id = some i ∧ i.blk = b

open Classical in
noncomputable def fewG (g : Ghost) (σ : State) (w : World) (k : Nat) (ρ : Nat → Nat) : Ghost := ⟨g.F, fun i => if i < k then g.info (ρ i) else none, fun b => if heldX g σ k ρ b then w.heap[b]? else g.R b⟩

/-- The few objects, as they stand among all. -/
structure Few (k : Nat) (ρ : Nat → Nat) (σ σs : State) : Prop where
  next : σs.next = k
  inj : ∀ i j, i < k → j < k → ρ i = ρ j → i = j
  live : ∀ i, i < k → σs.objs i ≠ .dead ∧ σ.objs (ρ i) ≠ .dead
  dead : ∀ i, k ≤ i → σs.objs i = .dead
  objs : ∀ i, i < k → RenO (fun j i => i < k ∧ j = ρ i) (σ.objs (ρ i)) (σs.objs i)

open Classical in
theorem Sim.few (hS : Sim B w0 g σ w) (hf : Few k ρ σ σs) : Sim B w0 (fewG g σ w k ρ) σs w := by
  have hR : ∀ b, (fewG g σ w k ρ).R b = if heldX g σ k ρ b then w.heap[b]? else g.R b := fun _ => rfl
  have hI : ∀ i, (fewG g σ w k ρ).info i = if i < k then g.info (ρ i) else none := fun _ => rfl
  have hno : ∀ id i, σ.objs id ≠ .dead → isTok (σ.objs id) = false → g.info id = some i → ∀ p, g.F i.blk p = none := by
    intro id i h1 h2 h3 p
    obtain ⟨i', _, h4, _, _, h5⟩ := (hS.objs id).noF hS h1 h2
    rw [h3] at h4; cases h4
    exact h5 p
  refine ⟨hS.below, hS.size, hS.froz, fun i => ?_, fun i j pi pj h1 h2 h3 h4 h5 => ?_, fun i hi => ?_, fun b x hb => ?_, fun b o x hb => ?_, fun i x h1 h2 => ?_⟩
  · rcases Nat.lt_or_ge i k with hi | hi
    · refine hf.objs i hi B g _ w (ρ i) i rfl (fun j i x hij hx => ?_) ⟨hi, rfl⟩ (hS.objs (ρ i))
      rw [hI, if_pos hij.1, ← hij.2]; exact hx
    · rw [hf.dead i hi]; trivial
  · have hi : i < k := by
      apply Classical.byContradiction; intro hn; exact h3 (hf.dead i (by omega))
    have hj : j < k := by
      apply Classical.byContradiction; intro hn; exact h4 (hf.dead j (by omega))
    rw [hI, if_pos hi] at h1
    rw [hI, if_pos hj] at h2
    exact hS.inj _ _ _ _ h1 h2 (hf.live i hi).2 (hf.live j hj).2 (fun e => h5 (hf.inj i j hi hj e))
  · rw [hf.next] at hi
    exact ⟨by rw [hI, if_neg (by omega)], hf.dead i hi⟩
  · rw [hR] at hb
    split at hb
    · exact hb
    · exact hS.res b x hb
  · rw [hR] at hb
    split at hb
    · rename_i hh
      obtain ⟨id, i, h1, h2, _, h3, rfl⟩ := hh
      exact hno id i h1 h2 h3 o
    · exact hS.resF b o x hb
  · have hi : i < k := by
      apply Classical.byContradiction; intro hn; exact h1 (hf.dead i (by omega))
    rw [hI, if_pos hi] at h2
    rw [hR, if_neg]
    · exact hS.resO _ _ (hf.live i hi).2 h2
    · rintro ⟨id, y, h3, h4, h5, h6, h7⟩
      exact hS.inj id (ρ i) y x h6 h2 h3 (hf.live i hi).2 (h5 i hi) h7

open Classical in
theorem Sim.all {g' : Ghost} {σs' σ' : State} {w' : World} (hS : Sim B w0 g σ w) (hf : Few k ρ σ σs) (hS' : Sim B w0 g' σs' w') (hle : (fewG g σ w k ρ).Le g') (hb : Beside k ρ σ σs' σ') :
    let G : Ghost := ⟨g'.F, fun j => if j < σ.next then g.info j else g'.info (k + (j - σ.next)), g.R⟩
    Sim B w0 G σ' w' ∧ g.Le G ∧ ∀ i j x, j = outNo k ρ σ.next i → g'.info i = some x → G.info j = some x := by
  intro G
  have hGI : ∀ j, G.info j = if j < σ.next then g.info j else g'.info (k + (j - σ.next)) := fun _ => rfl
  have hFI : ∀ i, (fewG g σ w k ρ).info i = if i < k then g.info (ρ i) else none := fun _ => rfl
  have hlt : ∀ j x, g.info j = some x → j < σ.next := fun j x hx => by
    apply Classical.byContradiction; intro hn
    rw [(hS.next j (by omega)).1] at hx; cases hx
  have hR : ∀ b, g'.R b = if heldX g σ k ρ b then w.heap[b]? else g.R b := fun b => by rw [hle.R]; rfl
  have hle2 : g.Le G := ⟨fun b o v h => hle.F b o v h, fun id i h => by rw [hGI, if_pos (hlt _ _ h)]; exact h, rfl⟩
  have blkS : ∀ i, i < k → ∃ x, g.info (ρ i) = some x ∧ g'.info i = some x := fun i hi => by
    obtain ⟨x, h1, _⟩ := (hS.objs (ρ i)).blk (hf.live i hi).2
    exact ⟨x, h1, hle.info i x (by rw [hFI, if_pos hi]; exact h1)⟩
  have hk : k ≤ σs'.next := by
    apply Classical.byContradiction; intro hn
    obtain ⟨x, _, h2⟩ := blkS (k - 1) (by omega)
    rw [(hS'.next (k - 1) (by omega)).1] at h2; cases h2
  have hout : ∀ i j x, j = outNo k ρ σ.next i → g'.info i = some x → G.info j = some x := by
    rintro i j x rfl hx
    unfold outNo
    split
    · rename_i hi
      obtain ⟨y, h1, h2⟩ := blkS i hi
      rw [hx] at h2; cases h2
      rw [hGI, if_pos (hlt _ _ h1)]; exact h1
    · rename_i hi
      rw [hGI, if_neg (by omega)]
      have : k + (σ.next + (i - k) - σ.next) = i := by omega
      rw [this]; exact hx
  have held : ∀ id i, σ.objs id ≠ .dead → isTok (σ.objs id) = false → (∀ j, j < k → id ≠ ρ j) → g.info id = some i → w'.heap[i.blk]? = w.heap[i.blk]? ∧ (∀ p, g'.F i.blk p = none) ∧ ∃ x, g'.R i.blk = some x := by
    intro id i h1 h2 hni h3
    obtain ⟨i', x, h4, _, h5, h6⟩ := (hS.objs id).noF hS h1 h2
    rw [h3] at h4; cases h4
    have hh : heldX g σ k ρ i.blk := ⟨id, i, h1, h2, hni, h3, rfl⟩
    have hx : g'.R i.blk = some x := by rw [hR, if_pos hh, h5]
    exact ⟨by rw [hS'.res _ _ hx, h5], fun p => hS'.resF _ p _ hx, x, hx⟩
  have hun : ∀ id, σ.untok.objs id ≠ .dead → σ.objs id ≠ .dead ∧ isTok (σ.objs id) = false ∧ σ.untok.objs id = σ.objs id := by
    intro id hid
    unfold State.untok at hid ⊢
    dsimp only at hid ⊢
    cases ho : σ.objs id <;> rw [ho] at hid <;> simp_all [isTok]
  have hρ : ∀ i, i < k → ρ i < σ.next := fun i hi => hS.live (hf.live i hi).2
  -- each live object is one of the few, or stands beside them
  have cases' : ∀ j, σ'.objs j ≠ .dead → (∃ i, i < σs'.next ∧ j = outNo k ρ σ.next i ∧ σs'.objs i ≠ .dead ∧ RenO (fun i j => j = outNo k ρ σ.next i) (σs'.objs i) (σ'.objs j)) ∨
      (j < σ.next ∧ (∀ i, i < k → j ≠ ρ i) ∧ σ.objs j ≠ .dead ∧ isTok (σ.objs j) = false ∧ σ'.objs j = σ.objs j) := by
    intro j hj
    have hjn : j < σ'.next := by
      apply Classical.byContradiction; intro hn; exact hj (hb.dead j (by omega))
    rcases Nat.lt_or_ge j σ.next with h1 | h1
    · by_cases hi : ∃ i, i < k ∧ j = ρ i
      · obtain ⟨i, hik, rfl⟩ := hi
        have e : outNo k ρ σ.next i = ρ i := by unfold outNo; rw [if_pos hik]
        rcases hb.objs i (by omega) with h2 | ⟨h2, h3⟩
        · rw [e] at h2; exact absurd h2 hj
        · rw [e] at h3; exact .inl ⟨i, by omega, e.symm, h2, h3⟩
      · right
        have hni : ∀ i, i < k → j ≠ ρ i := fun i hik e => hi ⟨i, hik, e⟩
        rcases hb.rest j h1 hni with h2 | h2
        · rw [h2] at hj
          obtain ⟨h3, h4, h5⟩ := hun j hj
          exact ⟨h1, hni, h3, h4, by rw [h2, h5]⟩
        · exact absurd h2 hj
    · left
      have hi : k + (j - σ.next) < σs'.next := by have := hb.next; omega
      have e : outNo k ρ σ.next (k + (j - σ.next)) = j := by unfold outNo; rw [if_neg (by omega)]; omega
      rcases hb.objs _ hi with h2 | ⟨h2, h3⟩
      · rw [e] at h2; exact absurd h2 hj
      · rw [e] at h3; exact ⟨_, hi, e.symm, h2, h3⟩
  have infoS : ∀ i j x, j = outNo k ρ σ.next i → σs'.objs i ≠ .dead → G.info j = some x → g'.info i = some x := by
    intro i j x hj hd hx
    obtain ⟨y, h1, _⟩ := (hS'.objs i).blk hd
    have := hout i j y hj h1
    rw [hx] at this; cases this; exact h1
  refine ⟨⟨hS'.below, hS'.size, hS'.froz, fun j => ?_, fun i j pi pj h1 h2 h3 h4 h5 => ?_, fun j hj => ?_, fun b x hbx => ?_, fun b o x hbx => ?_, fun j x h1 h2 => ?_⟩, hle2, hout⟩
  · by_cases hd : σ'.objs j = .dead
    · rw [hd]; trivial
    · rcases cases' j hd with ⟨i, hi, rfl, h1, h2⟩ | ⟨h1, h2, h3, h4, h5⟩
      · exact h2 B g' G w' i _ rfl (fun i j x e hx => hout i j x e hx) rfl (hS'.objs i)
      · rw [h5]
        refine (hS.objs j).keep hle2 (fun i hi => (held j i h3 h4 h2 hi).1) (fun i b hi _ => ?_)
        have hk2 := (held j i h3 h4 h2 hi).2.1 b
        show g'.F i.blk b = g.F i.blk b
        rw [hk2]
        cases hv : g.F i.blk b with
        | none => rfl
        | some v => have := hle.F _ _ v hv; rw [hk2] at this; cases this
  · rcases cases' i h3 with ⟨a, ha, e1, hd1, _⟩ | ⟨ha, hn1, hd1, ht1, _⟩
    · rcases cases' j h4 with ⟨c, hc, e2, hd2, _⟩ | ⟨hc, hn2, hd2, ht2, _⟩
      · exact hS'.inj a c pi pj (infoS a i pi e1 hd1 h1) (infoS c j pj e2 hd2 h2) hd1 hd2 (fun e => h5 (by rw [e1, e2, e]))
      · rw [hGI, if_pos hc] at h2
        obtain ⟨_, _, x, hx⟩ := held j pj hd2 ht2 hn2 h2
        intro e
        rw [← e, hS'.resO a pi hd1 (infoS a i pi e1 hd1 h1)] at hx; cases hx
    · rw [hGI, if_pos ha] at h1
      rcases cases' j h4 with ⟨c, hc, e2, hd2, _⟩ | ⟨hc, hn2, hd2, ht2, _⟩
      · obtain ⟨_, _, x, hx⟩ := held i pi hd1 ht1 hn1 h1
        intro e
        rw [e, hS'.resO c pj hd2 (infoS c j pj e2 hd2 h2)] at hx; cases hx
      · rw [hGI, if_pos hc] at h2
        exact hS.inj i j pi pj h1 h2 hd1 hd2 h5
  · refine ⟨?_, hb.dead j hj⟩
    have := hb.next
    rw [hGI, if_neg (by omega)]
    exact (hS'.next _ (by omega)).1
  · have hb' : g.R b = some x := hbx
    have : ¬ heldX g σ k ρ b := by
      rintro ⟨id, i, h1, h2, _, h3, rfl⟩
      rw [hS.resO id i h1 h3] at hb'; cases hb'
    exact hS'.res b x (by rw [hR, if_neg this]; exact hb')
  · have hb' : g.R b = some x := hbx
    have : ¬ heldX g σ k ρ b := by
      rintro ⟨id, i, h1, h2, _, h3, rfl⟩
      rw [hS.resO id i h1 h3] at hb'; cases hb'
    exact hS'.resF b o x (by rw [hR, if_neg this]; exact hb')
  · show g.R x.blk = none
    rcases cases' j h1 with ⟨a, ha, e1, hd1, _⟩ | ⟨ha, hn1, hd1, ht1, _⟩
    · have h3 := hS'.resO a x hd1 (infoS a j x e1 hd1 h2)
      rw [hR] at h3
      split at h3
      · rename_i hh
        obtain ⟨id, i, h4, h5, h6, h7, h8⟩ := hh
        obtain ⟨y, h9, _, h10⟩ := (hS.objs id).blk h4
        rw [h7] at h9; cases h9
        rw [← h8, Array.getElem?_eq_none_iff] at h3
        omega
      · exact h3
    · rw [hGI, if_pos ha] at h2
      exact hS.resO j x hd1 h2
end

/-- A call on few objects, beside all others. -/
theorem ACalls.frame {E : Env} {f : Nat} {args argss : List AV} {Qs Q : AV → State → Prop} {σ σs : State} {k : Nat} {ρ : Nat → Nat} (hG : ∀ i, NoId (E.G i)) (hf : Few k ρ σ σs)
    (ha : RenL (fun j i => i < k ∧ j = ρ i) args argss) (h : ACalls E f argss σs Qs)
    (hQ : ∀ v σs', Qs v σs' → ∃ v' σ', RenP (fun i j => j = outNo k ρ σ.next i) v v' ∧ Beside k ρ σ σs' σ' ∧ Q v' σ') : ACalls E f args σ Q := by
  classical
  refine ⟨fun g w vs hRG hS hv => ?_⟩
  refine (h.run (fewG g σ w k ρ) w vs (fun i => hG i g _ _ (fun _ _ _ h => h) (hRG i)) (hS.few hf) (ha.rv (g := g) (fun _ _ _ h => h) (fun j i x hij hx => ?_) hv)).mono fun e w' kk => ?_
  · show (if i < k then g.info (ρ i) else none) = some x
    rw [if_pos hij.1, ← hij.2]; exact hx
  · cases e with
    | returned u =>
      obtain ⟨g', σs', a, h1, h2, h3, h4⟩ := kk
      obtain ⟨v', σ', h5, h6, h7⟩ := hQ _ _ h4
      obtain ⟨h8, h9, h10⟩ := hS.all hf h2 h1 h6
      exact ⟨_, σ', v', h9, h8, h5 g' _ u (fun _ _ _ h => h) h10 h3, h7⟩
    | outgrown => exact kk
    | panicked c => exact kk
end Go.V
