/- The W-layer, part 4: a call without objects may be shown with none, and holds beside all. -/
import Derived.Test.YtgnjidopnplbbaaGreatDoorW3
set_option linter.unusedSimpArgs false
set_option linter.unusedVariables false
namespace Go.V
open Go.RowKit

/-- A value that speaks of no object. -/
def NoId (v : AV) : Prop := ∀ (g g' : Ghost) u, (∀ b o x, g.F b o = some x → g'.F b o = some x) → RV g v u → RV g' v u

theorem NoId.undef : NoId .undef := fun g g' u hF h => .undef u
theorem NoId.bool (b : Bool) : NoId (.bool b) := fun g g' u hF h => by cases h; exact .bool b
theorem NoId.int (k : IntKind) (n : Int) : NoId (.int k n) := fun g g' u hF h => by cases h; exact .int k n
theorem NoId.str (s : ByteArray) : NoId (.str s) := fun g g' u hF h => by cases h; exact .str s
theorem NoId.nilptr : NoId .nilptr := fun g g' u hF h => by cases h; exact .nilptr
theorem NoId.nilslice : NoId .nilslice := fun g g' u hF h => by cases h; exact .nilslice
theorem NoId.nilmap : NoId .nilmap := fun g g' u hF h => by cases h; exact .nilmap
theorem NoId.nilfunc : NoId .nilfunc := fun g g' u hF h => by cases h; exact .nilfunc
theorem NoId.niliface : NoId .niliface := fun g g' u hF h => by cases h; exact .niliface
theorem NoId.agg {cs : List AV} (hc : ∀ x ∈ cs, NoId x) : NoId (.agg cs) := fun g g' u hF h => by
  cases h with
  | agg _ vs hl hr => exact .agg cs vs hl fun i h1 h2 => hc _ (List.getElem_mem h1) g g' _ hF (hr i h1 h2)
theorem NoId.tuple {cs : List AV} (hc : ∀ x ∈ cs, NoId x) : NoId (.tuple cs) := fun g g' u hF h => by
  cases h with
  | tuple _ vs hl hr => exact .tuple cs vs hl fun i h1 h2 => hc _ (List.getElem_mem h1) g g' _ hF (hr i h1 h2)
theorem NoId.vptr {cs : List AV} (hc : ∀ x ∈ cs, NoId x) : NoId (.vptr cs) := fun g g' u hF h => by
  cases h with
  | vptr _ b o vs hl hf hr => exact .vptr cs b o vs hl (fun i hi => hF _ _ _ (hf i hi)) fun i h1 h2 => hc _ (List.getElem_mem h1) g g' _ hF (hr i h1 h2)
theorem NoId.iface {t : Nat} {v : AV} (hv : NoId v) : NoId (.iface t v) := fun g g' u hF h => by
  cases h with
  | iface _ _ u hr => exact .iface t v u (hv g g' u hF hr)
theorem NoId.func {fn : Fn} {fs cs : List AV} (hf : ∀ x ∈ fs, NoId x) (hc : ∀ x ∈ cs, NoId x) : NoId (.func fn fs cs) := fun g g' u hF h => by
  cases h with
  | func _ _ _ us vs hfl hcl h1 h2 => exact .func fn fs cs us vs hfl hcl (fun i a b => hf _ (List.getElem_mem a) g g' _ hF (h1 i a b)) (fun i a b => hc _ (List.getElem_mem a) g g' _ hF (h2 i a b))
theorem NoId.slice {sz : Nat} {xs : List AV} {m : Cap} (hm : ∀ id, m ≠ .tok id) (hx : ∀ x ∈ flat xs, NoId x) : NoId (.slice sz xs m) := fun g g' u hF h => by
  cases h with
  | slice _ _ _ a cap vs hsz hl hsp hf h1 hr hcap hc =>
    refine .slice sz xs m a cap vs hsz hl hsp (fun i hi => hF _ _ _ (hf i hi)) h1 (fun i a b => hx _ (List.getElem_mem a) g g' _ hF (hr i a b)) hcap ?_
    cases m with
    | any => trivial
    | nn => trivial
    | full => exact hc
    | tok id => exact absurd rfl (hm id)
  | nilany => exact .nilany sz

mutual
def noIdB : AV → Bool
  | .undef | .bool _ | .int _ _ | .str _ | .nilptr | .nilslice | .nilmap | .nilfunc | .niliface => true
  | .vptr cs => noIdL cs
  | .slice _ xs m => (match m with | .tok _ => false | _ => true) && noIdL xs
  | .func _ fs cs => noIdL fs && noIdL cs
  | .iface _ v => noIdB v
  | .agg cs => noIdL cs
  | .tuple cs => noIdL cs
  | _ => false
def noIdL : List AV → Bool
  | [] => true
  | x :: xs => noIdB x && noIdL xs
end

theorem NoId.cells {v : AV} (h : NoId v) (hc : ∀ cs, v = .agg cs → ∀ x ∈ cs, NoId x) : ∀ x ∈ v.cells, NoId x := by
  intro x hx
  cases v <;> first | (simp [AV.cells] at hx; subst hx; exact h) | exact hc _ rfl x hx

mutual
theorem noIdB_ok : ∀ v, noIdB v = true → NoId v ∧ ∀ x ∈ v.cells, NoId x
  | .undef, _ => ⟨.undef, fun x hx => by simp [AV.cells] at hx; subst hx; exact .undef⟩
  | .bool b, _ => ⟨.bool b, fun x hx => by simp [AV.cells] at hx; subst hx; exact .bool b⟩
  | .int k n, _ => ⟨.int k n, fun x hx => by simp [AV.cells] at hx; subst hx; exact .int k n⟩
  | .str s, _ => ⟨.str s, fun x hx => by simp [AV.cells] at hx; subst hx; exact .str s⟩
  | .nilptr, _ => ⟨.nilptr, fun x hx => by simp [AV.cells] at hx; subst hx; exact .nilptr⟩
  | .nilslice, _ => ⟨.nilslice, fun x hx => by simp [AV.cells] at hx; subst hx; exact .nilslice⟩
  | .nilmap, _ => ⟨.nilmap, fun x hx => by simp [AV.cells] at hx; subst hx; exact .nilmap⟩
  | .nilfunc, _ => ⟨.nilfunc, fun x hx => by simp [AV.cells] at hx; subst hx; exact .nilfunc⟩
  | .niliface, _ => ⟨.niliface, fun x hx => by simp [AV.cells] at hx; subst hx; exact .niliface⟩
  | .vptr cs, h => have k := NoId.vptr (noIdL_ok cs (by simpa [noIdB] using h)).1; ⟨k, fun x hx => by simp [AV.cells] at hx; subst hx; exact k⟩
  | .slice sz xs m, h => by
    simp only [noIdB, Bool.and_eq_true] at h
    have k : NoId (.slice sz xs m) := .slice (fun id e => by subst e; simp at h) (noIdL_ok xs h.2).2
    exact ⟨k, fun x hx => by simp [AV.cells] at hx; subst hx; exact k⟩
  | .func fn fs cs, h => by
    simp only [noIdB, Bool.and_eq_true] at h
    have k : NoId (.func fn fs cs) := .func (noIdL_ok fs h.1).1 (noIdL_ok cs h.2).1
    exact ⟨k, fun x hx => by simp [AV.cells] at hx; subst hx; exact k⟩
  | .iface t v, h => have k := NoId.iface (t := t) (noIdB_ok v (by simpa [noIdB] using h)).1; ⟨k, fun x hx => by simp [AV.cells] at hx; subst hx; exact k⟩
  | .agg cs, h => have k := (noIdL_ok cs (by simpa [noIdB] using h)).1; ⟨.agg k, k⟩
  | .tuple cs, h => have k := NoId.tuple (noIdL_ok cs (by simpa [noIdB] using h)).1; ⟨k, fun x hx => by simp [AV.cells] at hx; subst hx; exact k⟩
  | .ptr _ _, h => by simp [noIdB] at h
  | .rslice _ _ _, h => by simp [noIdB] at h
  | .view _ _ _, h => by simp [noIdB] at h
  | .map _, h => by simp [noIdB] at h
  | .yield _, h => by simp [noIdB] at h
theorem noIdL_ok : ∀ xs, noIdL xs = true → (∀ x ∈ xs, NoId x) ∧ ∀ x ∈ flat xs, NoId x
  | [], _ => ⟨by simp, by simp [flat]⟩
  | x :: xs, h => by
    simp only [noIdL, Bool.and_eq_true] at h
    have h1 := noIdB_ok x h.1
    have h2 := noIdL_ok xs h.2
    refine ⟨fun y hy => ?_, fun y hy => ?_⟩
    · rcases List.mem_cons.1 hy with rfl | hy
      · exact h1.1
      · exact h2.1 y hy
    · rw [flat_cons] at hy
      rcases List.mem_append.1 hy with hy | hy
      · exact h1.2 y hy
      · exact h2.2 y hy
end

/-- Rights to grow are lost. -/
def State.untok (σ : State) : State := { σ with objs := fun id => match σ.objs id with | .tok _ _ _ => .dead | o => o }
theorem State.untok_le (σ : State) : σ.untok.Le σ := ⟨rfl, fun id => by
  unfold State.untok
  dsimp only
  split
  · exact .inr rfl
  · exact .inl rfl⟩

def isTok : AObj → Bool
  | .tok _ _ _ => true
  | _ => false

def noObj : State := ⟨fun _ => .dead, 0⟩

section
variable {B : Nat} {w0 : World} {g : Ghost} {σ : State} {w : World}

/-- An object that is no right to grow has a block without frozen cells. -/
theorem ObjOk.noF {id : Nat} {o : AObj} (hS : Sim B w0 g σ w) (h : ObjOk B g w id o) (hd : o ≠ .dead) (ht : isTok o = false) : ∃ i x, g.info id = some i ∧ B ≤ i.blk ∧ w.heap[i.blk]? = some x ∧ ∀ p, g.F i.blk p = none := by
  have key : ∀ {b : Nat} {x : Obj}, w.heap[b]? = some x → (∀ c e s, x ≠ .cells c e s) → ∀ p, g.F b p = none := by
    intro b x hx hne p
    cases hv : g.F b p with
    | none => rfl
    | some v =>
      have := hS.froz b p v hv
      simp only [World.cell?, hx] at this
      cases x <;> first | (exact absurd rfl (hne _ _ _)) | (simp at this)
  cases o with
  | dead => exact absurd rfl hd
  | cells cs e sz grow => obtain ⟨i, c, h1, _, h2, h3, _, _, _, _, _, _, h10⟩ := h; exact ⟨i, _, h1, h2, h3, h10⟩
  | tok n e sz => simp [isTok] at ht
  | map es => obtain ⟨i, ms, cl, h1, h2, h3, _⟩ := h; exact ⟨i, _, h1, h2, h3, key h3 (by simp)⟩
  | siter s pos => obtain ⟨i, h1, h2, h3⟩ := h; exact ⟨i, _, h1, h2, h3, key h3 (by simp)⟩
  | loop l => obtain ⟨i, r, h1, h2, h3, _⟩ := h; exact ⟨i, _, h1, h2, h3, key h3 (by simp)⟩
  | cmap es => obtain ⟨i, ms, cl, es', h1, h2, h3, _⟩ := h; exact ⟨i, _, h1, h2, h3, key h3 (by simp)⟩

def heldBlk (g : Ghost) (σ : State) (b : Nat) : Prop := ∃ id i, σ.objs id ≠ .dead ∧ isTok (σ.objs id) = false ∧ g.info id = some i ∧ i.blk = b

open Classical in
noncomputable def bareG (g : Ghost) (σ : State) (w : World) : Ghost := ⟨g.F, fun _ => none, fun b => if heldBlk g σ b then w.heap[b]? else g.R b⟩

open Classical in
theorem Sim.bare (hS : Sim B w0 g σ w) : Sim B w0 (bareG g σ w) noObj w where
  below := hS.below
  size := hS.size
  froz := hS.froz
  objs id := trivial
  inj i j pi pj h1 := by cases h1
  next id _ := ⟨rfl, rfl⟩
  res b x hb := by
    change (if heldBlk g σ b then w.heap[b]? else g.R b) = some x at hb
    split at hb
    · exact hb
    · exact hS.res b x hb
  resF b o x hb := by
    change (if heldBlk g σ b then w.heap[b]? else g.R b) = some x at hb
    split at hb
    · rename_i hh
      obtain ⟨id, i, h1, h2, h3, rfl⟩ := hh
      obtain ⟨i', _, h4, _, _, h5⟩ := (hS.objs id).noF hS h1 h2
      rw [h3] at h4; cases h4
      exact h5 o
    · exact hS.resF b o x hb
  resO id i h1 := absurd rfl h1

open Classical in
theorem Sim.unbare {g' : Ghost} {σ' : State} {w' : World} (hS : Sim B w0 g σ w) (hS' : Sim B w0 g' σ' w') (hle : (bareG g σ w).Le g') :
    Sim B w0 ⟨g'.F, g.info, g.R⟩ σ.untok w' ∧ g.Le ⟨g'.F, g.info, g.R⟩ := by
  have hle2 : g.Le ⟨g'.F, g.info, g.R⟩ := ⟨fun b o v h => hle.F b o v h, fun _ _ h => h, rfl⟩
  have hR : ∀ b, g'.R b = if heldBlk g σ b then w.heap[b]? else g.R b := fun b => by rw [hle.R]; rfl
  have held : ∀ id i, σ.objs id ≠ .dead → isTok (σ.objs id) = false → g.info id = some i → w'.heap[i.blk]? = w.heap[i.blk]? ∧ ∀ p, g'.F i.blk p = none := by
    intro id i h1 h2 h3
    obtain ⟨i', x, h4, _, h5, h6⟩ := (hS.objs id).noF hS h1 h2
    rw [h3] at h4; cases h4
    have hh : heldBlk g σ i.blk := ⟨id, i, h1, h2, h3, rfl⟩
    have hx : g'.R i.blk = some x := by rw [hR, if_pos hh, h5]
    exact ⟨by rw [hS'.res _ _ hx, h5], fun p => hS'.resF _ p _ hx⟩
  have hun : ∀ id, σ.untok.objs id ≠ .dead → σ.objs id ≠ .dead ∧ isTok (σ.objs id) = false ∧ σ.untok.objs id = σ.objs id := by
    intro id hid
    unfold State.untok at hid ⊢
    dsimp only at hid ⊢
    cases ho : σ.objs id <;> rw [ho] at hid <;> simp_all [isTok]
  refine ⟨⟨hS'.below, hS'.size, hS'.froz, fun id => ?_, fun i j pi pj h1 h2 h3 h4 h5 => hS.inj i j pi pj h1 h2 (hun i h3).1 (hun j h4).1 h5, fun id hid => ?_, fun b x hb => ?_, fun b o x hb => ?_, fun id i h1 h2 => hS.resO id i (hun id h1).1 h2⟩, hle2⟩
  · by_cases hd : σ.untok.objs id = .dead
    · rw [hd]; trivial
    · obtain ⟨h1, h2, h3⟩ := hun id hd
      rw [h3]
      refine (hS.objs id).keep hle2 (fun i hi => (held id i h1 h2 hi).1) (fun i b hi _ => ?_)
      have hk := (held id i h1 h2 hi).2 b
      show g'.F i.blk b = g.F i.blk b
      rw [hk]
      cases hv : g.F i.blk b with
      | none => rfl
      | some v => have := hle.F _ _ v hv; rw [hk] at this; cases this
  · refine ⟨(hS.next id hid).1, ?_⟩
    rcases σ.untok_le.objs id with e | e
    · rw [e]; exact (hS.next id hid).2
    · exact e
  · have hb' : g.R b = some x := hb
    have : ¬ heldBlk g σ b := by
      rintro ⟨id, i, h1, h2, h3, rfl⟩
      rw [hS.resO id i h1 h3] at hb'; cases hb'
    exact hS'.res b x (by rw [hR, if_neg this]; exact hb')
  · have hb' : g.R b = some x := hb
    have : ¬ heldBlk g σ b := by
      rintro ⟨id, i, h1, h2, h3, rfl⟩
      rw [hS.resO id i h1 h3] at hb'; cases hb'
    exact hS'.resF b o x (by rw [hR, if_neg this]; exact hb')
end

/-- A call without objects. -/
theorem ACalls.pure {E : Env} {f : Nat} {args : List AV} {Q0 Q : AV → State → Prop} {σ : State} (hG : ∀ i, NoId (E.G i)) (ha : ∀ x ∈ args, NoId x) (h : ACalls E f args noObj Q0)
    (hQ : ∀ v σ', Q0 v σ' → ∃ v', Wk v v' ∧ NoId v' ∧ Q v' σ.untok) : ACalls E f args σ Q := by
  refine ⟨fun g w vs hRG hS hv => ?_⟩
  refine (h.run (bareG g σ w) w vs (fun i => hG i g _ _ (fun _ _ _ h => h) (hRG i)) hS.bare ⟨hv.1, fun i h1 h2 => ha _ (List.getElem_mem h1) g _ _ (fun _ _ _ h => h) (hv.2 i h1 h2)⟩).mono fun e w' k => ?_
  cases e with
  | returned u =>
    obtain ⟨g', σ', a, h1, h2, h3, h4⟩ := k
    obtain ⟨v', h5, h6, h7⟩ := hQ _ _ h4
    obtain ⟨h8, h9⟩ := hS.unbare h2 h1
    exact ⟨_, _, v', h9, h8, h6 g' _ u (fun _ _ _ h => h) (h5 _ _ h3), h7⟩
  | outgrown => exact k
  | panicked c => exact k
end Go.V
