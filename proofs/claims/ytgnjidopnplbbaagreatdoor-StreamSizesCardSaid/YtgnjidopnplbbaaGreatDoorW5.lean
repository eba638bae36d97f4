/- The W-layer, part 5: what a call returns becomes a value, whole. -/
import Derived.Test.YtgnjidopnplbbaaGreatDoorW4
set_option linter.unusedSimpArgs false
set_option linter.unusedVariables false
namespace Go.V
open Go.RowKit

def nnCap : Cap → Cap
  | .tok _ => .nn
  | m => m

/-- A value without objects, of what objects hold. -/
def deep (P : Program) (σ : State) : Nat → AV → Option AV
  | 0, _ => none
  | n + 1, v => match v with
    | .undef | .bool _ | .int _ _ | .str _ | .nilptr | .nilslice | .nilmap | .nilfunc | .niliface => some v
    | .slice sz xs m => (xs.mapM (deep P σ n)).map fun ys => .slice sz ys (nnCap m)
    | .rslice id off len => match σ.objs id with
      | .cells cs e sz _ => match kindT P e with
        | some k => match Nat.beq (k.getD 1) sz && (Nat.blt 0 sz && Nat.ble ((off + len) * sz) cs.length) with
          | true => ((chunk k ((cs.drop (off * sz)).take (len * sz)) len).mapM (deep P σ n)).map fun ys => .slice sz ys .nn
          | false => none
        | none => none
      | _ => none
    | .ptr id off => match σ.objs id with
      | .cells cs _ _ _ => match Nat.ble off cs.length with
        | true => ((cs.drop off).mapM (deep P σ n)).map .vptr
        | false => none
      | _ => none
    | .vptr cs => (cs.mapM (deep P σ n)).map .vptr
    | .agg cs => (cs.mapM (deep P σ n)).map .agg
    | .tuple cs => (cs.mapM (deep P σ n)).map .tuple
    | .iface t v => (deep P σ n v).map (.iface t)
    | .func fn fs cs => (fs.mapM (deep P σ n)).bind fun fs' => (cs.mapM (deep P σ n)).map fun cs' => .func fn fs' cs'
    | _ => none

theorem mapM_get {f : AV → Option AV} : ∀ {xs ys : List AV}, xs.mapM f = some ys → ys.length = xs.length ∧ ∀ i (h : i < xs.length) (h' : i < ys.length), f xs[i] = some ys[i]
  | [], ys, h => by simp at h; subst h; exact ⟨rfl, fun i h => by simp at h⟩
  | x :: xs, ys, h => by
    simp only [List.mapM_cons] at h
    cases hx : f x with
    | none => simp [hx] at h
    | some y =>
      cases hxs : xs.mapM f with
      | none => simp [hx, hxs] at h
      | some ys' =>
        simp [hx, hxs] at h
        subst h
        obtain ⟨h1, h2⟩ := mapM_get hxs
        refine ⟨by simp [h1], fun i a b => ?_⟩
        cases i with
        | zero => exact hx
        | succ i => exact h2 i (by simpa using a) (by simpa using b)

/-- The shape stays. -/
structure Alike (x y : AV) : Prop where
  len : y.cells.length = x.cells.length
  one : x.one = true → y.one = true
  cell : ∀ (R : AV → AV → Prop), (∀ cs ds, x = .agg cs → y = .agg ds → ∀ i (h : i < cs.length) (h' : i < ds.length), R cs[i] ds[i]) → ((∀ cs, x ≠ .agg cs) → R x y) → ∀ i (h : i < x.cells.length) (h' : i < y.cells.length), R x.cells[i] y.cells[i]

theorem deep_agg {P : Program} {σ : State} {n : Nat} {x y : AV} (h : deep P σ n x = some y) : (∃ cs ds m, n = m + 1 ∧ x = .agg cs ∧ y = .agg ds ∧ cs.mapM (deep P σ m) = some ds) ∨ ((∀ cs, x ≠ .agg cs) ∧ (∀ cs, y ≠ .agg cs) ∧ (x.one = true → y.one = true)) := by
  cases n with
  | zero => simp [deep] at h
  | succ n =>
    cases x with
    | agg cs =>
      simp only [deep, Option.map_eq_some_iff] at h
      obtain ⟨ds, h1, rfl⟩ := h
      exact .inl ⟨cs, ds, n, rfl, rfl, rfl, h1⟩
    | _ =>
      right
      refine ⟨by simp, ?_, ?_⟩ <;> (simp only [deep] at h; repeat' (first | (split at h) | (simp only [Option.bind_eq_some_iff, Option.map_eq_some_iff] at h; obtain ⟨_, _, _, _, rfl⟩ := h) | (simp only [Option.map_eq_some_iff] at h; obtain ⟨_, _, rfl⟩ := h) | (cases h)) ) <;> simp [AV.one]

/-- All objects' cells are frozen. -/
def heldC (g : Ghost) (σ : State) (b : Nat) : Prop := ∃ id i cs e sz gr, σ.objs id = .cells cs e sz gr ∧ g.info id = some i ∧ i.blk = b
open Classical in
noncomputable def frzAll (g : Ghost) (σ : State) (w : World) : Ghost := ⟨fun b o => if heldC g σ b then w.cell? ⟨b, o, none⟩ else g.F b o, g.info, g.R⟩

def State.none (σ : State) : State := ⟨fun _ => .dead, σ.next⟩

section
variable {P : Program} {B : Nat} {w0 : World} {g : Ghost} {σ : State} {w : World}

open Classical in
theorem Sim.frzAll (hS : Sim B w0 g σ w) : g.Le (frzAll g σ w) ∧ Sim B w0 (frzAll g σ w) σ.none w := by
  have hF : ∀ b o, (Go.V.frzAll g σ w).F b o = if heldC g σ b then w.cell? ⟨b, o, Option.none⟩ else g.F b o := fun _ _ => rfl
  have hno : ∀ b, heldC g σ b → g.R b = Option.none := by
    rintro b ⟨id, i, cs, e, sz, gr, h1, h2, rfl⟩
    exact hS.resO id i (by rw [h1]; simp) h2
  refine ⟨⟨fun b o v h => ?_, fun _ _ h => h, rfl⟩, hS.below, hS.size, fun b o v h => ?_, fun id => trivial, fun i j pi pj _ _ h => absurd rfl h, fun id hid => ⟨(hS.next id hid).1, rfl⟩, hS.res, fun b o x h => ?_, fun id i h => absurd rfl h⟩
  · rw [hF]
    split
    · exact hS.froz b o v h
    · exact h
  · rw [hF] at h
    split at h
    · exact h
    · exact hS.froz b o v h
  · rw [hF]
    split
    · rename_i hh
      have := hno b hh
      have h' : g.R b = some x := h
      rw [this] at h'; cases h'
    · exact hS.resF b o x h

open Classical in
theorem deep_ok (hS : Sim B w0 g σ w) : ∀ (n : Nat) (v v' : AV) (u : Value), RV g v u → deep P σ n v = some v' → RV (Go.V.frzAll g σ w) v' u := by
  have hle := hS.frzAll.1
  intro n
  induction n with
  | zero => intro v v' u _ h; simp [deep] at h
  | succ n ih =>
    -- element by element
    have ihL : ∀ {xs ys : List AV} {us : List Value}, RVL g xs us → xs.mapM (deep P σ n) = some ys → RVL (Go.V.frzAll g σ w) ys us := by
      intro xs ys us hr hm
      obtain ⟨h1, h2⟩ := mapM_get hm
      exact ⟨by rw [h1]; exact hr.1, fun i a b => ih _ _ _ (hr.2 i (by omega) b) (h2 i (by omega) a)⟩
    -- the cells of elements
    have ihF : ∀ {xs ys : List AV} {us : List Value} {sz : Nat}, (∀ x ∈ xs, x.cells.length = sz) → (flat xs).all AV.one = true → RVL g (flat xs) us → xs.mapM (deep P σ n) = some ys →
        RVL (Go.V.frzAll g σ w) (flat ys) us ∧ (∀ y ∈ ys, y.cells.length = sz) ∧ (flat ys).all AV.one = true := by
      intro xs
      induction xs with
      | nil =>
        intro ys us sz hsz h1 hr hm
        simp at hm; subst hm
        have : us = [] := by simpa [flat] using hr.nil_inv
        subst this
        exact ⟨RVL.nil _, by simp, by simp [flat]⟩
      | cons x xs ihx =>
        intro ys us sz hsz h1 hr hm
        simp only [List.mapM_cons] at hm
        cases hx : deep P σ n x with
        | none => simp [hx] at hm
        | some y =>
          cases hxs : xs.mapM (deep P σ n) with
          | none => simp [hx, hxs] at hm
          | some ys' =>
            simp [hx, hxs] at hm
            subst hm
            rw [flat_cons] at h1 hr
            rw [List.all_append, Bool.and_eq_true] at h1
            have hus : us = us.take x.cells.length ++ us.drop x.cells.length := (List.take_append_drop _ _).symm
            have hr1 : RVL g x.cells (us.take x.cells.length) := by
              have := hr.take x.cells.length
              simpa using this
            have hr2 : RVL g (flat xs) (us.drop x.cells.length) := by
              have := hr.drop x.cells.length
              simpa using this
            obtain ⟨k1, k2, k3⟩ := ihx (fun z hz => hsz z (by simp [hz])) h1.2 hr2 hxs
            have key : RVL (Go.V.frzAll g σ w) y.cells (us.take x.cells.length) ∧ y.cells.length = x.cells.length ∧ y.cells.all AV.one = true := by
              rcases deep_agg hx with ⟨cs, ds, m, rfl, rfl, rfl, hm⟩ | ⟨h3, h4, h5⟩
              · -- an aggregate: its cells come by the same steps
                obtain ⟨l1, l2⟩ := mapM_get hm
                have hagg : RVL (Go.V.frzAll g σ w) ds (us.take cs.length) := by
                  have hra : RV g (.agg cs) (.agg (us.take cs.length).toArray) := RV.agg' (by simpa [AV.cells] using hr1)
                  have := ih (.agg cs) (.agg ds) _ hra hx
                  obtain ⟨vs, e, k⟩ := this.agg_inv
                  cases e
                  simpa using k
                refine ⟨by simpa [AV.cells] using hagg, by simpa [AV.cells] using l1, ?_⟩
                have h1' : cs.all AV.one = true := h1.1
                rw [List.all_eq_true] at h1' ⊢
                intro z hz
                obtain ⟨i, hi, rfl⟩ := List.getElem_of_mem hz
                have hi' : i < ds.length := hi
                have hd := l2 i (by omega) hi'
                have ho := h1' cs[i] (List.getElem_mem _)
                rcases deep_agg hd with ⟨cs', _, _, _, e, _⟩ | ⟨_, _, h7⟩
                · rw [e] at ho; simp [AV.one] at ho
                · exact h7 ho
              · have hc : x.cells = [x] := by cases x <;> first | rfl | exact absurd rfl (h3 _)
                have hcy : y.cells = [y] := by cases y <;> first | rfl | exact absurd rfl (h4 _)
                rw [hc] at hr1 h1
                obtain ⟨u1, us1, e1, h6, h7⟩ := hr1.cons_inv
                have := h7.nil_inv
                subst this
                rw [hc, hcy, e1]
                refine ⟨.cons (ih _ _ _ h6 hx) (.nil _), rfl, ?_⟩
                have := h1.1
                simp only [List.all_cons, List.all_nil, Bool.and_true] at this ⊢
                exact h5 this
            refine ⟨?_, fun z hz => ?_, ?_⟩
            · rw [flat_cons, hus]; exact key.1.append k1
            · rcases List.mem_cons.1 hz with rfl | hz
              · rw [key.2.1]; exact hsz x (by simp)
              · exact k2 z hz
            · rw [flat_cons, List.all_append, key.2.2, k3]; rfl
    intro v v' u hr h
    cases v with
    | undef => simp [deep] at h; subst h; exact hr.mono hle
    | bool b => simp [deep] at h; subst h; exact hr.mono hle
    | int k m => simp [deep] at h; subst h; exact hr.mono hle
    | str s => simp [deep] at h; subst h; exact hr.mono hle
    | nilptr => simp [deep] at h; subst h; exact hr.mono hle
    | nilslice => simp [deep] at h; subst h; exact hr.mono hle
    | nilmap => simp [deep] at h; subst h; exact hr.mono hle
    | nilfunc => simp [deep] at h; subst h; exact hr.mono hle
    | niliface => simp [deep] at h; subst h; exact hr.mono hle
    | map id => simp [deep] at h
    | view id off len => simp [deep] at h
    | yield id => simp [deep] at h
    | func fn fs cs =>
      simp only [deep, Option.bind_eq_some_iff, Option.map_eq_some_iff] at h
      obtain ⟨fs', h1, cs', h2, rfl⟩ := h
      obtain ⟨us, vs, rfl, k1, k2⟩ := hr.func_inv
      exact RV.func' (ihL k1 h1) (ihL k2 h2)
    | agg cs =>
      simp only [deep, Option.map_eq_some_iff] at h
      obtain ⟨ds, h1, rfl⟩ := h
      obtain ⟨vs, rfl, k⟩ := hr.agg_inv
      exact .agg' (ihL k h1)
    | tuple cs =>
      simp only [deep, Option.map_eq_some_iff] at h
      obtain ⟨ds, h1, rfl⟩ := h
      obtain ⟨vs, rfl, k⟩ := hr.tuple_inv
      exact .tuple' (ihL k h1)
    | iface t x =>
      simp only [deep, Option.map_eq_some_iff] at h
      obtain ⟨y, h1, rfl⟩ := h
      cases hr with
      | iface _ _ u hr => exact .iface t y u (ih _ _ _ hr h1)
    | vptr cs =>
      simp only [deep, Option.map_eq_some_iff] at h
      obtain ⟨ds, h1, rfl⟩ := h
      cases hr with
      | vptr _ b o vs hl hF hrr =>
        have k := ihL ⟨hl, hrr⟩ h1
        exact .vptr ds b o vs k.1 (fun i hi => hle.F _ _ _ (hF i hi)) k.2
    | ptr id off =>
      simp only [deep] at h
      split at h
      case h_2 => cases h
      rename_i cs e sz gr ho
      split at h
      case h_2 => cases h
      rename_i hle2
      simp only [Option.map_eq_some_iff] at h
      obtain ⟨ds, h1, rfl⟩ := h
      obtain ⟨i, c, hi, hs, hB, hh, hlc, hg, hct, hmx, hrc, h1c, hFn⟩ := hS.cells ho
      cases hr with
      | ptr _ _ i' hi' =>
        rw [hi] at hi'; cases hi'
        have k := ihL (hrc.drop off) h1
        refine .vptr ds i.blk off ((c.toList.take cs.length).drop off) k.1 (fun j hj => ?_) k.2
        show (if heldC g σ i.blk then w.cell? ⟨i.blk, off + j, Option.none⟩ else g.F i.blk (off + j)) = _
        rw [if_pos ⟨id, i, cs, e, sz, gr, ho, hi, rfl⟩]
        have hj2 : off + j < c.size := by simp at hj; omega
        simp only [World.cell?, hh, Option.isSome_none, Bool.false_eq_true, if_false]
        simp [hj2]
    | slice sz xs m =>
      simp only [deep, Option.map_eq_some_iff] at h
      obtain ⟨ys, h1, rfl⟩ := h
      cases hr with
      | slice _ _ _ a cap vs hsz hl hsp hF h1c hrr hcap hm =>
        obtain ⟨k1, k2, k3⟩ := ihF hsz h1c ⟨hl, hrr⟩ h1
        have hyl := (mapM_get h1).1
        rw [← hyl]
        refine .slice sz ys (nnCap m) a cap vs k2 k1.1 hsp (fun i hi => hle.F _ _ _ (hF i hi)) k3 k1.2 (by omega) ?_
        cases m with
        | any => trivial
        | nn => trivial
        | full => simp only [capOk] at hm; simp only [nnCap, capOk]; omega
        | tok id => trivial
      | nilany =>
        simp at h1; subst h1
        exact .nilany sz
    | rslice id off len =>
      simp only [deep] at h
      split at h
      case h_2 => cases h
      rename_i cs e sz gr ho
      split at h
      case h_2 => cases h
      rename_i k hk
      split at h
      case h_2 => cases h
      rename_i hc
      simp only [Bool.and_eq_true] at hc
      have hc1 : k.getD 1 = sz := Nat.eq_of_beq_eq_true hc.1
      have hc2 : 0 < sz := by have := hc.2.1; simp [Nat.blt] at this; omega
      have hc3 : (off + len) * sz ≤ cs.length := Nat.le_of_ble_eq_true hc.2.2
      simp only [Option.map_eq_some_iff] at h
      obtain ⟨ys, h1, rfl⟩ := h
      obtain ⟨i, c, hi, hs, hB, hh, hlc, hg, hct, hmx, hrc, h1c, hFn⟩ := hS.cells ho
      cases hr with
      | rslice _ _ _ i' a cap hi' hadr hcap hlen =>
        rw [hi] at hi'; cases hi'
        have hone : cs.all AV.one = true := h1c
        have hmul : (off + len) * sz = off * sz + len * sz := Nat.add_mul ..
        have hone' : ((cs.drop (off * sz)).take (len * sz)).all AV.one = true := by
          rw [List.all_eq_true] at hone ⊢
          exact fun x hx => hone x (List.mem_of_mem_drop (List.mem_of_mem_take hx))
        have hl' : len * sz ≤ ((cs.drop (off * sz)).take (len * sz)).length := by simp; omega
        have hln := chunk_length k ((cs.drop (off * sz)).take (len * sz)) len sz hc1 hl'
        have hfl := flat_chunk k ((cs.drop (off * sz)).take (len * sz)) len sz hc1 hl' hone'
        have hrf : RVL g (flat (chunk k ((cs.drop (off * sz)).take (len * sz)) len)) (((c.toList.take cs.length).drop (off * sz)).take (len * sz)) := by
          rw [hfl, List.take_take, Nat.min_self]
          exact (hrc.drop _).take _
        obtain ⟨k1, k2, k3⟩ := ihF (chunk_sz k _ len sz hc1 hl' hone') (by rw [hfl, List.take_take, Nat.min_self]; exact hone') hrf h1
        have hyl : ys.length = len := by rw [(mapM_get h1).1, hln]
        have key : ∀ (hp : 0 < len), a = ⟨i.blk, off * i.sz, Option.none⟩ := fun hp => hadr.resolve_right (by omega)
        have hvl : (((c.toList.take cs.length).drop (off * sz)).take (len * sz)).length = len * sz := by simp; omega
        have := RV.slice (g := Go.V.frzAll g σ w) sz ys .nn a cap _ k2 k1.1 (fun hp => by
            have : 0 < len := by
              rcases Nat.eq_zero_or_pos len with e | e
              · subst e; simp at hp
              · exact e
            rw [key this]) (fun j hj => by
            have hj' : j < len * sz := by rw [hvl] at hj; exact hj
            have hp : 0 < len := by
              rcases Nat.eq_zero_or_pos len with e | e
              · subst e; simp at hj'
              · exact e
            rw [key hp, hs]
            show (if heldC g σ i.blk then w.cell? ⟨i.blk, off * sz + j, Option.none⟩ else g.F i.blk (off * sz + j)) = _
            rw [if_pos ⟨id, i, cs, e, sz, gr, ho, hi, rfl⟩]
            have hj2 : off * sz + j < c.size := by omega
            simp only [World.cell?, hh, Option.isSome_none, Bool.false_eq_true, if_false]
            simp [hj2]) k3 k1.2 (by omega) trivial
        rw [hyl] at this
        exact this
end

/-- A call without objects; what it returns becomes a value. -/
theorem ACalls.pureD {E : Env} {f : Nat} {args : List AV} {Q0 Q : AV → State → Prop} {σ : State} (n : Nat) (hG : ∀ i, NoId (E.G i)) (ha : ∀ x ∈ args, NoId x) (h : ACalls E f args noObj Q0)
    (hQ : ∀ v σ', Q0 v σ' → ∃ v' v'', deep E.P σ' n v = some v' ∧ Wk v' v'' ∧ NoId v'' ∧ Q v'' σ.untok) : ACalls E f args σ Q := by
  have h' : ACalls E f args noObj (fun v σ' => ∃ v', Wk v v' ∧ NoId v' ∧ Q v' σ.untok) := by
    refine ⟨fun g w vs hRG hS hv => (h.run g w vs hRG hS hv).mono fun e w' k => ?_⟩
    cases e with
    | returned u =>
      obtain ⟨g', σ', a, h1, h2, h3, h4⟩ := k
      obtain ⟨v', v'', h5, h6, h7, h8⟩ := hQ _ _ h4
      obtain ⟨h9, h10⟩ := h2.frzAll
      exact ⟨_, _, v', h1.trans h9, h10, deep_ok h2 n a v' u h3 h5, v'', h6, h7, h8⟩
    | outgrown => exact k
    | panicked c => exact k
  exact .pure hG ha h' fun v σ' k => k
end Go.V
