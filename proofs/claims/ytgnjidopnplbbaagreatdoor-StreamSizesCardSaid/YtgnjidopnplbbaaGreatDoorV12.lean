/- The V-model, part 12: code, and a function's call out of its body. -/
import Derived.Test.YtgnjidopnplbbaaGreatDoorV11
set_option linter.unusedSimpArgs false
set_option linter.unusedVariables false
namespace Go.V
open Go.RowKit

section
variable {E : Env} {H : Hand} {rd : Option Nat} {F : Fence} {n : Nat} {an : FnAnn} {R0 : Nat → Option Obj} {loc : Nat → Option Nat} {g : Ghost} {w : World} {σ : State} {a : AAct} {act : Act}

theorem step_ok {ops : Array Oper} {o : Oper} {Q : Post} {g0 : Ghost} {next : Act → World → Prop} {K : Next'} {ann : Ann}
    (hH : HOk E H) (hF : FenceOf g rd F) (hG : RelG g E.G) (hS : Sim E.B E.w0 g σ w) (hT : Fr n R0 E.B g loc a act) (hr : regOk n ops = true) (ho : dstOk n o = true)
    (h : stepS E H ann ops o K a σ) (hK : NextOk E n R0 g K next) :
    if Region.wanted o (yielded ops act.tmps) then o.wpIn F 0 E.P act w next (WPost E n R0 g0 Q) else (∀ f, o.about E.P w act.eval = some f → F.fn f) ∧ next (act.put o.dst undef) w := by
  unfold stepS at h
  have skip : ∀ {a' : AAct}, Fr n R0 E.B g loc a' act → K (a'.put o.dst (.v (.tuple []))) σ → (∀ f, o.about E.P w act.eval = some f → F.fn f) ∧ next (act.put o.dst undef) w := fun hT' k =>
    ⟨fun f _ => hF.fn f, hK g _ σ _ w loc (.refl g) hS (hT'.put ho (v := .v (.tuple [])) (u := undef) (RV.tuple' (.nil g))) k⟩
  cases hg : o.guard with
  | none =>
    rw [hg] at h
    have : Region.wanted o (yielded ops act.tmps) = true := by unfold Region.wanted; rw [hg]
    rw [this]
    simp only [if_true]
    exact (go_ok hH hF hG hS hT ho h hK)
  | some jw =>
    obtain ⟨j, want⟩ := jw
    rw [hg] at h
    dsimp only at h
    cases hdst : (ops[j]?).bind (·.dst) with
    | none =>
      rw [hdst] at h
      have : Region.wanted o (yielded ops act.tmps) = false := by unfold Region.wanted; rw [hg]; simp only [yielded, hdst]; rfl
      rw [this]
      simp only [Bool.false_eq_true, if_false]
      exact skip hT h
    | some d =>
      rw [hdst] at h
      dsimp only at h
      have hlt : d < n := regOk_dst hr hdst
      have ht := (hT.tmp d).low
      have hlt' : d < act.tmps.size := by rw [hT.size]; exact hlt
      have hget : act.tmps.getD d undef = act.tmps[d] := by simp [Array.getD_eq_getD_getElem?, hlt']
      rw [hget] at ht
      have hw : Region.wanted o (yielded ops act.tmps) = ((match some act.tmps[d] with | some (Value.bool b) => some b | _ => none) == some want) := by
        unfold Region.wanted; rw [hg]; simp only [yielded, hdst, Option.bind_some]; rw [Array.getElem?_eq_getElem hlt']
        generalize act.tmps[d] = v
        cases v <;> rfl
      rw [hw]
      have hb : ∀ b, (a.t d).low = .bool b → Fr n R0 E.B g loc (a.setB d b) act := fun b => hT.setB
      generalize (a.t d).low = x at ht h hb
      generalize act.tmps[d] = v at ht
      cases x
      case bool b =>
        cases ht
        have hT' := hb b rfl
        cases b <;> cases want
        · have e : (some false == some false) = true := rfl
          simp only [e, if_true]
          exact (go_ok hH hF hG hS hT' ho h hK)
        · have e : (some false == some true) = false := rfl
          simp only [e, Bool.false_eq_true, if_false]
          exact skip hT' h
        · have e : (some true == some false) = false := rfl
          simp only [e, Bool.false_eq_true, if_false]
          exact skip hT' h
        · have e : (some true == some true) = true := rfl
          simp only [e, if_true]
          exact (go_ok hH hF hG hS hT' ho h hK)
      case undef => exact h.elim
      all_goals (cases ht <;> exact skip hT h)

theorem ops_ok {ops : Array Oper} {id : Nat} (hH : HOk E H) {g0 : Ghost} (hF : FenceOf g0 rd F) (hr : regOk n ops = true) {Q : Post} :
    ∀ (l : List Oper) (i : Nat), (∀ j, ops[i + j]? = l[j]?) → ∀ (K : Next') (g : Ghost) (w : World) (σ : State) (a : AAct) (act : Act) (loc : Nat → Option Nat), g0.LeX g → RelG g E.G → Sim E.B E.w0 g σ w → Fr n R0 E.B g loc a act →
      opsS E H an id ops l i K a σ → (∀ a σ, K a σ → Q .normal a σ) → wpOpsIn F 0 E.P ops (WPost E n R0 g0 Q) (List.range' i l.length) act w
  | [], i, _, K, g, w, σ, a, act, loc, hle, hG, hS, hT, h, hQ => ⟨g, a, σ, loc, hle, hS, hT, hQ _ _ h⟩
  | o :: l, i, hl, K, g, w, σ, a, act, loc, hle, hG, hS, hT, h, hQ => by
    have ho : ops[i]? = some o := by have := hl 0; simpa using this
    have hmem : o ∈ ops := Array.mem_of_getElem? ho
    have hdo : dstOk n o = true := Array.all_eq_true_iff_forall_mem.1 hr o hmem
    rw [List.length_cons, List.range'_succ]
    simp only [wpOpsIn, ho]
    exact step_ok hH (hF.mono hle) hG hS hT hr hdo h fun g' a' σ' act' w' loc' h1 h2 h3 h4 =>
      ops_ok hH hF hr l (i + 1) (fun j => by have := hl (j + 1); rw [show i + (j + 1) = i + 1 + j by omega] at this; simpa using this) K g' w' σ' a' act' loc' (hle.trans h1) (hG.monoX h1) h2 h3 h4 hQ

theorem awp_region {ops : Array Oper} {id : Nat} {Q : Post} (hH : HOk E H) (hr : regOk n ops = true)
    (h : opsS E H an id ops ops.toList 0 (Q .normal) a σ) : AWp E rd n (.region id ops false) Q a σ := by
  refine ⟨fun g w act loc R0 F hF hG hS hT => ?_⟩
  refine wpIn_region ?_
  have := ops_ok (an := an) hH hF hr (Q := Q) (g0 := g) ops.toList 0 (fun j => by simp) (Q .normal) g w σ a act loc (.refl g) hG hS hT h (fun _ _ h => h)
  rw [List.range_eq_range']
  simpa using this

theorem awp_skip {Q : Post} (h : Q .normal a σ) : AWp E rd n .skip Q a σ :=
  ⟨fun g w act loc R0 F hF hG hS hT => wpIn_skip ⟨g, a, σ, loc, .refl g, hS, hT, h⟩⟩
theorem awp_exit {id : Nat} {Q : Post} (h : Q (.exit id) a σ) : AWp E rd n (.exit id) Q a σ :=
  ⟨fun g w act loc R0 F hF hG hS hT => wpIn_exit ⟨g, a, σ, loc, .refl g, hS, hT, h⟩⟩
theorem awp_ret {Q : Post} (h : Q .ret a σ) : AWp E rd n .ret Q a σ :=
  ⟨fun g w act loc R0 F hF hG hS hT => wpIn_ret ⟨g, a, σ, loc, .refl g, hS, hT, h⟩⟩

theorem awp_seq {x y : Code} {Q : Post}
    (h : AWp E rd n x (fun e a σ => match e with | .normal => AWp E rd n y Q a σ | e => Q e a σ) a σ) : AWp E rd n (.seq x y) Q a σ := by
  refine ⟨fun g w act loc R0 F hF hG hS hT => ?_⟩
  refine wpIn_seq (wpIn_mono (h.run g w act loc R0 F hF hG hS hT) fun e act' w' k => ?_)
  cases e with
  | normal =>
    obtain ⟨g', a', σ', loc', h1, h2, h3, h4⟩ := k
    exact wpIn_mono (h4.run g' w' act' loc' R0 F (hF.mono h1) (hG.monoX h1) h2 h3) fun e act'' w'' k => k.le h1
  | exit id => exact k
  | goto l => exact k
  | ret => exact k
  | panic c => exact k
  | outgrown => exact k.elim

theorem awp_cond {c : Operand} {x y : Code} {Q : Post} {b : Bool} (hc : (tval E.G a c).low = .bool b) (ht : b = true → AWp E rd n x Q a σ) (hf : b = false → AWp E rd n y Q a σ) : AWp E rd n (.cond c x y) Q a σ := by
  refine ⟨fun g w act loc R0 F hF hG hS hT => ?_⟩
  have h1 := (tval_ok hG hT c).low
  rw [hc] at h1
  have h2 : act.eval c = .bool b := by cases hh : act.eval c <;> rw [hh] at h1 <;> cases h1; rfl
  exact wpIn_cond_split h2 (fun h => (ht h).run g w act loc R0 F hF hG hS hT) (fun h => (hf h).run g w act loc R0 F hF hG hS hT)

theorem awp_block {id : Nat} {c : Code} {Q : Post}
    (h : AWp E rd n c (fun e a σ => match e with | .exit id' => if id' = id then Q .normal a σ else Q (.exit id') a σ | e => Q e a σ) a σ) : AWp E rd n (.block id c) Q a σ := by
  refine ⟨fun g w act loc R0 F hF hG hS hT => ?_⟩
  refine wpIn_block (wpIn_mono (h.run g w act loc R0 F hF hG hS hT) fun e act' w' k => ?_)
  cases e with
  | exit id' =>
    obtain ⟨g', a', σ', loc', h1, h2, h3, h4⟩ := k
    simp only [Exit.inBlock]
    by_cases e : id' = id
    · simp only [e, if_true] at h4 ⊢; exact ⟨g', a', σ', loc', h1, h2, h3, h4⟩
    · simp only [e, if_false] at h4 ⊢; exact ⟨g', a', σ', loc', h1, h2, h3, h4⟩
  | normal => exact k
  | goto l => exact k
  | ret => exact k
  | panic c => exact k
  | outgrown => exact k.elim

theorem least_nat (p : Nat → Prop) (h : ∃ k, p k) : ∃ k, p k ∧ ∀ j, p j → k ≤ j := by
  obtain ⟨k, hk⟩ := h
  induction k using Nat.strongRecOn with
  | _ k ih =>
    by_cases h : ∃ j, j < k ∧ p j
    · obtain ⟨j, hj, hp⟩ := h; exact ih j hj hp
    · exact ⟨k, hk, fun j hj => by rcases Nat.lt_or_ge j k with h1 | h1; exact absurd ⟨j, h1, hj⟩ h; exact h1⟩

theorem awp_loop {c : Code} {Q : Post} (I : Nat → AAct → State → Prop) {m : Nat} (h0 : I m a σ)
    (hI : ∀ m a σ, I m a σ → AWp E rd n c (fun e a' σ' => match e with | .normal => ∃ m', m' < m ∧ I m' a' σ' | e => Q e a' σ') a σ) : AWp E rd n (.loop c) Q a σ := by
  refine ⟨fun g w act loc R0 F hF hG hS hT => ?_⟩
  refine wpIn_loop (fun act w => ∃ m g' a σ loc, g.LeX g' ∧ Sim E.B E.w0 g' σ w ∧ Fr n R0 E.B g' loc a act ∧ I m a σ)
    (fun act w => Classical.epsilon fun k => (∃ g' a σ loc, g.LeX g' ∧ Sim E.B E.w0 g' σ w ∧ Fr n R0 E.B g' loc a act ∧ I k a σ) ∧ ∀ j, (∃ g' a σ loc, g.LeX g' ∧ Sim E.B E.w0 g' σ w ∧ Fr n R0 E.B g' loc a act ∧ I j a σ) → k ≤ j) ⟨m, g, a, σ, loc, .refl g, hS, hT, h0⟩ ?_
  intro act w hex
  have hp := Classical.epsilon_spec (least_nat (fun k => ∃ g' a σ loc, g.LeX g' ∧ Sim E.B E.w0 g' σ w ∧ Fr n R0 E.B g' loc a act ∧ I k a σ) hex)
  generalize hmu : (Classical.epsilon fun k => (∃ g' a σ loc, g.LeX g' ∧ Sim E.B E.w0 g' σ w ∧ Fr n R0 E.B g' loc a act ∧ I k a σ) ∧ ∀ j, (∃ g' a σ loc, g.LeX g' ∧ Sim E.B E.w0 g' σ w ∧ Fr n R0 E.B g' loc a act ∧ I j a σ) → k ≤ j) = mu at hp
  obtain ⟨⟨g', a, σ, loc, h1, h2, h3, h4⟩, _⟩ := hp
  refine wpIn_mono ((hI mu a σ h4).run g' w act loc R0 F (hF.mono h1) (hG.monoX h1) h2 h3) fun e act' w' k => ?_
  cases e with
  | normal =>
    obtain ⟨g'', a', σ', loc', k1, k2, k3, m', hm', k4⟩ := k
    refine ⟨⟨m', g'', a', σ', loc', h1.trans k1, k2, k3, k4⟩, ?_⟩
    have hp' := Classical.epsilon_spec (least_nat (fun k => ∃ g' a σ loc, g.LeX g' ∧ Sim E.B E.w0 g' σ w' ∧ Fr n R0 E.B g' loc a act' ∧ I k a σ) ⟨m', g'', a', σ', loc', h1.trans k1, k2, k3, k4⟩)
    exact Nat.lt_of_le_of_lt (hp'.2 m' ⟨g'', a', σ', loc', h1.trans k1, k2, k3, k4⟩) hm'
  | exit id => exact WPost.le h1 k
  | goto l => exact WPost.le h1 k
  | ret => exact WPost.le h1 k
  | panic c => exact k
  | outgrown => exact k.elim

end

/-- Whatever is v, is v' too (less is known). -/
def Wk (v v' : AV) : Prop := ∀ g u, RV g v u → RV g v' u
theorem Wk.refl (v : AV) : Wk v v := fun _ _ h => h
theorem Wk.trans {a b c : AV} (h : Wk a b) (k : Wk b c) : Wk a c := fun g u r => k g u (h g u r)
theorem Wk.undef (v : AV) : Wk v .undef := fun _ u _ => .undef u
theorem Wk.slice (sz : Nat) (xs : List AV) (m : Cap) : Wk (.slice sz xs m) (.slice sz xs .any) := by
  intro g u h
  rcases h.slice_inv with ⟨a, cap, vs, rfl, hv⟩ | ⟨rfl, rfl, rfl⟩
  · exact SliceV.rv ⟨hv.hsz, hv.hr, hv.hsp, hv.hF, hv.h1, hv.hcap, trivial⟩
  · exact .nilany sz
theorem Wk.nil (sz : Nat) : Wk .nilslice (.slice sz [] .any) := by
  intro g u h
  cases h
  exact .nilany sz
/-- A slice value is nil, or not. -/
theorem RV.nil_or {g : Ghost} {sz : Nat} {xs : List AV} {u : Value} (h : RV g (.slice sz xs .any) u) : (xs = [] ∧ RV g .nilslice u) ∨ RV g (.slice sz xs .nn) u := by
  rcases h.slice_inv with ⟨a, cap, vs, rfl, hv⟩ | ⟨rfl, _, rfl⟩
  · exact .inr (SliceV.rv ⟨hv.hsz, hv.hr, hv.hsp, hv.hF, hv.h1, hv.hcap, trivial⟩)
  · exact .inl ⟨rfl, .nilslice⟩

inductive WkL : List AV → List AV → Prop where
  | nil : WkL [] []
  | cons {a b : AV} {as bs : List AV} (h : Wk a b) (hs : WkL as bs) : WkL (a :: as) (b :: bs)
theorem WkL.refl : ∀ as, WkL as as
  | [] => .nil
  | a :: as => .cons (.refl a) (.refl as)
theorem WkL.rv {as bs : List AV} (h : WkL as bs) {g : Ghost} {us : List Value} (k : RVL g as us) : RVL g bs us := by
  induction h generalizing us with
  | nil => exact k
  | cons h hs ih => obtain ⟨u, us', rfl, h1, h2⟩ := k.cons_inv; exact .cons (h g u h1) (ih h2)
theorem Wk.agg {as bs : List AV} (h : WkL as bs) : Wk (.agg as) (.agg bs) := fun g u r => by
  obtain ⟨vs, rfl, k⟩ := r.agg_inv; exact .agg' (h.rv k)
theorem Wk.tuple {as bs : List AV} (h : WkL as bs) : Wk (.tuple as) (.tuple bs) := fun g u r => by
  obtain ⟨vs, rfl, k⟩ := r.tuple_inv; exact .tuple' (h.rv k)

theorem ACalls.weaken {E : Env} {f : Nat} {args args' : List AV} {σ : State} {Q : AV → State → Prop} (hw : WkL args args') (h : ACalls E f args' σ Q) : ACalls E f args σ Q :=
  ⟨fun g w vs hG hS hv => h.run g w vs hG hS (hw.rv hv)⟩
/-- Objects can be forgotten ahead of a call. -/
theorem ACalls.forget {E : Env} {f : Nat} {args : List AV} {σ σ' : State} {Q : AV → State → Prop} (hl : σ'.Le σ) (h : ACalls E f args σ' Q) : ACalls E f args σ Q :=
  ⟨fun g w vs hG hS hv => h.run g w vs hG (hS.forget hl) hv⟩
/-- One slice argument is nil, or not. -/
theorem ACalls.nil_or {E : Env} {f : Nat} {as bs : List AV} {sz : Nat} {xs : List AV} {σ : State} {Q : AV → State → Prop} (h1 : xs = [] → ACalls E f (as ++ .nilslice :: bs) σ Q) (h2 : ACalls E f (as ++ .slice sz xs .nn :: bs) σ Q) : ACalls E f (as ++ .slice sz xs .any :: bs) σ Q := by
  refine ⟨fun g w vs hG hS hv => ?_⟩
  have hl : as.length < vs.toList.length := by rw [← hv.1]; simp
  have hi : RV g (.slice sz xs .any) vs.toList[as.length] := by
    have := hv.2 as.length (by simp) hl
    simpa using this
  have put : ∀ x, RV g x vs.toList[as.length] → RVL g (as ++ x :: bs) vs.toList := by
    intro x hx
    refine ⟨by rw [← hv.1]; simp, fun i a b => ?_⟩
    have h3 := hv.2 i (by simpa using a) b
    by_cases e : i = as.length
    · subst e; simpa using hx
    · rcases Nat.lt_or_ge i as.length with h4 | h4
      · rw [List.getElem_append_left h4] at h3 ⊢; exact h3
      · obtain ⟨k, rfl⟩ : ∃ k, i = as.length + (k + 1) := ⟨i - as.length - 1, by omega⟩
        rw [List.getElem_append_right (by omega)] at h3 ⊢
        simp only [Nat.add_sub_cancel_left, List.getElem_cons_succ] at h3 ⊢
        exact h3
  rcases hi.nil_or with ⟨e, h⟩ | h
  · exact (h1 e).run g w vs hG hS (put _ h)
  · exact h2.run g w vs hG hS (put _ h)

def ares1 (P : Program) (a : AAct) (σ : State) : ResultVar → Option AV
  | .tmp t => some (a.t t).low
  | .cell x t => match a.t x with
    | .l k off => apart P t (a.l k) off
    | .v p => aload P σ t p
def aresL (P : Program) (a : AAct) (σ : State) : List ResultVar → Option (List AV)
  | [] => some []
  | r :: rs => match ares1 P a σ r, aresL P a σ rs with
    | some v, some vs => some (v :: vs)
    | _, _ => none
def ares (P : Program) (a : AAct) (σ : State) (rs : List ResultVar) : Option AV :=
  match aresL P a σ rs with
  | some [v] => some v
  | some vs => some (.tuple vs)
  | none => none

section
variable {E : Env} {n : Nat} {R0 : Nat → Option Obj} {loc : Nat → Option Nat} {g : Ghost} {σ : State} {w : World} {a : AAct} {act : Act}

theorem ares1_ok {P : Program} (hS : Sim E.B E.w0 g σ w) (hT : Fr n R0 E.B g loc a act) {r : ResultVar} {v : AV} (h : ares1 P a σ r = some v) :
    ∃ u, (match r with | .tmp t => pure (act.tmps.getD t undef) | .cell a t => do loadVar t (← asAddr (act.tmps.getD a undef)) : Sem Value).run P w = .ok u w ∧ RV g v u := by
  cases r with
  | tmp t => cases h; exact ⟨_, rfl, (hT.tmp t).low⟩
  | cell x t =>
    have hx := hT.tmp x
    simp only [ares1] at h
    show ∃ u, (do loadVar t (← asAddr (act.tmps.getD x undef)) : Sem Value).run P w = _ ∧ _
    generalize act.tmps.getD x undef = p at hx ⊢
    split at h
    · rename_i k off hk
      rw [hk] at hx
      obtain ⟨b, hb, rfl⟩ := hx
      obtain ⟨_, _, c, e, h3, h4, _⟩ := hT.cell k b hb
      have hh := hS.res b _ h3
      obtain ⟨u', h5, h6⟩ := apart_load h h4 (b := b) (o := 0) (w := w) (fun j hj => by
        have : j < c.size := by simpa using hj
        simp [World.cell?, hh, this])
      rw [Nat.zero_add] at h5
      exact ⟨u', by simpa [asAddr] using h5, h6⟩
    · rename_i q hk
      rw [hk] at hx
      obtain ⟨u, h1, h2⟩ := load_ok hS hx h
      refine ⟨u, ?_, h2⟩
      simp only [Instr.loadAt, Instr.sureAddr] at h1
      cases p with
      | pointer ad =>
        cases ad with
        | none => simp at h1
        | some ad => simpa [asAddr] using h1
      | _ => simp at h1

theorem aresL_ok {P : Program} (hS : Sim E.B E.w0 g σ w) (hT : Fr n R0 E.B g loc a act) : ∀ {rs : List ResultVar} {vs : List AV}, aresL P a σ rs = some vs →
    ∃ us, (rs.mapM fun | .tmp t => pure (act.tmps.getD t undef) | .cell a t => do loadVar t (← asAddr (act.tmps.getD a undef)) : Sem (List Value)).run P w = .ok us w ∧ RVL g vs us
  | [], vs, h => by simp only [aresL] at h; cases h; exact ⟨[], rfl, .nil g⟩
  | r :: rs, vs, h => by
    simp only [aresL] at h
    split at h
    · rename_i v vs' h1 h2
      cases h
      obtain ⟨u, k1, k2⟩ := ares1_ok hS hT h1
      obtain ⟨us, k3, k4⟩ := aresL_ok hS hT h2
      refine ⟨u :: us, ?_, .cons k2 k4⟩
      rw [List.mapM_cons]
      simp only [Sem.run_bind]
      cases r with
      | tmp t => simp only at k1 ⊢; rw [k1]; simp only [Result.andThen_ok]; rw [k3]; rfl
      | cell x t => simp only [Sem.run_bind] at k1 ⊢; rw [k1]; simp only [Result.andThen_ok]; rw [k3]; rfl
    · cases h

theorem ares_ok {P : Program} (hS : Sim E.B E.w0 g σ w) (hT : Fr n R0 E.B g loc a act) {fn : Func} {v : AV} (h : ares P a σ fn.results.toList = some v) :
    ∃ u, (results fn act.tmps).run P w = .ok u w ∧ RV g v u := by
  unfold ares at h
  have key : ∀ vs, aresL P a σ fn.results.toList = some vs → ∃ us : List Value, RVL g vs us ∧ (results fn act.tmps).run P w = .ok (if h : us.toArray.size = 1 then us.toArray[0] else .tuple us.toArray) w := by
    intro vs hvs
    obtain ⟨us, h1, h2⟩ := aresL_ok hS hT hvs
    refine ⟨us, h2, ?_⟩
    unfold results
    rw [Sem.run_bind, Array.mapM_eq_mapM_toList]
    simp only [Sem.run_map]
    erw [h1]
    rfl
  split at h
  · rename_i v' hv
    cases h
    obtain ⟨us, h1, h2⟩ := key _ hv
    obtain ⟨u, us', rfl, h3, h4⟩ := h1.cons_inv
    have := h4.nil_inv
    subst this
    exact ⟨u, by rw [h2]; rfl, h3⟩
  · rename_i vs hne hv
    cases h
    obtain ⟨us, h1, h2⟩ := key _ hv
    have hl : us.toArray.size ≠ 1 := by
      intro e
      have : vs.length = 1 := by rw [h1.1]; simpa using e
      obtain ⟨x, rfl⟩ := List.length_eq_one_iff.1 this
      exact hne x rfl
    refine ⟨.tuple us.toArray, by rw [h2, dif_neg hl], .tuple' (by simpa using h1)⟩
  · cases h

def initA (args : List AV) : AAct := { t := fun t => .v ((args[t]?).getD (.tuple [])), l := fun _ => [] }

/-- What has to hold where a function's body ends. -/
def bodyQ (P : Program) (rs : List ResultVar) (Q : AV → State → Prop) : Post
  | .normal, a, σ | .ret, a, σ => ∃ v v' σ', ares P a σ rs = some v ∧ Wk v v' ∧ σ'.Le σ ∧ Q v' σ'
  | _, _, _ => False

theorem leaves_ok {fn : Func} {R : Ending → World → Prop} {act : Act} {u : Act → Prop} : ∀ (ds : List Deferred) (g : Ghost) (w : World),
    (∀ g' w', g.LeX g' → Sim E.B E.w0 g' σ w' → Fr n R0 E.B g' loc a { act with defers := [] } → ∃ v, (results fn act.tmps).run E.P w' = .ok v w' ∧ R (.returned v) w') →
    Sim E.B E.w0 g σ w → Fr n R0 E.B g loc a { act with defers := ds } → LeavesInM Fence.wide 0 E.P fn act.tmps R ds .returning w
  | [], g, w, fin, hS, hT => fin g w (.refl g) hS hT
  | d :: ds, g, w, fin, hS, hT => by
    obtain ⟨⟨r, h1, h2, h3, h4, h5⟩, h6⟩ := hT.marks
    have hx := Ghost.leX_setR g r (.deferred none)
    have hh := hS.res r _ h4
    refine ⟨by simp, .inl ⟨r, { w with heap := w.heap.setIfInBounds r (.deferred none) }, by rw [h1], ?_, ?_⟩⟩
    · simp [Instr.takeDeferred, Sem.run_bind, getObj, setObj, Sem.run, hh]
    · refine leaves_ok (u := u) ds (g.setR r (.deferred none)) _ (fun g' w' hle h7 h8 => fin g' w' (hx.trans hle) h7 h8) (hS.setMark h4 h2) ⟨hT.size, ?_, fun t => (hT.tmp t).mono hx, fun k b hk => ?_, hT.inj, fun b o hb => ?_⟩
      · refine h6.turn fun r' hr' ⟨d', hd', hdr⟩ => ?_
        show (if r' = r then _ else g.R r') = _
        rw [if_neg (by rintro rfl; exact h5 d' hd' hdr)]; exact hr'
      · obtain ⟨k1, k2, c, e, k3, k4, k5⟩ := hT.cell k b hk
        refine ⟨k1, k2, c, e, ?_, k4.monoX hx, k5⟩
        show (if b = r then _ else g.R b) = _
        rw [if_neg (by rintro rfl; rw [h4] at k3; cases k3)]; exact k3
      · show (if b = r then _ else g.R b) = _
        rw [if_neg (by rintro rfl; rw [h3] at hb; cases hb)]; exact hT.sub b o hb

theorem acalls_body {f : Nat} {fn : Func} {c : Code} {args : List AV} {Q : AV → State → Prop} (hf : E.P.funcs[f]? = some fn) (hb : fn.body = some c) (hn : args.length ≤ fn.ntmps)
    (h : AWp E none fn.ntmps c (bodyQ E.P fn.results.toList Q) (initA args) σ) : ACalls E f args σ Q := by
  refine ⟨fun g w vs hG hS hv => ?_⟩
  refine callsIn_wide.1 (callsIn_of_wp_marks (n := 0) hf hb trivial (wpIn_mono (h.run g w _ (fun _ => none) g.R Fence.wide rfl hG hS ⟨?_, trivial, fun t => ?_, (fun k b hk => by cases hk), (fun k j b hk => by cases hk), fun b o hb => hb⟩) fun e act w' k => ?_) rfl)
  · have := hv.1
    simp only [Array.size_append, Array.size_replicate]
    have h2 : vs.size = args.length := by simpa using this.symm
    omega
  · show RV g ((args[t]?).getD (.tuple [])) ((vs ++ Array.replicate _ undef).getD t undef)
    rcases Nat.lt_or_ge t args.length with ht | ht
    · have ht' : t < vs.size := by have := hv.1; simp at this; omega
      have h1 := hv.2 t ht (by simpa using ht')
      rw [List.getElem?_eq_getElem ht]
      simp only [Option.getD_some, Array.getD_eq_getD_getElem?]
      rw [Array.getElem?_append_left ht', Array.getElem?_eq_getElem ht']
      simpa using h1
    · have ht' : vs.size ≤ t := by have := hv.1; simp at this; omega
      rw [List.getElem?_eq_none ht]
      simp only [Option.getD_none, Array.getD_eq_getD_getElem?]
      rw [Array.getElem?_append_right ht']
      have : (Array.replicate (fn.ntmps - vs.size) undef)[t - vs.size]?.getD undef = undef := by
        rw [Array.getElem?_replicate]; split <;> rfl
      rw [this]
      exact .tuple' (.nil g)
  · have fin : ∀ {a : AAct} {σ' : State} {g' : Ghost} {loc : Nat → Option Nat}, g.LeX g' → Sim E.B E.w0 g' σ' w' → Fr fn.ntmps g.R E.B g' loc a act → (∃ v v' σ'', ares E.P a σ' fn.results.toList = some v ∧ Wk v v' ∧ σ''.Le σ' ∧ Q v' σ'') →
        LeavesInM Fence.wide 0 E.P fn act.tmps (APost E g Q) act.defers .returning w' := by
      intro a σ' g' loc h1 h2 h3 ⟨v, v', σ'', h4, h5, h6, h7⟩
      refine leaves_ok (u := fun _ => True) act.defers g' w' (fun g'' w'' hle h2 h3 => ?_) h2 h3
      obtain ⟨u, k1, k2⟩ := ares_ok (P := E.P) h2 h3 h4
      have h1 := h1.trans hle
      exact ⟨u, k1, { g'' with R := g.R }, σ'', v', ⟨h1.F, h1.info, rfl⟩, (h2.forget h6).lessR h3.sub, RV.monoX (g := g'') (g' := { g'' with R := g.R }) ⟨fun _ _ _ h => h, fun _ _ h => h⟩ (h5 g'' u k2), h7⟩
    cases e with
    | normal => obtain ⟨g', a, σ', loc, h1, h2, h3, h4⟩ := k; exact fin h1 h2 h3 h4
    | ret => obtain ⟨g', a, σ', loc, h1, h2, h3, h4⟩ := k; exact fin h1 h2 h3 h4
    | exit id => obtain ⟨g', a, σ', loc, h1, h2, h3, h4⟩ := k; exact h4.elim
    | goto l => obtain ⟨g', a, σ', loc, h1, h2, h3, h4⟩ := k; exact h4.elim
    | panic c => exact k.elim
    | outgrown => exact k.elim

end
end Go.V
