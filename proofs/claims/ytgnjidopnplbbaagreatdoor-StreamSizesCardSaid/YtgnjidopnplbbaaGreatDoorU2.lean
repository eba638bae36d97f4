/- The map of reserved symbols, known up to its order. -/
import Derived.Test.YtgnjidopnplbbaaGreatDoorU1
set_option maxRecDepth 1000000
set_option linter.unusedSimpArgs false
set_option linter.unusedVariables false
namespace Go.V
open Go.RowKit Go.Proofs

noncomputable def ops225a : Array Oper := match Tryz.prog.funcs[225]? with
  | some fn => match fn.body with
    | some c => (findR 0 c).getD #[]
    | none => #[]
  | none => #[]

theorem fn225 : Tryz.prog.funcs[225]? = some Tryz.f225 := by kernel_rfl
theorem body225 : Tryz.f225.body = some (.seq (.region 0 ops225a false) (.seq (.region 1 ops225 true) .ret)) := by kernel_rfl

theorem ACalls.tell {E : Env} {f : Nat} {args : List AV} {σ : State} {Q Q' : AV → State → Prop} (h : ACalls E f args σ Q) (hq : ∀ v σ', Q v σ' → ∃ σ'', (∀ g w, Sim E.B E.w0 g σ' w → Sim E.B E.w0 g σ'' w) ∧ Q' v σ'') : ACalls E f args σ Q' :=
  ⟨fun g w vs hG hS hv => (h.run g w vs hG hS hv).mono fun e w' k => by
    cases e with
    | returned u =>
      obtain ⟨g', σ', a, h1, h2, h3, h4⟩ := k
      obtain ⟨σ'', h5, h6⟩ := hq _ _ h4
      exact ⟨g', σ'', a, h1, h5 _ _ h2, h3, h6⟩
    | outgrown => exact k
    | panicked c => exact k⟩

section
variable {B : Nat} {w0 : World} {G : Nat → AV}

theorem ops225a_run (K : Next') (a : AAct) (σ : State) : opsS (EV B w0 G) (selfH (EV B w0 G)) (annA 225) 0 ops225a ops225a.toList 0 K a σ = K (a.put (some 0) (.v .nilmap)) σ := by kernel_rfl
theorem res225 (a : AAct) (i : Nat) (σ : State) : ares (EV B w0 G).P (frE a i) σ Tryz.f225.results.toList = some (.map i) := by kernel_rfl
theorem reg225a : regOk Tryz.f225.ntmps ops225a = true := by kernel_rfl
theorem reg225 : regOk Tryz.f225.ntmps ops225 = true := by kernel_rfl
theorem drawOk225 : drawOk anc225 eff225 ops225 = true := by kernel_rfl

theorem fixed_ok {σ : State} {Q : AV → State → Prop} (hQ : Q (.map σ.next) (σ.new (.cmap tbl225))) : ACalls (EV B w0 G) 225 [] σ Q := by
  have h1 : ACalls (EV B w0 G) 225 [] σ (fun v σ' => v = .map σ.next ∧ ∃ es, es.Perm tbl225 ∧ σ' = σ.new (.map es)) := by
    refine acalls_body (E := EV B w0 G) fn225 body225 (Nat.zero_le _) (awp_seq (awp_region (an := annA 225) (hok_self _) reg225a ?_))
    rw [ops225a_run]
    refine awp_seq (awp_draw (an := annA 225) (hok_self _) (EV_mixed B w0 G) reg225 drawOk225 (draw225_all fun es hes => awp_ret ?_))
    exact ⟨_, _, _, res225 _ _ _, .refl _, .refl _, rfl, es, hes, rfl⟩
  refine h1.tell fun v σ' k => ?_
  obtain ⟨rfl, es, hes, rfl⟩ := k
  refine ⟨σ.new (.cmap tbl225), fun g w hS => ?_, hQ⟩
  have ho := hS.objs σ.next
  rw [State.new_objs] at ho
  obtain ⟨i, ms, clock, h1, h2, h3, h4, h5⟩ := ho
  have := hS.retell (id := σ.next) (o' := .cmap tbl225) (by rw [State.new_objs]; simp) ⟨i, ms, clock, es, h1, h2, h3, h4, h5, hes⟩
  rw [State.new_set] at this
  exact this

/-- The contract, for runs. -/
def fixedB : HandB := fun t args σ Q => match t, args with
  | .fn f, [] => Nat.beq f 225 && Q (.map σ.next) (σ.new (.cmap tbl225))
  | _, _ => false
theorem fixedB_ok : HBOk (EV B w0 G) fixedB := fun t args σ Q h => by
  unfold fixedB at h
  split at h
  · rw [Bool.and_eq_true] at h
    have := Nat.eq_of_beq_eq_true h.1
    subst this
    exact fixed_ok h.2
  · cases h

/-- Calls without objects, by tables. -/
def pureB (f : Nat) (tab : List (List AV × AV)) : HandB := fun t args σ Q => match t with
  | .fn f' => Nat.beq f' f && (match tab.find? (fun p => AV.sameL p.1 args) with
    | some p => Q p.2 σ.untok
    | none => false)
  | _ => false

/-- What a run comes to, as a value without objects. -/
noncomputable def cameB (lit : AV) (v : AV) (σ : State) : Bool :=
  match deep Tryz.prog σ 60 v with
  | some v' => AV.same v' lit
  | none => false

theorem pureB_ok {f : Nat} {tab : List (List AV × AV)} (hG : ∀ i, NoId (G i)) (h : ∀ p ∈ tab, noIdL p.1 = true ∧ noIdB p.2 = true ∧ ACalls (EV B w0 G) f p.1 noObj (fun v σ' => cameB p.2 v σ' = true)) : HBOk (EV B w0 G) (pureB f tab) := fun t args σ Q hq => by
  unfold pureB at hq
  split at hq
  · rw [Bool.and_eq_true] at hq
    have := Nat.eq_of_beq_eq_true hq.1
    subst this
    have h2 := hq.2
    split at h2
    · rename_i p hp
      have hm := List.mem_of_find?_eq_some hp
      have hs := List.find?_some hp
      obtain ⟨k1, k2, k3⟩ := h p hm
      have := AV.sameL_ok _ _ hs
      subst this
      refine ACalls.pureD 60 hG (noIdL_ok _ k1).1 k3 fun v σ' k => ?_
      unfold cameB at k
      split at k
      · rename_i v' hv'
        have := AV.same_ok _ _ k
        subst this
        exact ⟨_, _, hv', .refl _, (noIdB_ok _ k2).1, h2⟩
      · cases k
    · cases h2
  · cases hq

/-- The strings of the program's calculations. -/
def G1 : Nat → AV
  | 0 => .vptr [.str ⟨#[43]⟩, .str ⟨#[45]⟩, .str ⟨#[42]⟩, .str ⟨#[47]⟩, .str ⟨#[109, 111, 100]⟩, .str ⟨#[45]⟩]
  | _ + 1 => .undef
theorem G1_noId : ∀ i, NoId (G1 i)
  | 0 => (noIdB_ok (.vptr [.str ⟨#[43]⟩, .str ⟨#[45]⟩, .str ⟨#[42]⟩, .str ⟨#[47]⟩, .str ⟨#[109, 111, 100]⟩, .str ⟨#[45]⟩]) rfl).1
  | _ + 1 => .undef
end
end Go.V
