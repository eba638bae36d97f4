/- The V-model, part 11: frames: a function's own variables, and one operation in a frame. -/
import Derived.Test.YtgnjidopnplbbaaGreatDoorV10
import Derived.RangeFuncIn
import Derived.RangeFuncLeaves
import Derived.OrdersIn
import Derived.LoopIn
set_option linter.unusedSimpArgs false
set_option linter.unusedVariables false
namespace Go.V
open Go.RowKit

structure Env where
  P : Program
  B : Nat
  w0 : World
  G : Nat → AV

/-- What a proof tells of a function's text: which results are objects or become values, and which operations of a drawn region change objects. -/
structure FnAnn where
  ann : Nat → Nat → Ann
  eff : Nat → List Nat

def noAnn : FnAnn := ⟨fun _ _ => .none, fun _ => []⟩

/-- What a temporary holds: a value, or the address of a variable of the frame's own. -/
inductive TV where
  | v (a : AV)
  | l (k off : Nat)

def TV.low : TV → AV
  | .v a => a
  | .l _ _ => .undef

structure AAct where
  t : Nat → TV
  l : Nat → List AV

def AAct.low (a : AAct) : Nat → AV := fun t => (a.t t).low

def tval (G : Nat → AV) (a : AAct) : Operand → TV
  | .tmp t => a.t t
  | .const v => .v (av v)
  | .global g => .v (G g)
  | .func f => .v (.func (.func f) [] [])

def RVt (g : Ghost) (loc : Nat → Option Nat) : TV → Value → Prop
  | .v a, u => RV g a u
  | .l k off, u => ∃ b, loc k = some b ∧ u = .pointer (some ⟨b, off, none⟩)

/-- The marks of a frame's own loops over functions: each with a block of no calls. -/
def Marks (R0 : Nat → Option Obj) (B : Nat) (g : Ghost) : List Deferred → Prop
  | [] => True
  | d :: ds => (∃ r, d = { target := .collected r, args := #[] } ∧ B ≤ r ∧ R0 r = none ∧ g.R r = some (.deferred (some [])) ∧ ∀ d' ∈ ds, d'.target ≠ .collected r) ∧ Marks R0 B g ds

theorem Marks.turn {R0 : Nat → Option Obj} {B : Nat} {g g' : Ghost} : ∀ {ds : List Deferred}, Marks R0 B g ds → (∀ r, g.R r = some (.deferred (some [])) → (∃ d ∈ ds, d.target = .collected r) → g'.R r = some (.deferred (some []))) → Marks R0 B g' ds
  | [], _, _ => trivial
  | d :: ds, h, hk => by
    obtain ⟨⟨r, h1, h2, h3, h4, h5⟩, h6⟩ := h
    exact ⟨⟨r, h1, h2, h3, hk r h4 ⟨d, by simp, by rw [h1]⟩, h5⟩, h6.turn fun r hr ⟨d', hd', hdr⟩ => hk r hr ⟨d', by simp [hd'], hdr⟩⟩

structure Fr (n : Nat) (R0 : Nat → Option Obj) (B : Nat) (g : Ghost) (loc : Nat → Option Nat) (a : AAct) (act : Act) : Prop where
  size : act.tmps.size = n
  marks : Marks R0 B g act.defers
  tmp : ∀ t, RVt g loc (a.t t) (act.tmps.getD t undef)
  cell : ∀ k b, loc k = some b → B ≤ b ∧ R0 b = none ∧ ∃ c e, g.R b = some (.cells c e (0, 0)) ∧ RVL g (a.l k) c.toList ∧ (a.l k).all AV.one = true
  inj : ∀ k j b, loc k = some b → loc j = some b → k = j
  sub : ∀ b o, R0 b = some o → g.R b = some o

theorem RVt.mono {g g' : Ghost} (h : g.LeX g') {loc : Nat → Option Nat} {x : TV} {u : Value} (k : RVt g loc x u) : RVt g' loc x u := by
  cases x with
  | v a => exact RV.monoX h k
  | l k off => exact k
theorem RVt.low {g : Ghost} {loc : Nat → Option Nat} {x : TV} {u : Value} (k : RVt g loc x u) : RV g x.low u := by
  cases x with
  | v a => exact k
  | l k off => exact .undef u

theorem Fr.relT {n B : Nat} {R0 : Nat → Option Obj} {g : Ghost} {loc : Nat → Option Nat} {a : AAct} {act : Act} (h : Fr n R0 B g loc a act) : RelT n g a.low act := ⟨h.size, fun t => (h.tmp t).low⟩

theorem Fr.mono {n B : Nat} {R0 : Nat → Option Obj} {g g' : Ghost} {loc : Nat → Option Nat} {a : AAct} {act : Act} (h : Fr n R0 B g loc a act) (hle : g.Le g') : Fr n R0 B g' loc a act :=
  ⟨h.size, h.marks.turn fun r hr _ => by rw [hle.R]; exact hr, fun t => (h.tmp t).mono hle.x, fun k b hk => by
    obtain ⟨h1, h2, c, e, h3, h4, h5⟩ := h.cell k b hk
    exact ⟨h1, h2, c, e, by rw [hle.R]; exact h3, h4.mono hle, h5⟩, h.inj, fun b o hb => by rw [hle.R]; exact h.sub b o hb⟩

theorem tval_ok {n B : Nat} {R0 : Nat → Option Obj} {g : Ghost} {loc : Nat → Option Nat} {a : AAct} {act : Act} {G : Nat → AV} (hG : RelG g G) (h : Fr n R0 B g loc a act) (x : Operand) : RVt g loc (tval G a x) (act.eval x) := by
  cases x with
  | tmp t => exact h.tmp t
  | const v => exact av_ok g v
  | global k => exact hG k
  | func f => exact RV.func' (.nil g) (.nil g)

/-- Put a result where it goes. -/
def AAct.put (a : AAct) (dst : Option Tmp) (v : TV) : AAct :=
  match dst with
  | some d => { a with t := fun j => if j = d then v else a.t j }
  | none => a

def dstOk (n : Nat) (o : Oper) : Bool := match o.dst with | some d => decide (d < n) | none => true

theorem Fr.put {n B : Nat} {R0 : Nat → Option Obj} {g : Ghost} {loc : Nat → Option Nat} {a : AAct} {act : Act} (h : Fr n R0 B g loc a act) {o : Oper} (hd : dstOk n o = true) {v : TV} {u : Value} (hv : RVt g loc v u) : Fr n R0 B g loc (a.put o.dst v) (act.put o.dst u) := by
  unfold dstOk at hd
  cases hdst : o.dst with
  | none => exact h
  | some d =>
    rw [hdst] at hd
    simp at hd
    refine ⟨by simp [Act.put, h.size], h.marks, fun j => ?_, h.cell, h.inj, h.sub⟩
    show RVt g loc (if j = d then v else a.t j) ((act.tmps.setIfInBounds d u).getD j undef)
    by_cases e : j = d
    · subst e
      have hlt : j < act.tmps.size := by rw [h.size]; exact hd
      simp [Array.getD_eq_getD_getElem?, hlt, hv]
    · rw [if_neg e]
      have := h.tmp j
      simpa [Array.getD_eq_getD_getElem?, Array.getElem?_setIfInBounds_ne (Ne.symm e)] using this

/-- Addresses of a variable that is made anew are forgotten. -/
def TV.kill (k : Nat) : TV → TV
  | .l j off => if j = k then .v .undef else .l j off
  | x => x

/-- A new variable of the frame's own; its address is put. -/
def AAct.newL (a : AAct) (d : Nat) (cs : List AV) : AAct :=
  { t := fun j => if j = d then .l d 0 else (a.t j).kill d, l := fun j => if j = d then cs else a.l j }

def AAct.setL (a : AAct) (k : Nat) (cs : List AV) : AAct := { a with l := fun j => if j = k then cs else a.l j }

def APost (E : Env) (g : Ghost) (Q : AV → State → Prop) : Ending → World → Prop
  | .returned v, w' => ∃ g' σ' a, g.Le g' ∧ Sim E.B E.w0 g' σ' w' ∧ RV g' a v ∧ Q a σ'
  | .outgrown, _ => False
  | .panicked _, _ => False

/-- The frames that are spoken of: those of calls, and those of a loop's rounds. -/
def FenceOf (g : Ghost) : Option Nat → Fence → Prop
  | none, F => F = Fence.wide
  | some id, F => ∃ i, g.info id = some i ∧ F = Fence.wide.inRound i.blk
theorem FenceOf.mono {g g' : Ghost} {rd : Option Nat} {F : Fence} (h : g.LeX g') (k : FenceOf g rd F) : FenceOf g' rd F := by
  cases rd with
  | none => exact k
  | some id => obtain ⟨i, h1, h2⟩ := k; exact ⟨i, h.info _ _ h1, h2⟩
theorem FenceOf.fn {g : Ghost} {rd : Option Nat} {F : Fence} (k : FenceOf g rd F) (f : FuncId) : F.fn f := by
  cases rd with
  | none => cases k; trivial
  | some id => obtain ⟨i, _, rfl⟩ := k; trivial
theorem FenceOf.depth {g : Ghost} {rd : Option Nat} {F : Fence} (k : FenceOf g rd F) : F.depth = none := by
  cases rd with
  | none => cases k; rfl
  | some id => obtain ⟨i, _, rfl⟩ := k; rfl
theorem FenceOf.calls {g : Ghost} {rd : Option Nat} {F : Fence} (k : FenceOf g rd F) {P : Program} {f : FuncId} {args : Array Value} {w : World} {R : Ending → World → Prop} (h : Calls P f args w R) : CallsIn F 0 P f args w R := by
  cases rd with
  | none => cases k; exact callsIn_wide.2 h
  | some id => obtain ⟨i, _, rfl⟩ := k; exact (callsIn_wide (n := 0)).2 h
theorem wpIn_eq {g : Ghost} {rd : Option Nat} {F : Fence} (k : FenceOf g rd F) {P : Program} {o : Oper} {act : Act} {w : World} {next : Act → World → Prop} {Q : Exit → Act → World → Prop} (hnd : ∀ c, o.op ≠ .defer c)
    (h : o.uponIn F 0 P act next Q ((execOp act.eval o).run P w)) : o.wpIn F 0 P act w next Q :=
  ⟨fun f _ => k.fn f, by rw [Oper.semAt_eq _ _ _ hnd]; exact h⟩

/-- The call returns, and its result and the objects behind it are as Q says. -/
theorem APost.mono' {E : Env} {g : Ghost} {Q Q' : AV → State → Prop} {e : Ending} {w : World} (k : APost E g Q e w) (h : ∀ v σ, Q v σ → Q' v σ) : APost E g Q' e w := by
  cases e with
  | returned v => obtain ⟨g', σ', a, h1, h2, h3, h4⟩ := k; exact ⟨g', σ', a, h1, h2, h3, h _ _ h4⟩
  | outgrown => exact k
  | panicked c => exact k

structure ACalls (E : Env) (f : Nat) (args : List AV) (σ : State) (Q : AV → State → Prop) : Prop where
  run : ∀ g w (vs : Array Value), RelG g E.G → Sim E.B E.w0 g σ w → RVL g args vs.toList → Calls E.P f vs w (APost E g Q)

/-- Code's condition: how it leaves, the frame's temporaries and variables, the objects. -/
abbrev Post := Exit → AAct → State → Prop

def WPost (E : Env) (n : Nat) (R0 : Nat → Option Obj) (g : Ghost) (Q : Post) : Exit → Act → World → Prop
  | .outgrown, _, _ => False
  | .panic _, _, _ => False
  | e, act, w => ∃ g' a σ loc, g.LeX g' ∧ Sim E.B E.w0 g' σ w ∧ Fr n R0 E.B g' loc a act ∧ Q e a σ

/-- The code comes to an end, and what it leaves is as Q says. -/
structure AWp (E : Env) (rd : Option Nat) (n : Nat) (c : Code) (Q : Post) (a : AAct) (σ : State) : Prop where
  run : ∀ g w act loc R0 F, FenceOf g rd F → RelG g E.G → Sim E.B E.w0 g σ w → Fr n R0 E.B g loc a act → c.wpIn F 0 E.P (WPost E n R0 g Q) act w

/-- How a call is shown: by a contract, or by its body. -/
abbrev Hand := Tgt → List AV → State → (AV → State → Prop) → Prop
/-- A round of a loop over a function: yield's call returns, and what it returns and the objects behind it are as Q says. -/
structure AYield (E : Env) (id : Nat) (args : List AV) (σ : State) (Q : AV → State → Prop) : Prop where
  run : ∀ g w (vs : Array Value) i rd F, FenceOf g rd F → RelG g E.G → Sim E.B E.w0 g σ w → g.info id = some i → RVL g args vs.toList →
    ∃ f tmps assign body, (Instr.yield i.blk vs).run E.P w = .ok (.round i.blk f tmps assign body) w ∧ RoundIn F 0 E.P i.blk f tmps assign body w (APost E g Q)
theorem AYield.mono {E : Env} {id : Nat} {args : List AV} {σ : State} {Q Q' : AV → State → Prop} (h : AYield E id args σ Q) (hq : ∀ v σ', Q v σ' → Q' v σ') : AYield E id args σ Q' :=
  ⟨fun g w vs i rd F hF hG hS hi hv => by
    obtain ⟨f, tmps, assign, body, h1, h2⟩ := h.run g w vs i rd F hF hG hS hi hv
    exact ⟨f, tmps, assign, body, h1, h2.mono fun e w' k => k.mono' hq⟩⟩

def selfH (E : Env) : Hand
  | .fn f => ACalls E f
  | .yield id => AYield E id

structure HOk (E : Env) (H : Hand) : Prop where
  ok : ∀ t args σ Q, H t args σ Q → selfH E t args σ Q
  mono : ∀ f args σ (Q Q' : AV → State → Prop), (∀ v σ', Q v σ' → Q' v σ') → H f args σ Q → H f args σ Q'

theorem RelG.monoX {g g' : Ghost} (h : g.LeX g') {G : Nat → AV} (k : RelG g G) : RelG g' G := fun i => (k i).monoX h

theorem APost.mono {E : Env} {g : Ghost} {Q Q' : AV → State → Prop} (h : ∀ v σ, Q v σ → Q' v σ) {e : Ending} {w : World} (k : APost E g Q e w) : APost E g Q' e w := by
  cases e with
  | returned v => obtain ⟨g', σ', a, h1, h2, h3, h4⟩ := k; exact ⟨g', σ', a, h1, h2, h3, h _ _ h4⟩
  | outgrown => exact k
  | panicked c => exact k
theorem WPost.le {E : Env} {n : Nat} {R0 : Nat → Option Obj} {g g1 : Ghost} (h : g.LeX g1) {Q : Post} {e : Exit} {act : Act} {w : World} (k : WPost E n R0 g1 Q e act w) : WPost E n R0 g Q e act w := by
  cases e <;> first | trivial | exact k | (obtain ⟨g', a, σ, loc, h1, r⟩ := k; exact ⟨g', a, σ, loc, h.trans h1, r⟩)
theorem WPost.mono {E : Env} {n : Nat} {R0 : Nat → Option Obj} {g : Ghost} {Q Q' : Post} (h : ∀ e a σ, Q e a σ → Q' e a σ) {e : Exit} {act : Act} {w : World} (k : WPost E n R0 g Q e act w) : WPost E n R0 g Q' e act w := by
  cases e <;> first | trivial | exact k | (obtain ⟨g', a, σ, loc, h1, h2, h3, h4⟩ := k; exact ⟨g', a, σ, loc, h1, h2, h3, h _ _ _ h4⟩)

theorem ACalls.mono {E : Env} {f : Nat} {args : List AV} {σ : State} {Q Q' : AV → State → Prop} (h : ACalls E f args σ Q) (hq : ∀ v σ', Q v σ' → Q' v σ') : ACalls E f args σ Q' :=
  ⟨fun g w vs hG hS hv => (h.run g w vs hG hS hv).mono fun e w' k => k.mono hq⟩
theorem hok_self (E : Env) : HOk E (selfH E) := ⟨fun _ _ _ _ h => h, fun t _ _ _ _ h k => by
  cases t with
  | fn f => exact ACalls.mono k h
  | yield id => exact AYield.mono k h⟩
theorem AWp.mono {E : Env} {rd : Option Nat} {n : Nat} {c : Code} {Q Q' : Post} {a : AAct} {σ : State} (h : AWp E rd n c Q a σ) (hq : ∀ e a σ', Q e a σ' → Q' e a σ') : AWp E rd n c Q' a σ :=
  ⟨fun g w act loc R0 F hF hG hS hT => wpIn_mono (h.run g w act loc R0 F hF hG hS hT) fun e a w k => k.mono hq⟩

/-- Both ways of a test. -/
def bcase (b : Bool) (x y : Prop) : Prop :=
  match b with
  | true => x
  | false => y

theorem bcase_of {b : Bool} {x y : Prop} (h1 : b = true → x) (h2 : b = false → y) : bcase b x y := by
  cases b
  · exact h2 rfl
  · exact h1 rfl

abbrev Next' := AAct → State → Prop

/-- An operation on values and objects. -/
def genS (E : Env) (H : Hand) (ann : Ann) (o : Oper) (K : Next') (a : AAct) (σ : State) : Prop :=
  match aopF E.P ann o (aval E.G a.low) σ with
  | .ok v σ' => K (a.put o.dst (.v v)) σ'
  | .call f args => H f args σ fun v σ' => K (a.put o.dst (.v v)) σ'
  | .fail => False

def newS (ann : Ann) (o : Oper) (cs : List AV) (K : Next') (gen : Prop) (a : AAct) (σ : State) : Prop :=
  match ann, o.dst with
  | .none, some d => cs.all AV.one = true ∧ K (a.newL d cs) σ
  | _, _ => gen

/-- One operation that is done: on the frame's own variables, or on values and objects. -/
def goS (E : Env) (H : Hand) (ann : Ann) (o : Oper) (K : Next') (a : AAct) (σ : State) : Prop :=
  match o.op with
  | .alloc e => match zerT E.P e with
    | some z => newS ann o (av z).cells K (genS E H ann o K a σ) a σ
    | none => False
  | .box e x => match tval E.G a x with
    | .v v => newS ann o v.cells K (genS E H ann o K a σ) a σ
    | .l _ _ => False
  | .load t x => match tval E.G a x with
    | .l k off => match apart E.P t (a.l k) off with
      | some v => K (a.put o.dst (.v v)) σ
      | none => False
    | .v _ => genS E H ann o K a σ
  | .store t x v => match tval E.G a x with
    | .l k off =>
      (tval E.G a v).low.isUndef = false ∧ szT E.P t = some (tval E.G a v).low.cells.length ∧ (tval E.G a v).low.cells.all AV.one = true ∧ off + (tval E.G a v).low.cells.length ≤ (a.l k).length ∧ o.dst = none ∧
        K (a.setL k (asplice (a.l k) off (tval E.G a v).low.cells)) σ
    | .v _ => genS E H ann o K a σ
  | .fieldAddr s x f => match tval E.G a x with
    | .l k off => match fldT E.P s f with
      | some (_, p, m) => if m = 0 then False else K (a.put o.dst (.l k (off + p))) σ
      | none => False
    | .v _ => genS E H ann o K a σ
  | .indexAddr t x i => match tval E.G a x with
    | .l k off => match tval E.G a i, arrT E.P t with
      | .v (.int _ j), some (len, e) => match szT E.P e with
        | some sz => 0 ≤ j ∧ j < len ∧ K (a.put o.dst (.l k (off + j.toNat * sz))) σ
        | none => False
      | _, _ => False
    | .v _ => genS E H ann o K a σ
  | .nilCheck x => match tval E.G a x with
    | .l k off => K (a.put o.dst (.l k off)) σ
    | .v _ => genS E H ann o K a σ
  | .move x => match tval E.G a x with
    | .l k off => K (a.put o.dst (.l k off)) σ
    | .v _ => genS E H ann o K a σ
  | .assign x => match tval E.G a x with
    | .l k off => K (a.put o.dst (.l k off)) σ
    | .v _ => genS E H ann o K a σ
  | _ => genS E H ann o K a σ

def AAct.setB (a : AAct) (d : Nat) (b : Bool) : AAct := { a with t := fun j => if j = d then .v (.bool b) else a.t j }

/-- One operation, in the order of the text: where its guard is not known, both ways. -/
def stepS (E : Env) (H : Hand) (ann : Ann) (ops : Array Oper) (o : Oper) (K : Next') (a : AAct) (σ : State) : Prop :=
  match o.guard with
  | none => goS E H ann o K a σ
  | some (j, want) => match (ops[j]?).bind (·.dst) with
    | none => K (a.put o.dst (.v (.tuple []))) σ
    | some d => match (a.t d).low with
      | .bool b => bcase b
          (if want then goS E H ann o K (a.setB d true) σ else K ((a.setB d true).put o.dst (.v (.tuple []))) σ)
          (if want then K ((a.setB d false).put o.dst (.v (.tuple []))) σ else goS E H ann o K (a.setB d false) σ)
      | .undef => False
      | _ => K (a.put o.dst (.v (.tuple []))) σ

def opsS (E : Env) (H : Hand) (an : FnAnn) (id : Nat) (ops : Array Oper) : List Oper → Nat → Next' → AAct → State → Prop
  | [], _, K, a, σ => K a σ
  | o :: l, i, K, a, σ => stepS E H (an.ann id i) ops o (fun a σ => opsS E H an id ops l (i + 1) K a σ) a σ

/-- All places of a region's results are there. -/
def regOk (n : Nat) (ops : Array Oper) : Bool := ops.all (dstOk n)

theorem regOk_dst {n : Nat} {ops : Array Oper} (h : regOk n ops = true) {j d : Nat} (hd : (ops[j]?).bind (·.dst) = some d) : d < n := by
  cases ho : ops[j]? with
  | none => simp [ho] at hd
  | some o =>
    simp [ho] at hd
    have hm : o ∈ ops := Array.mem_of_getElem? ho
    have := Array.all_eq_true_iff_forall_mem.1 h o hm
    unfold dstOk at this
    rw [hd] at this
    simpa using this

section
variable {E : Env} {H : Hand} {rd : Option Nat} {F : Fence} {n : Nat} {an : FnAnn} {R0 : Nat → Option Obj} {loc : Nat → Option Nat} {g : Ghost} {w : World} {σ : State} {a : AAct} {act : Act}

theorem Fr.setB (h : Fr n R0 E.B g loc a act) {d : Nat} {b : Bool} (hd : (a.t d).low = .bool b) : Fr n R0 E.B g loc (a.setB d b) act := by
  refine ⟨h.size, h.marks, fun t => ?_, h.cell, h.inj, h.sub⟩
  show RVt g loc (if t = d then .v (.bool b) else a.t t) _
  split
  · rename_i e; subst e
    have := (h.tmp t).low
    rw [hd] at this; exact this
  · exact h.tmp t


/-- What follows an operation, in the machine. -/
def NextOk (E : Env) (n : Nat) (R0 : Nat → Option Obj) (g : Ghost) (K : Next') (next : Act → World → Prop) : Prop :=
  ∀ g' a' σ' act' w' loc', g.LeX g' → Sim E.B E.w0 g' σ' w' → Fr n R0 E.B g' loc' a' act' → K a' σ' → next act' w'

theorem gen_ok {o : Oper} {Q : Post} {g0 : Ghost} {next : Act → World → Prop} {K : Next'} {ann : Ann}
    (hH : HOk E H) (hF : FenceOf g rd F) (hG : RelG g E.G) (hS : Sim E.B E.w0 g σ w) (hT : Fr n R0 E.B g loc a act) (ho : dstOk n o = true)
    (h : genS E H ann o K a σ) (hK : NextOk E n R0 g K next) : o.wpIn F 0 E.P act w next (WPost E n R0 g0 Q) := by
  unfold genS at h
  have hop := opF_ok (P := E.P) hS hG hT.relT ann o
  have hnd : ∀ r, aopF E.P ann o (aval E.G a.low) σ = r → r ≠ .fail → ∀ c, o.op ≠ .defer c := by
    intro r hr hne c hc
    unfold aopF at hr
    rw [hc] at hr
    simp only [aop] at hr
    exact hne hr.symm
  split at h
  · rename_i v σ' hr'
    rw [hr'] at hop
    obtain ⟨g', w', u, nx, h1, h2, h3, h4, h5⟩ := hop
    refine wpIn_eq hF (hnd _ hr' (by simp)) ?_
    rw [h4]
    rcases h5 with rfl | ⟨rfl, rfl⟩
    · exact hK g' _ σ' _ w' loc h1.x h2 ((hT.mono h1).put ho (v := .v v) h3) h
    · exact hK g' _ σ' _ w' loc h1.x h2 ((hT.mono h1).put ho (v := .v v) h3) h
  · rename_i t args hr'
    rw [hr'] at hop
    have next_ok : ∀ e w', APost E g (fun v σ' => K (a.put o.dst (.v v)) σ') e w' → (match e, w' with
        | .returned v, w'' => next (act.put o.dst v) w''
        | .panicked chain, w'' => WPost E n R0 g0 Q (.panic chain) act w''
        | .outgrown, _ => LetsOut (WPost E n R0 g0 Q) : Prop) := by
      intro e w' k
      cases e with
      | returned v =>
        obtain ⟨g', σ', r, k1, k2, k3, k4⟩ := k
        exact hK g' _ σ' _ w' loc k1.x k2 ((hT.mono k1).put ho (v := .v r) k3) k4
      | outgrown => exact k.elim
      | panicked c => exact k.elim
    cases t with
    | fn f =>
      obtain ⟨vs, h1, h2⟩ := hop
      refine wpIn_eq hF (hnd _ hr' (by simp)) ?_
      rw [h1]
      exact ⟨fun h => (by rw [hF.depth] at h; cases h), hF.calls (((hH.ok _ _ _ _ h).run g w vs hG hS h2).mono next_ok)⟩
    | yield id =>
      obtain ⟨vs, i, hi, h1, h2⟩ := hop
      refine wpIn_eq hF (hnd _ hr' (by simp)) ?_
      obtain ⟨f, tmps, assign, body, h3, h4⟩ := (hH.ok _ _ _ _ h).run g w vs i rd F hF hG hS hi h2
      rw [h1, h3]
      exact ⟨fun h => (by rw [hF.depth] at h; cases h), h4.mono next_ok⟩
  · exact h.elim

theorem Fr.newL (hS : Sim E.B E.w0 g σ w) (hT : Fr n R0 E.B g loc a act) {d e : Nat} (hd : d < n) {cs : List AV} {c : Array Value} (hr : RVL g cs c.toList) (h1 : cs.all AV.one = true) :
    Fr n R0 E.B (g.setR w.heap.size (.cells c e (0, 0))) (fun k => if k = d then some w.heap.size else loc k) (a.newL d cs) (act.put (some d) (.pointer (some ⟨w.heap.size, 0, none⟩))) := by
  have hx := Ghost.leX_setR g w.heap.size (.cells c e (0, 0))
  have hb : ∀ k b, loc k = some b → b < w.heap.size := fun k b hk => by
    obtain ⟨_, _, c, e, h3, _⟩ := hT.cell k b hk
    exact (Array.getElem?_eq_some_iff.1 (hS.res b _ h3)).1
  refine ⟨by simp [Act.put, hT.size], hT.marks.turn (fun r hr _ => by
    have : r < w.heap.size := (Array.getElem?_eq_some_iff.1 (hS.res r _ hr)).1
    show (if r = w.heap.size then _ else g.R r) = _
    rw [if_neg (by omega)]; exact hr), fun j => ?_, fun k b hk => ?_, fun k j b hk hj => ?_, fun b o hb0 => ?_⟩
  · show RVt _ _ (if j = d then TV.l d 0 else (a.t j).kill d) ((act.tmps.setIfInBounds d _).getD j undef)
    by_cases ej : j = d
    · subst ej
      have hlt : j < act.tmps.size := by rw [hT.size]; exact hd
      rw [if_pos rfl]
      refine ⟨w.heap.size, by simp, ?_⟩
      simp [Array.getD_eq_getD_getElem?, hlt]
    · rw [if_neg ej]
      have := hT.tmp j
      have hget : (act.tmps.setIfInBounds d (.pointer (some ⟨w.heap.size, 0, none⟩))).getD j undef = act.tmps.getD j undef := by
        simp [Array.getD_eq_getD_getElem?, Array.getElem?_setIfInBounds_ne (Ne.symm ej)]
      rw [hget]
      generalize a.t j = x at this
      cases x with
      | v y => exact RV.monoX hx this
      | l k off =>
        obtain ⟨b, h2, h3⟩ := this
        simp only [TV.kill]
        split
        · exact RV.undef _
        · rename_i hne; exact ⟨b, by simp [hne, h2], h3⟩
  · change (if k = d then some w.heap.size else loc k) = some b at hk
    split at hk
    · rename_i ek; subst ek; cases hk
      refine ⟨hS.size, ?_, c, e, by simp [Ghost.setR], ?_, ?_⟩
      · cases hv : R0 w.heap.size with
        | none => rfl
        | some x => have := hT.sub _ _ hv; rw [hS.R_new] at this; cases this
      · show RVL _ (if k = k then cs else a.l k) _
        rw [if_pos rfl]; exact hr.monoX hx
      · show (if k = k then cs else a.l k).all AV.one = true
        rw [if_pos rfl]; exact h1
    · rename_i hne
      obtain ⟨h2, h3, c', e', h4, h5, h6⟩ := hT.cell k b hk
      have hlt := hb k b hk
      refine ⟨h2, h3, c', e', ?_, ?_, ?_⟩
      · show (if b = w.heap.size then _ else g.R b) = _
        rw [if_neg (by omega)]; exact h4
      · show RVL _ (if k = d then cs else a.l k) _
        rw [if_neg hne]; exact h5.monoX hx
      · show (if k = d then cs else a.l k).all AV.one = true
        rw [if_neg hne]; exact h6
  · change (if k = d then some w.heap.size else loc k) = some b at hk
    change (if j = d then some w.heap.size else loc j) = some b at hj
    split at hk <;> split at hj
    · rename_i e1 e2; rw [e1, e2]
    · rename_i e1 e2; cases hk; have := hb j _ hj; omega
    · rename_i e1 e2; cases hj; have := hb k _ hk; omega
    · exact hT.inj k j b hk hj
  · show (if b = w.heap.size then _ else g.R b) = _
    have hlt : b < w.heap.size := (Array.getElem?_eq_some_iff.1 (hS.res b o (hT.sub b o hb0))).1
    rw [if_neg (by omega)]; exact hT.sub b o hb0

theorem Fr.setL (hS : Sim E.B E.w0 g σ w) (hT : Fr n R0 E.B g loc a act) {k b e : Nat} (hk : loc k = some b) {c c' : Array Value} (hc : g.R b = some (.cells c e (0, 0))) {cs' : List AV} (hr : RVL g cs' c'.toList) (h1 : cs'.all AV.one = true) :
    Fr n R0 E.B (g.setR b (.cells c' e (0, 0))) loc (a.setL k cs') act := by
  have hx := Ghost.leX_setR g b (.cells c' e (0, 0))
  refine ⟨hT.size, hT.marks.turn (fun r hr _ => by
    show (if r = b then _ else g.R r) = _
    rw [if_neg (by rintro rfl; rw [hc] at hr; cases hr)]; exact hr), fun t => (hT.tmp t).mono hx, fun j bj hj => ?_, hT.inj, fun b' o hb => ?_⟩
  · obtain ⟨h2, h3, cj, ej, h4, h5, h6⟩ := hT.cell j bj hj
    by_cases hjk : j = k
    · subst hjk
      rw [hk] at hj; cases hj
      refine ⟨h2, h3, c', e, by simp [Ghost.setR], ?_, ?_⟩
      · show RVL _ (if j = j then cs' else a.l j) _
        rw [if_pos rfl]; exact hr.monoX hx
      · show (if j = j then cs' else a.l j).all AV.one = true
        rw [if_pos rfl]; exact h1
    · have hne : bj ≠ b := fun e => hjk (hT.inj j k b (e ▸ hj) hk)
      refine ⟨h2, h3, cj, ej, ?_, ?_, ?_⟩
      · show (if bj = b then _ else g.R bj) = _
        rw [if_neg hne]; exact h4
      · show RVL _ (if j = k then cs' else a.l j) _
        rw [if_neg hjk]; exact h5.monoX hx
      · show (if j = k then cs' else a.l j).all AV.one = true
        rw [if_neg hjk]; exact h6
  · obtain ⟨_, h3, _⟩ := hT.cell k b hk
    have hne : b' ≠ b := by intro e; subst e; rw [h3] at hb; cases hb
    show (if b' = b then _ else g.R b') = _
    rw [if_neg hne]; exact hT.sub b' o hb

theorem new_step {o : Oper} {Q : Post} {g0 : Ghost} {next : Act → World → Prop} {K : Next'} {ann : Ann} {e : Nat} {cs : List AV} {c : Array Value} {gen : Prop}
    (hH : HOk E H) (hF : FenceOf g rd F) (hG : RelG g E.G) (hS : Sim E.B E.w0 g σ w) (hT : Fr n R0 E.B g loc a act) (ho : dstOk n o = true) (hr : RVL g cs c.toList)
    (hrun : (execOp act.eval o).run E.P w = .ok (.value (.pointer (some ⟨w.heap.size, 0, none⟩))) (w.alloc (.cells c e)))
    (hgen : gen → o.wpIn F 0 E.P act w next (WPost E n R0 g0 Q)) (h : newS ann o cs K gen a σ) (hK : NextOk E n R0 g K next) : o.wpIn F 0 E.P act w next (WPost E n R0 g0 Q) := by
  unfold newS at h
  split at h
  · rename_i d hd
    unfold dstOk at ho
    rw [hd] at ho
    simp at ho
    obtain ⟨h1, h2⟩ := h
    have hnd : ∀ c, o.op ≠ .defer c := by
      intro c hc
      obtain ⟨d1, op, d3, d4, d5, d6⟩ := o
      simp only at hc
      subst hc
      simp only [execOp, Sem.run_bind] at hrun
      generalize (resolve act.eval c d3).run E.P w = r at hrun
      cases r <;> cases hrun
    refine wpIn_eq hF hnd ?_
    rw [hrun]
    show next (act.put o.dst _) _
    rw [hd]
    exact hK _ _ σ _ _ _ (Ghost.leX_setR g _ _) (hS.newLocal _) (hT.newL hS ho hr h1) h2
  · exact hgen h

theorem go_ok {o : Oper} {Q : Post} {g0 : Ghost} {next : Act → World → Prop} {K : Next'} {ann : Ann}
    (hH : HOk E H) (hF : FenceOf g rd F) (hG : RelG g E.G) (hS : Sim E.B E.w0 g σ w) (hT : Fr n R0 E.B g loc a act) (ho : dstOk n o = true)
    (h : goS E H ann o K a σ) (hK : NextOk E n R0 g K next) : o.wpIn F 0 E.P act w next (WPost E n R0 g0 Q) := by
  have hgen : genS E H ann o K a σ → o.wpIn F 0 E.P act w next (WPost E n R0 g0 Q) := fun k => gen_ok hH hF hG hS hT ho k hK
  have R := fun x => tval_ok hG hT x
  -- an address of the frame's own, moved
  have hmv : ∀ {x : Operand} {k off p : Nat}, tval E.G a x = .l k off → ∃ b, loc k = some b ∧ act.eval x = .pointer (some ⟨b, off, none⟩) := fun {x k off p} hx => by
    have := R x; rw [hx] at this; exact this
  unfold goS at h
  obtain ⟨dst, op, type, pos, after, guard⟩ := o
  cases op with
  | alloc e =>
    dsimp only at h
    split at h
    · rename_i z hz
      by_cases hne : av z = .undef
      · unfold newS at h
        split at h
        · rw [hne] at h; simp [AV.cells, AV.one] at h
        · exact hgen h
      · refine new_step (e := e) (c := z.cells) hH hF hG hS hT ho ((av_ok g z).cells hne) ?_ hgen h hK
        simp only [execOp, Instr.alloc, Sem.run_bind, zer_run hz w, Result.andThen_ok]
        rfl
    · exact h.elim
  | box e x =>
    dsimp only at h
    split at h
    · rename_i v hx
      have hv := R x
      rw [hx] at hv
      by_cases hne : v = .undef
      · unfold newS at h
        split at h
        · rw [hne] at h; simp [AV.cells, AV.one] at h
        · exact hgen h
      · exact new_step (e := e) (c := (act.eval x).cells) hH hF hG hS hT ho (RV.cells hv hne) rfl hgen h hK
    · exact h.elim
  | load t x =>
    dsimp only at h
    split at h
    · rename_i k off hx
      split at h
      · rename_i v hv
        obtain ⟨b, hb, he⟩ := hmv (p := 0) hx
        obtain ⟨_, _, c, e, h3, h4, _⟩ := hT.cell k b hb
        have hh := hS.res b _ h3
        obtain ⟨u', h5, h6⟩ := apart_load hv h4 (b := b) (o := 0) (w := w) (fun j hj => by
          have : j < c.size := by simpa using hj
          simp [World.cell?, hh, this])
        rw [Nat.zero_add] at h5
        refine wpIn_eq hF (by intro c h; cases h) ?_
        simp only [execOp, he, Instr.loadAt, Instr.sureAddr, Sem.run_bind, Sem.run_pure, Result.andThen_ok, h5]
        exact hK g _ σ _ w loc (.refl g) hS (hT.put ho (v := .v v) h6) h
      · exact h.elim
    · exact hgen h
  | store t x v =>
    dsimp only at h
    split at h
    · rename_i k off hx
      obtain ⟨h1, h2, h3, h4, h5, h6⟩ := h
      subst h5
      obtain ⟨b, hb, he⟩ := hmv (p := 0) hx
      obtain ⟨hB, hR0, c, e, hc, hrc, hone⟩ := hT.cell k b hb
      have hh := hS.res b _ hc
      have hne : (tval E.G a v).low ≠ .undef := by intro e0; rw [e0] at h1; simp [AV.isUndef] at h1
      have hcv := (RVt.low (R v)).cells hne
      generalize hvv : (tval E.G a v).low = vv at *
      generalize hy : act.eval v = y at *
      have hlen : y.cells.toList.length = vv.cells.length := hcv.1.symm
      have hcl : c.size = (a.l k).length := by simpa using hrc.1.symm
      have hst := run_storeCells_at E.P b off e y.cells.toList 0 c w hh (by rw [hlen]; simp only [Nat.add_zero]; omega) (hcv.one h3)
      simp only [Nat.add_zero] at hst
      have hszr : (sizeOf t).run E.P w = .ok y.cells.size w := by
        have := szT_run h2 w
        rw [this]; congr 1; simpa using hlen.symm
      refine wpIn_eq hF (by intro c h; cases h) ?_
      have hrun : (execOp act.eval { dst := none, op := .store t x v, type := type, pos := pos, after := after, guard := guard }).run E.P w = .ok .skip (w.setRow b (c.toList.take off ++ y.cells.toList ++ c.toList.drop (off + y.cells.toList.length)).toArray) := by
        simp only [execOp, he, hy, Instr.storeAt, Instr.sureAddr, storeVar, Sem.run_bind, Sem.run_pure, Result.andThen_ok, hszr, ne_eq, not_true_eq_false, if_false, hst]
      rw [hrun]
      have hspl := hrc.splice hcv off
      refine hK _ _ σ _ _ loc (Ghost.leX_setR g b _) (hS.setLocal hc hB _) (hT.setL hS hb hc (by simpa using hspl) ?_) h6
      unfold asplice
      rw [List.all_append, List.all_append, h3]
      rw [List.all_eq_true] at hone
      simp only [Bool.and_true, Bool.and_eq_true, List.all_eq_true]
      exact ⟨fun z hz => hone z (List.mem_of_mem_take hz), fun z hz => hone z (List.mem_of_mem_drop hz)⟩
    · exact hgen h
  | fieldAddr s x f =>
    dsimp only at h
    split at h
    · rename_i k off hx
      split at h
      · rename_i t p m hf
        split at h
        · exact h.elim
        · rename_i hm
          obtain ⟨b, hb, he⟩ := hmv (p := 0) hx
          obtain ⟨fs, fd, hu, hfd, rfl, rfl, hz⟩ := fldT_inv hf
          refine wpIn_eq hF (by intro c h; cases h) ?_
          simp only [execOp, he, Instr.fieldAt, Sem.run_bind, run_underlying hu, Result.andThen_ok, hfd, Instr.sureAddr, Sem.run_pure, fieldPlace, szT_run hz w, hm, if_false, add_at]
          exact hK g _ σ _ w loc (.refl g) hS (hT.put ho (v := .l k (off + fd.offset)) ⟨b, hb, rfl⟩) h
      · exact h.elim
    · exact hgen h
  | indexAddr t x i =>
    dsimp only at h
    split at h
    · rename_i k off hx
      split at h
      · rename_i ik j len e hi ha
        split at h
        · rename_i sz hz
          obtain ⟨h1, h2, h3⟩ := h
          obtain ⟨b, hb, he⟩ := hmv (p := 0) hx
          have hiv := R i
          rw [hi] at hiv
          have hie : act.eval i = .int ik j := by
            generalize act.eval i = q at hiv
            cases hiv; rfl
          have hu : E.P.underlying t = some (.array len e) := by
            unfold arrT at ha
            split at ha
            · rename_i n' e' hu; cases ha; exact hu
            · cases ha
          refine wpIn_eq hF (by intro c h; cases h) ?_
          have hcond : (0 ≤ j ∧ j < ((len : Nat) : Int)) := ⟨h1, h2⟩
          simp only [execOp, he, hie, Instr.indexAt, asIntOf, Sem.run_bind, Sem.run_pure, Result.andThen_ok, run_underlying hu, hcond, and_self, if_true, szT_run hz w, Instr.sureAddr, add_at]
          exact hK g _ σ _ w loc (.refl g) hS (hT.put ho (v := .l k (off + j.toNat * sz)) ⟨b, hb, rfl⟩) h3
        · exact h.elim
      · exact h.elim
    · exact hgen h
  | nilCheck x =>
    dsimp only at h
    split at h
    · rename_i k off hx
      obtain ⟨b, hb, he⟩ := hmv (p := 0) hx
      refine wpIn_eq hF (by intro c h; cases h) ?_
      have hrun : (execOp act.eval { dst := dst, op := .nilCheck x, type := type, pos := pos, after := after, guard := guard }).run E.P w = .ok (.value (.pointer (some ⟨b, off, none⟩))) w := by simp only [execOp, he]; rfl
      rw [hrun]
      exact hK g _ σ _ w loc (.refl g) hS (hT.put ho (v := .l k off) ⟨b, hb, rfl⟩) h
    · exact hgen h
  | move x =>
    dsimp only at h
    split at h
    · rename_i k off hx
      obtain ⟨b, hb, he⟩ := hmv (p := 0) hx
      refine wpIn_eq hF (by intro c h; cases h) ?_
      have hrun : (execOp act.eval { dst := dst, op := .move x, type := type, pos := pos, after := after, guard := guard }).run E.P w = .ok (.value (.pointer (some ⟨b, off, none⟩))) w := by simp only [execOp, he]; rfl
      rw [hrun]
      exact hK g _ σ _ w loc (.refl g) hS (hT.put ho (v := .l k off) ⟨b, hb, rfl⟩) h
    · exact hgen h
  | assign x =>
    dsimp only at h
    split at h
    · rename_i k off hx
      obtain ⟨b, hb, he⟩ := hmv (p := 0) hx
      refine wpIn_eq hF (by intro c h; cases h) ?_
      have hrun : (execOp act.eval { dst := dst, op := .assign x, type := type, pos := pos, after := after, guard := guard }).run E.P w = .ok (.value (.pointer (some ⟨b, off, none⟩))) w := by simp only [execOp, he]; rfl
      rw [hrun]
      exact hK g _ σ _ w loc (.refl g) hS (hT.put ho (v := .l k off) ⟨b, hb, rfl⟩) h
    · exact hgen h
  | _ => exact hgen h

end
end Go.V
