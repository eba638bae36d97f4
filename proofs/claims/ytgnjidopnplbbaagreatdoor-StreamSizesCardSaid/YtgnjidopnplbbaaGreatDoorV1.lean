/- The V-model, part 1: abstract values, states and their relation to the machine's worlds. No program in sight. -/
import Derived.Below
import Derived.Orders
import Derived.Laws.AppendOwn
import Derived.Laws.MakeOwn
import Derived.Laws.CopyRow
set_option linter.unusedSimpArgs false
set_option linter.unusedVariables false
namespace Go.V
open Go.RowKit

/-- What is known of a slice: nothing (it may be nil, if it is empty); that it is not nil; that its capacity is its length; that it may grow (the object id is its right to do so). -/
inductive Cap where
  | any | nn | full | tok (id : Nat)
  deriving DecidableEq, Inhabited

/-- Abstract values. 'slice' and 'vptr' are VALUES: memory that is never written again. -/
inductive AV where
  | undef
  | bool (b : Bool) | int (k : IntKind) (n : Int) | str (s : ByteArray)
  | nilptr | ptr (id off : Nat) | vptr (cs : List AV)
  | nilslice | slice (sz : Nat) (xs : List AV) (m : Cap) | rslice (id off len : Nat) | view (id off len : Nat)
  | nilmap | map (id : Nat)
  | nilfunc | func (fn : Fn) (first captured : List AV) | yield (id : Nat)
  | niliface | iface (t : Nat) (v : AV)
  | agg (cs : List AV) | tuple (vs : List AV)
  deriving Inhabited

def AV.cells : AV → List AV
  | .agg cs => cs
  | v => [v]

/-- A value of one cell. -/
def AV.one : AV → Bool
  | .agg _ | .tuple _ | .undef => false
  | _ => true

def flat (xs : List AV) : List AV := xs.flatMap AV.cells

structure Info where
  blk : Nat
  tot : Nat
  sz : Nat

/-- What is fixed for ever: the frozen cells, and where objects lie; and the blocks that are left alone for now. -/
structure Ghost where
  F : Nat → Nat → Option Value
  info : Nat → Option Info
  R : Nat → Option Obj

structure Ghost.LeX (g g' : Ghost) : Prop where
  F : ∀ b o v, g.F b o = some v → g'.F b o = some v
  info : ∀ id i, g.info id = some i → g'.info id = some i
structure Ghost.Le (g g' : Ghost) : Prop where
  F : ∀ b o v, g.F b o = some v → g'.F b o = some v
  info : ∀ id i, g.info id = some i → g'.info id = some i
  R : g'.R = g.R
theorem Ghost.Le.x {g g' : Ghost} (h : g.Le g') : g.LeX g' := ⟨h.F, h.info⟩
theorem Ghost.LeX.refl (g : Ghost) : g.LeX g := ⟨fun _ _ _ h => h, fun _ _ h => h⟩
theorem Ghost.LeX.trans {a b c : Ghost} (h : a.LeX b) (k : b.LeX c) : a.LeX c := ⟨fun _ _ _ x => k.F _ _ _ (h.F _ _ _ x), fun _ _ x => k.info _ _ (h.info _ _ x)⟩

theorem Ghost.Le.refl (g : Ghost) : g.Le g := ⟨fun _ _ _ h => h, fun _ _ h => h, rfl⟩
theorem Ghost.Le.trans {a b c : Ghost} (h : a.Le b) (k : b.Le c) : a.Le c := ⟨fun _ _ _ x => k.F _ _ _ (h.F _ _ _ x), fun _ _ x => k.info _ _ (h.info _ _ x), k.R.trans h.R⟩

def capOk (g : Ghost) (m : Cap) (a : Addr) (len cap sz : Nat) : Prop :=
  match m with
  | .any => True
  | .nn => True
  | .full => cap = len
  | .tok id => ∃ i, g.info id = some i ∧ (a = ⟨i.blk, 0, none⟩ ∨ cap = 0) ∧ cap = i.tot ∧ sz = i.sz

/-- An abstract value is what a machine's value is. -/
inductive RV (g : Ghost) : AV → Value → Prop where
  | undef (v : Value) : RV g .undef v
  | bool (b : Bool) : RV g (.bool b) (.bool b)
  | int (k : IntKind) (n : Int) : RV g (.int k n) (.int k n)
  | str (s : ByteArray) : RV g (.str s) (.string s)
  | nilptr : RV g .nilptr (.pointer none)
  | ptr (id off : Nat) (i : Info) (h : g.info id = some i) : RV g (.ptr id off) (.pointer (some ⟨i.blk, off, none⟩))
  | vptr (cs : List AV) (b o : Nat) (vs : List Value) (hl : cs.length = vs.length) (hF : ∀ i (h : i < vs.length), g.F b (o + i) = some vs[i])
      (hr : ∀ i (h : i < cs.length) (h' : i < vs.length), RV g cs[i] vs[i]) : RV g (.vptr cs) (.pointer (some ⟨b, o, none⟩))
  | nilslice : RV g .nilslice (.slice none 0 0)
  | slice (sz : Nat) (xs : List AV) (m : Cap) (a : Addr) (cap : Nat) (vs : List Value) (hsz : ∀ x ∈ xs, x.cells.length = sz) (hl : (flat xs).length = vs.length)
      (hsp : 0 < vs.length → a.spot = none) (hF : ∀ i (h : i < vs.length), g.F a.block (a.off + i) = some vs[i]) (h1 : (flat xs).all AV.one = true)
      (hr : ∀ i (h : i < (flat xs).length) (h' : i < vs.length), RV g (flat xs)[i] vs[i]) (hcap : xs.length ≤ cap) (hm : capOk g m a xs.length cap sz) :
      RV g (.slice sz xs m) (.slice (some a) xs.length cap)
  | nilany (sz : Nat) : RV g (.slice sz [] .any) (.slice none 0 0)
  | rslice (id off len : Nat) (i : Info) (a : Addr) (cap : Nat) (h : g.info id = some i) (ha : a = ⟨i.blk, off * i.sz, none⟩ ∨ cap = 0) (hc : off + cap = i.tot) (hlen : len ≤ cap) :
      RV g (.rslice id off len) (.slice (some a) len cap)
  | view (id off len : Nat) (i : Info) (a : Addr) (cap : Nat) (h : g.info id = some i) (ha : a = ⟨i.blk, off * i.sz, none⟩ ∨ cap = 0) (hc : off + cap ≤ i.tot) (hlen : len ≤ cap) :
      RV g (.view id off len) (.slice (some a) len cap)
  | nilmap : RV g .nilmap (.map none)
  | map (id : Nat) (i : Info) (h : g.info id = some i) : RV g (.map id) (.map (some i.blk))
  | nilfunc : RV g .nilfunc .nilFunc
  | func (fn : Fn) (first captured : List AV) (fs cs : Array Value) (hfl : first.length = fs.size) (hcl : captured.length = cs.size)
      (hf : ∀ i (h : i < first.length) (h' : i < fs.size), RV g first[i] fs[i]) (hc : ∀ i (h : i < captured.length) (h' : i < cs.size), RV g captured[i] cs[i]) :
      RV g (.func fn first captured) (.func fn fs cs)
  | yield (id : Nat) (i : Info) (h : g.info id = some i) : RV g (.yield id) (.func (.yield i.blk) #[] #[])
  | niliface : RV g .niliface .nilIface
  | iface (t : Nat) (v : AV) (u : Value) (h : RV g v u) : RV g (.iface t v) (.iface t u)
  | agg (cs : List AV) (vs : Array Value) (hl : cs.length = vs.size) (hr : ∀ i (h : i < cs.length) (h' : i < vs.size), RV g cs[i] vs[i]) : RV g (.agg cs) (.agg vs)
  | tuple (cs : List AV) (vs : Array Value) (hl : cs.length = vs.size) (hr : ∀ i (h : i < cs.length) (h' : i < vs.size), RV g cs[i] vs[i]) : RV g (.tuple cs) (.tuple vs)

def RVL (g : Ghost) (cs : List AV) (vs : List Value) : Prop := cs.length = vs.length ∧ ∀ i (h : i < cs.length) (h' : i < vs.length), RV g cs[i] vs[i]

theorem capOk.monoX {g g' : Ghost} (h : g.LeX g') {m : Cap} {a : Addr} {len cap sz : Nat} (hm : capOk g m a len cap sz) : capOk g' m a len cap sz := by
  cases m with
  | any => exact hm
  | nn => exact hm
  | full => exact hm
  | tok id => obtain ⟨i, hi, r⟩ := hm; exact ⟨i, h.info _ _ hi, r⟩

theorem RV.monoX {g g' : Ghost} (h : g.LeX g') {a : AV} {v : Value} (r : RV g a v) : RV g' a v := by
  induction r with
  | undef v => exact .undef v
  | bool b => exact .bool b
  | int k n => exact .int k n
  | str s => exact .str s
  | nilptr => exact .nilptr
  | ptr id off i hi => exact .ptr id off i (h.info _ _ hi)
  | vptr cs b o vs hl hF hr ih => exact .vptr cs b o vs hl (fun i hi => h.F _ _ _ (hF i hi)) ih
  | nilslice => exact .nilslice
  | slice sz xs m a cap vs hsz hl hsp hF h1 hr hcap hm ih => exact .slice sz xs m a cap vs hsz hl hsp (fun i hi => h.F _ _ _ (hF i hi)) h1 ih hcap (hm.monoX h)
  | nilany sz => exact .nilany sz
  | rslice id off len i a cap hi ha hc hlen => exact .rslice id off len i a cap (h.info _ _ hi) ha hc hlen
  | view id off len i a cap hi ha hc hlen => exact .view id off len i a cap (h.info _ _ hi) ha hc hlen
  | nilmap => exact .nilmap
  | map id i hi => exact .map id i (h.info _ _ hi)
  | nilfunc => exact .nilfunc
  | func fn first captured fs cs hfl hcl hf hc ihf ihc => exact .func fn first captured fs cs hfl hcl ihf ihc
  | yield id i hi => exact .yield id i (h.info _ _ hi)
  | niliface => exact .niliface
  | iface t v u hr ih => exact .iface t v u ih
  | agg cs vs hl hr ih => exact .agg cs vs hl ih
  | tuple cs vs hl hr ih => exact .tuple cs vs hl ih

theorem RV.mono {g g' : Ghost} (h : g.Le g') {a : AV} {v : Value} (r : RV g a v) : RV g' a v := r.monoX h.x
theorem RVL.monoX {g g' : Ghost} (h : g.LeX g') {a : List AV} {v : List Value} (r : RVL g a v) : RVL g' a v := ⟨r.1, fun i h1 h2 => (r.2 i h1 h2).monoX h⟩
theorem RVL.mono {g g' : Ghost} (h : g.Le g') {a : List AV} {v : List Value} (r : RVL g a v) : RVL g' a v := r.monoX h.x
theorem RVL.nil (g : Ghost) : RVL g [] [] := ⟨rfl, fun i h => by simp at h⟩
theorem RVL.cons {g : Ghost} {a : AV} {v : Value} {as : List AV} {vs : List Value} (h : RV g a v) (hs : RVL g as vs) : RVL g (a :: as) (v :: vs) :=
  ⟨by simp [hs.1], fun i h1 h2 => by
    cases i with
    | zero => exact h
    | succ i => exact hs.2 i (by simpa using h1) (by simpa using h2)⟩
theorem RVL.cons_inv {g : Ghost} {a : AV} {as : List AV} {vs : List Value} (h : RVL g (a :: as) vs) : ∃ v vs', vs = v :: vs' ∧ RV g a v ∧ RVL g as vs' := by
  obtain ⟨hl, hr⟩ := h
  cases vs with
  | nil => simp at hl
  | cons v vs' =>
    refine ⟨v, vs', rfl, hr 0 (by simp) (by simp), by simpa using hl, fun i h1 h2 => ?_⟩
    exact hr (i + 1) (by simpa using h1) (by simpa using h2)
theorem RVL.nil_inv {g : Ghost} {vs : List Value} (h : RVL g [] vs) : vs = [] := by
  cases vs with
  | nil => rfl
  | cons v vs => simp [RVL] at h
theorem RVL.append {g : Ghost} {as bs : List AV} {us vs : List Value} (h : RVL g as us) (k : RVL g bs vs) : RVL g (as ++ bs) (us ++ vs) := by
  induction as generalizing us with
  | nil => have := h.nil_inv; subst this; exact k
  | cons a as ih => obtain ⟨v, vs', rfl, h1, h2⟩ := h.cons_inv; exact .cons h1 (ih h2)
theorem RVL.take {g : Ghost} {as : List AV} {us : List Value} (h : RVL g as us) (n : Nat) : RVL g (as.take n) (us.take n) :=
  ⟨by simp [h.1], fun i h1 h2 => by simp only [List.getElem_take]; exact h.2 i (by simp at h1; omega) (by simp at h2; omega)⟩
theorem RVL.drop {g : Ghost} {as : List AV} {us : List Value} (h : RVL g as us) (n : Nat) : RVL g (as.drop n) (us.drop n) :=
  ⟨by simp [h.1], fun i h1 h2 => by simp only [List.getElem_drop]; exact h.2 (n + i) (by simp at h1; omega) (by simp at h2; omega)⟩
theorem RVL.get {g : Ghost} {as : List AV} {us : List Value} (h : RVL g as us) {i : Nat} {a : AV} (ha : as[i]? = some a) : ∃ u, us[i]? = some u ∧ RV g a u := by
  obtain ⟨hi, rfl⟩ := List.getElem?_eq_some_iff.1 ha
  have hi' : i < us.length := by rw [← h.1]; exact hi
  exact ⟨us[i], List.getElem?_eq_getElem hi', h.2 i hi hi'⟩
theorem RVL.getU {g : Ghost} {as : List AV} {us : List Value} (h : RVL g as us) {i : Nat} {u : Value} (hu : us[i]? = some u) : ∃ a, as[i]? = some a ∧ RV g a u := by
  obtain ⟨hi, rfl⟩ := List.getElem?_eq_some_iff.1 hu
  have hi' : i < as.length := by rw [h.1]; exact hi
  exact ⟨as[i], List.getElem?_eq_getElem hi', h.2 i hi' hi⟩
theorem RVL.replicate {g : Ghost} {a : AV} {u : Value} (h : RV g a u) (n : Nat) : RVL g (List.replicate n a) (List.replicate n u) :=
  ⟨by simp, fun i h1 h2 => by simpa using h⟩
theorem RVL.flatRep {g : Ghost} {as : List AV} {us : List Value} (h : RVL g as us) (n : Nat) : RVL g (List.replicate n as).flatten (List.replicate n us).flatten := by
  induction n with
  | zero => exact RVL.nil g
  | succ n ih => simp only [List.replicate_succ, List.flatten_cons]; exact h.append ih

theorem RV.one {g : Ghost} {a : AV} {v : Value} (h : RV g a v) (ha : a.one = true) : v.oneCell' = true := by
  cases h <;> first | rfl | (simp [AV.one] at ha; done)
theorem RVL.one {g : Ghost} {as : List AV} {us : List Value} (h : RVL g as us) (ha : as.all AV.one = true) : ∀ u ∈ us, u.oneCell' = true := by
  intro u hu
  obtain ⟨i, hi, rfl⟩ := List.getElem_of_mem hu
  have hi' : i < as.length := by rw [h.1]; exact hi
  exact (h.2 i hi' hi).one (List.all_eq_true.1 ha _ (List.getElem_mem hi'))

theorem RV.cells {g : Ghost} {a : AV} {v : Value} (h : RV g a v) (ha : a ≠ .undef) : RVL g a.cells v.cells.toList := by
  cases h with
  | agg cs vs hl hr =>
    refine ⟨by simpa [AV.cells, Value.cells] using hl, fun i h1 h2 => ?_⟩
    have h3 : i < vs.size := by simpa [Value.cells] using h2
    have := hr i h1 h3
    show RV g cs[i] vs.toList[i]
    rw [Array.getElem_toList]; exact this
  | undef v => exact absurd rfl ha
  | ptr id off i hi => exact .cons (.ptr id off i hi) (.nil g)
  | vptr cs b o vs hl hF hr => exact .cons (.vptr cs b o vs hl hF hr) (.nil g)
  | slice sz xs m a cap vs hsz hl hsp hF h1 hr hcap hm => exact .cons (.slice sz xs m a cap vs hsz hl hsp hF h1 hr hcap hm) (.nil g)
  | nilany sz => exact .cons (.nilany sz) (.nil g)
  | rslice id off len i a cap hi h1 h2 h3 => exact .cons (.rslice id off len i a cap hi h1 h2 h3) (.nil g)
  | view id off len i a cap hi h1 h2 h3 => exact .cons (.view id off len i a cap hi h1 h2 h3) (.nil g)
  | map id i hi => exact .cons (.map id i hi) (.nil g)
  | func fn first captured fs cs hfl hcl hf hc => exact .cons (.func fn first captured fs cs hfl hcl hf hc) (.nil g)
  | yield id i hi => exact .cons (.yield id i hi) (.nil g)
  | iface t v u hr => exact .cons (.iface t v u hr) (.nil g)
  | tuple cs vs hl hr => exact .cons (.tuple cs vs hl hr) (.nil g)
  | bool b => exact .cons (.bool b) (.nil g)
  | int k n => exact .cons (.int k n) (.nil g)
  | str s => exact .cons (.str s) (.nil g)
  | nilptr => exact .cons .nilptr (.nil g)
  | nilslice => exact .cons .nilslice (.nil g)
  | nilmap => exact .cons .nilmap (.nil g)
  | nilfunc => exact .cons .nilfunc (.nil g)
  | niliface => exact .cons .niliface (.nil g)

/-- The record of a loop over a function: its frame's temporaries, its code, how far it is. -/
structure ALoop where
  n : Nat
  tm : Nat → AV
  ps : List Nat
  assign : Code
  body : Code
  st : LoopState
  pend : Option Code
  own : Nat
  deriving Inhabited

/-- Objects that can be changed. -/
inductive AObj where
  | dead
  | cells (cs : List AV) (e sz : Nat) (grow : Bool)
  | tok (n : Nat) (e sz : Nat)
  | map (es : List (AV × AV))
  | siter (s : ByteArray) (pos : Nat)
  | loop (l : ALoop)
  | cmap (es : List (AV × AV))
  deriving Inhabited

structure State where
  objs : Nat → AObj
  next : Nat

def State.set (σ : State) (id : Nat) (o : AObj) : State := { σ with objs := fun j => if j = id then o else σ.objs j }
def State.new (σ : State) (o : AObj) : State := { objs := fun j => if j = σ.next then o else σ.objs j, next := σ.next + 1 }

def ObjOk (B : Nat) (g : Ghost) (w : World) (id : Nat) : AObj → Prop
  | .dead => True
  | .cells cs e sz grow => ∃ i c, g.info id = some i ∧ i.sz = sz ∧ B ≤ i.blk ∧ w.heap[i.blk]? = some (.cells c e (0, 0)) ∧ cs.length ≤ c.size ∧ (grow = false → cs.length = c.size) ∧ c.size = i.tot * i.sz ∧ i.tot ≤ maxLen ∧
      RVL g cs (c.toList.take cs.length) ∧ cs.all AV.one = true ∧ ∀ o, g.F i.blk o = none
  | .tok n e sz => ∃ i c, g.info id = some i ∧ i.sz = sz ∧ B ≤ i.blk ∧ w.heap[i.blk]? = some (.cells c e (0, 0)) ∧ n ≤ i.tot ∧ c.size = i.tot * i.sz ∧ i.tot ≤ maxLen ∧ ∀ o, n * i.sz ≤ o → g.F i.blk o = none
  | .map es => ∃ i ms clock, g.info id = some i ∧ B ≤ i.blk ∧ w.heap[i.blk]? = some (.map ms clock) ∧ es.length = ms.size ∧
      ∀ k (h : k < es.length) (h' : k < ms.size), RV g (es[k]).1 (ms[k]).key ∧ RV g (es[k]).2 (ms[k]).val
  | .siter s pos => ∃ i, g.info id = some i ∧ B ≤ i.blk ∧ w.heap[i.blk]? = some (.stringIter s pos)
  | .loop l => ∃ i r, g.info id = some i ∧ B ≤ i.blk ∧ w.heap[i.blk]? = some (.loop r) ∧ r.tmps.size = l.n ∧ (∀ t, RV g (l.tm t) (r.tmps.getD t undef)) ∧ r.params.toList = l.ps ∧
      r.assign = l.assign ∧ r.body = l.body ∧ r.state = l.st ∧ r.pending = l.pend
  | .cmap es => ∃ i ms clock, ∃ es' : List (AV × AV), g.info id = some i ∧ B ≤ i.blk ∧ w.heap[i.blk]? = some (.map ms clock) ∧ es'.length = ms.size ∧
      (∀ k (h : k < es'.length) (h' : k < ms.size), RV g (es'[k]).1 (ms[k]).key ∧ RV g (es'[k]).2 (ms[k]).val) ∧ es'.Perm es

structure Sim (B : Nat) (w0 : World) (g : Ghost) (σ : State) (w : World) : Prop where
  below : Below B w0 w
  size : B ≤ w.heap.size
  froz : ∀ b o v, g.F b o = some v → w.cell? ⟨b, o, none⟩ = some v
  objs : ∀ id, ObjOk B g w id (σ.objs id)
  inj : ∀ i j pi pj, g.info i = some pi → g.info j = some pj → σ.objs i ≠ .dead → σ.objs j ≠ .dead → i ≠ j → pi.blk ≠ pj.blk
  next : ∀ id, σ.next ≤ id → g.info id = none ∧ σ.objs id = .dead
  res : ∀ b x, g.R b = some x → w.heap[b]? = some x
  resF : ∀ b o x, g.R b = some x → g.F b o = none
  resO : ∀ id i, σ.objs id ≠ .dead → g.info id = some i → g.R i.blk = none

theorem Sim.live {B : Nat} {w0 : World} {g : Ghost} {σ : State} {w : World} (h : Sim B w0 g σ w) {id : Nat} (hd : σ.objs id ≠ .dead) : id < σ.next := by
  rcases Nat.lt_or_ge id σ.next with h1 | h1
  · exact h1
  · exact absurd (h.next id h1).2 hd

/-- An object that is not dead lies in the heap, at a block of its own. -/
theorem ObjOk.blk {B : Nat} {g : Ghost} {w : World} {id : Nat} {o : AObj} (h : ObjOk B g w id o) (hd : o ≠ .dead) : ∃ i, g.info id = some i ∧ B ≤ i.blk ∧ i.blk < w.heap.size := by
  cases o with
  | dead => exact absurd rfl hd
  | cells cs e sz grow => obtain ⟨i, c, h1, _, h2, h3, _⟩ := h; exact ⟨i, h1, h2, (Array.getElem?_eq_some_iff.1 h3).1⟩
  | tok n e sz => obtain ⟨i, c, h1, _, h2, h3, _⟩ := h; exact ⟨i, h1, h2, (Array.getElem?_eq_some_iff.1 h3).1⟩
  | map es => obtain ⟨i, ms, cl, h1, h2, h3, _⟩ := h; exact ⟨i, h1, h2, (Array.getElem?_eq_some_iff.1 h3).1⟩
  | siter s pos => obtain ⟨i, h1, h2, h3⟩ := h; exact ⟨i, h1, h2, (Array.getElem?_eq_some_iff.1 h3).1⟩
  | loop l => obtain ⟨i, r, h1, h2, h3, _⟩ := h; exact ⟨i, h1, h2, (Array.getElem?_eq_some_iff.1 h3).1⟩
  | cmap es => obtain ⟨i, ms, cl, es', h1, h2, h3, _⟩ := h; exact ⟨i, h1, h2, (Array.getElem?_eq_some_iff.1 h3).1⟩

/-- An object stays as it is where its block does, the frozen cells of its block with it. -/
theorem ObjOk.keep {B : Nat} {g g' : Ghost} {w w' : World} {id : Nat} {o : AObj} (h : ObjOk B g w id o) (hle : g.Le g')
    (hb : ∀ i, g.info id = some i → w'.heap[i.blk]? = w.heap[i.blk]?) (hF : ∀ i b, g.info id = some i → o ≠ .dead → g'.F i.blk b = g.F i.blk b) : ObjOk B g' w' id o := by
  cases o with
  | dead => trivial
  | cells cs e sz grow =>
    obtain ⟨i, c, h1, hs, h2, h3, h4, h5, h6, h7, h8, h9, h10⟩ := h
    exact ⟨i, c, hle.info _ _ h1, hs, h2, by rw [hb i h1, h3], h4, h5, h6, h7, h8.mono hle, h9, fun o => by rw [hF i o h1 (by simp)]; exact h10 o⟩
  | tok n e sz =>
    obtain ⟨i, c, h1, hs, h2, h3, h4, h5, h6, h7⟩ := h
    exact ⟨i, c, hle.info _ _ h1, hs, h2, by rw [hb i h1, h3], h4, h5, h6, fun o ho => by rw [hF i o h1 (by simp)]; exact h7 o ho⟩
  | map es =>
    obtain ⟨i, ms, cl, h1, h2, h3, h4, h5⟩ := h
    exact ⟨i, ms, cl, hle.info _ _ h1, h2, by rw [hb i h1, h3], h4, fun k hk hk' => ⟨(h5 k hk hk').1.mono hle, (h5 k hk hk').2.mono hle⟩⟩
  | siter s pos =>
    obtain ⟨i, h1, h2, h3⟩ := h
    exact ⟨i, hle.info _ _ h1, h2, by rw [hb i h1, h3]⟩
  | loop l =>
    obtain ⟨i, r, h1, h2, h3, h4, h5, h6⟩ := h
    exact ⟨i, r, hle.info _ _ h1, h2, by rw [hb i h1, h3], h4, fun t => (h5 t).mono hle, h6⟩
  | cmap es =>
    obtain ⟨i, ms, cl, es', h1, h2, h3, h4, h5, h6⟩ := h
    exact ⟨i, ms, cl, es', hle.info _ _ h1, h2, by rw [hb i h1, h3], h4, fun k hk hk' => ⟨(h5 k hk hk').1.mono hle, (h5 k hk hk').2.mono hle⟩, h6⟩

/-- Objects can be forgotten. -/
structure State.Le (σ' σ : State) : Prop where
  next : σ'.next = σ.next
  objs : ∀ id, σ'.objs id = σ.objs id ∨ σ'.objs id = .dead

theorem State.Le.refl (σ : State) : σ.Le σ := ⟨rfl, fun _ => .inl rfl⟩

theorem Sim.forget {B : Nat} {w0 : World} {g : Ghost} {σ σ' : State} {w : World} (h : Sim B w0 g σ w) (hl : σ'.Le σ) : Sim B w0 g σ' w where
  below := h.below
  size := h.size
  froz := h.froz
  objs id := by
    rcases hl.objs id with e | e
    · rw [e]; exact h.objs id
    · rw [e]; trivial
  inj i j pi pj h1 h2 h3 h4 h5 := by
    refine h.inj i j pi pj h1 h2 ?_ ?_ h5
    · rcases hl.objs i with e | e
      · rwa [e] at h3
      · exact absurd e h3
    · rcases hl.objs j with e | e
      · rwa [e] at h4
      · exact absurd e h4
  next id hid := by
    rw [hl.next] at hid
    refine ⟨(h.next id hid).1, ?_⟩
    rcases hl.objs id with e | e
    · rw [e]; exact (h.next id hid).2
    · exact e
  res := h.res
  resF := h.resF
  resO id i h1 h2 := h.resO id i (by
    rcases hl.objs id with e | e
    · rwa [e] at h1
    · exact absurd e h1) h2

end Go.V
