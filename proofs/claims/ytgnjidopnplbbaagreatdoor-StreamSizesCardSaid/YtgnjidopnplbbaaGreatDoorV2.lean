/- The V-model, part 2: how the relation is kept when one block turns, or a new one comes. -/
import Derived.Test.YtgnjidopnplbbaaGreatDoorV1
set_option linter.unusedSimpArgs false
set_option linter.unusedVariables false
namespace Go.V
open Go.RowKit

def Ghost.add (g : Ghost) (id : Nat) (i : Info) : Ghost := { g with info := fun j => if j = id then some i else g.info j }
def Ghost.frz (g : Ghost) (b : Nat) (vs : List Value) : Ghost := { g with F := fun b' o => if b' = b then vs[o]? else g.F b' o }

theorem Ghost.le_add {g : Ghost} {id : Nat} (h : g.info id = none) (i : Info) : g.Le (g.add id i) :=
  ⟨fun _ _ _ h => h, fun j x hj => by
    show (if j = id then some i else g.info j) = some x
    split
    · rename_i e; subst e; rw [h] at hj; cases hj
    · exact hj, rfl⟩
theorem Ghost.le_frz {g : Ghost} {b : Nat} {vs : List Value} (h : ∀ o v, g.F b o = some v → vs[o]? = some v) : g.Le (g.frz b vs) :=
  ⟨fun b' o v hv => by
    show (if b' = b then vs[o]? else g.F b' o) = some v
    split
    · rename_i e; subst e; exact h o v hv
    · exact hv, fun _ _ h => h, rfl⟩
@[simp] theorem Ghost.add_info (g : Ghost) (id : Nat) (i : Info) : (g.add id i).info id = some i := by simp [Ghost.add]
@[simp] theorem Ghost.frz_info (g : Ghost) (b : Nat) (vs : List Value) (id : Nat) : (g.frz b vs).info id = g.info id := rfl
@[simp] theorem Ghost.add_F (g : Ghost) (id : Nat) (i : Info) (b o : Nat) : (g.add id i).F b o = g.F b o := rfl
@[simp] theorem Ghost.frz_F (g : Ghost) (b : Nat) (vs : List Value) (o : Nat) : (g.frz b vs).F b o = vs[o]? := by simp [Ghost.frz]
theorem Ghost.frz_F_ne (g : Ghost) {b b' : Nat} (vs : List Value) (o : Nat) (h : b' ≠ b) : (g.frz b vs).F b' o = g.F b' o := by simp [Ghost.frz, h]

theorem Sim.F_lt {B : Nat} {w0 : World} {g : Ghost} {σ : State} {w : World} (h : Sim B w0 g σ w) {b o : Nat} {v : Value} (hv : g.F b o = some v) : b < w.heap.size :=
  World.block_lt_of_cell? w ⟨b, o, none⟩ (h.froz b o v hv)
theorem Sim.F_new {B : Nat} {w0 : World} {g : Ghost} {σ : State} {w : World} (h : Sim B w0 g σ w) (o : Nat) : g.F w.heap.size o = none := by
  cases hv : g.F w.heap.size o with
  | none => rfl
  | some v => exact absurd (h.F_lt hv) (Nat.lt_irrefl _)

theorem Sim.R_new {B : Nat} {w0 : World} {g : Ghost} {σ : State} {w : World} (h : Sim B w0 g σ w) : g.R w.heap.size = none := by
  cases hv : g.R w.heap.size with
  | none => rfl
  | some x => exact absurd (Array.getElem?_eq_some_iff.1 (h.res _ _ hv)).1 (Nat.lt_irrefl _)

/-- One block r has turned, or has come. -/
theorem Sim.turn {B : Nat} {w0 : World} {g g' : Ghost} {σ σ' : State} {w w' : World} (h : Sim B w0 g σ w) (r : Nat) (ch : Nat → Prop)
    (hle : g.Le g') (hRr : g.R r = none) (hBr : B ≤ r) (hos : w'.os = w.os) (htape : w'.tape = w.tape) (hout : w'.output = w.output) (hsize : w.heap.size ≤ w'.heap.size)
    (hw : ∀ b, b ≠ r → b < w.heap.size → w'.heap[b]? = w.heap[b]?)
    (hF : ∀ b o, b ≠ r → g'.F b o = g.F b o) (hFr : ∀ o v, g'.F r o = some v → w'.cell? ⟨r, o, none⟩ = some v)
    (hch : ∀ id, ¬ ch id → σ'.objs id = σ.objs id ∧ (σ.objs id ≠ .dead → ∀ i, g.info id = some i → i.blk ≠ r))
    (hok : ∀ id, ch id → ObjOk B g' w' id (σ'.objs id))
    (hone : ∀ i j, ch i → ch j → σ'.objs i ≠ .dead → σ'.objs j ≠ .dead → i = j)
    (hblk : ∀ id i, ch id → σ'.objs id ≠ .dead → g'.info id = some i → i.blk = r)
    (hnext : ∀ id, σ'.next ≤ id → g'.info id = none ∧ σ'.objs id = .dead) : Sim B w0 g' σ' w' := by
  have hbw : Below B w w' := ⟨hos, htape, hout, hsize, fun k hk => hw k (by omega) (by have := h.size; omega)⟩
  have old : ∀ id, ¬ ch id → σ'.objs id ≠ .dead → ∀ i, g'.info id = some i → g.info id = some i ∧ i.blk ≠ r := by
    intro id hc hd i hi
    obtain ⟨e, hb⟩ := hch id hc
    have hd' : σ.objs id ≠ .dead := by rwa [e] at hd
    obtain ⟨i', hi', _, _⟩ := (h.objs id).blk hd'
    have := hle.info _ _ hi'
    rw [hi] at this
    cases this
    exact ⟨hi', hb hd' i hi'⟩
  have hres : ∀ b x, g.R b = some x → b ≠ r ∧ b < w.heap.size := fun b x hb => ⟨(fun e => by subst e; rw [hRr] at hb; cases hb), (Array.getElem?_eq_some_iff.1 (h.res b x hb)).1⟩
  refine ⟨h.below.trans hbw, by have := h.size; omega, ?_, ?_, ?_, hnext, ?_, ?_, ?_⟩
  · intro b o v hv
    by_cases hb : b = r
    · subst hb; exact hFr o v hv
    · rw [hF b o hb] at hv
      have hlt := h.F_lt hv
      rw [World.cell?_of_block (w := w) (w' := w') (a := ⟨b, o, none⟩) (hw b hb hlt)]
      exact h.froz b o v hv
  · intro id
    by_cases hc : ch id
    · exact hok id hc
    · obtain ⟨e, hb⟩ := hch id hc
      rw [e]
      by_cases hd : σ.objs id = .dead
      · rw [hd]; trivial
      · obtain ⟨i', hi', _, hlt⟩ := (h.objs id).blk hd
        refine (h.objs id).keep hle (fun i hi => ?_) (fun i b hi _ => ?_)
        · rw [hi'] at hi; cases hi; exact hw _ (hb hd _ hi') hlt
        · rw [hi'] at hi; cases hi; exact hF _ _ (hb hd _ hi')
  · intro i j pi pj h1 h2 h3 h4 h5
    by_cases hi : ch i
    · by_cases hj : ch j
      · exact absurd (hone i j hi hj h3 h4) h5
      · rw [hblk i pi hi h3 h1]; exact fun e => (old j hj h4 pj h2).2 e.symm
    · by_cases hj : ch j
      · rw [hblk j pj hj h4 h2]; exact (old i hi h3 pi h1).2
      · have e1 := (hch i hi).1; have e2 := (hch j hj).1
        rw [e1] at h3; rw [e2] at h4
        exact h.inj i j pi pj (old i hi (by rwa [e1]) pi h1).1 (old j hj (by rwa [e2]) pj h2).1 h3 h4 h5
  · intro b x hb
    rw [hle.R] at hb
    obtain ⟨h1, h2⟩ := hres b x hb
    rw [hw b h1 h2]; exact h.res b x hb
  · intro b o x hb
    rw [hle.R] at hb
    rw [hF b o (hres b x hb).1]; exact h.resF b o x hb
  · intro id i h1 h2
    rw [hle.R]
    by_cases hi : ch id
    · rw [hblk id i hi h1 h2]; exact hRr
    · have e1 := (hch id hi).1
      have := old id hi h1 i h2
      rw [e1] at h1
      exact h.resO id i h1 this.1

theorem Sim.drew {B : Nat} {w0 : World} {g : Ghost} {σ : State} {w : World} (h : Sim B w0 g σ w) : Sim B w0 g σ w.drew :=
  ⟨h.below.drew, h.size, h.froz, fun id => (h.objs id).keep (.refl g) (fun _ _ => rfl) (fun _ _ _ _ => rfl), h.inj, h.next, h.res, h.resF, h.resO⟩

theorem heap_new (w : World) (o : Obj) : (w.alloc o).heap[w.heap.size]? = some o := by
  show (w.heap.push o)[w.heap.size]? = _
  simp
theorem heap_old (w : World) (o : Obj) {r : Nat} (h : r < w.heap.size) : (w.alloc o).heap[r]? = w.heap[r]? := by
  show (w.heap.push o)[r]? = _
  rw [Array.getElem?_push_lt h, Array.getElem?_eq_getElem h]

/-- A new block that is an object. -/
theorem Sim.new {B : Nat} {w0 : World} {g : Ghost} {σ : State} {w : World} (h : Sim B w0 g σ w) (o : AObj) (ob : Obj) (tot sz : Nat)
    (hok : ObjOk B (g.add σ.next ⟨w.heap.size, tot, sz⟩) (w.alloc ob) σ.next o) :
    g.Le (g.add σ.next ⟨w.heap.size, tot, sz⟩) ∧ Sim B w0 (g.add σ.next ⟨w.heap.size, tot, sz⟩) (σ.new o) (w.alloc ob) := by
  have hle : g.Le (g.add σ.next ⟨w.heap.size, tot, sz⟩) := Ghost.le_add (h.next _ (Nat.le_refl _)).1 _
  refine ⟨hle, h.turn w.heap.size (· = σ.next) hle h.R_new h.size rfl rfl rfl (by simp) (fun b _ hb => heap_old w ob hb) (fun _ _ _ => rfl) ?_ ?_ ?_ ?_ ?_ ?_⟩
  · intro o v hv
    rw [Ghost.add_F, h.F_new] at hv
    cases hv
  · intro id hid
    refine ⟨by simp [State.new, hid], fun hd i hi e => ?_⟩
    obtain ⟨i', hi', _, hlt⟩ := (h.objs id).blk hd
    rw [hi'] at hi; cases hi
    omega
  · rintro id rfl
    simpa [State.new] using hok
  · rintro i j rfl rfl _ _; rfl
  · rintro id i rfl _ hi
    rw [Ghost.add_info] at hi
    cases hi; rfl
  · intro id hid
    have : σ.next + 1 ≤ id := hid
    have hne : id ≠ σ.next := by omega
    refine ⟨?_, by simp [State.new, hne]; exact (h.next id (by omega)).2⟩
    show (if id = σ.next then _ else g.info id) = none
    rw [if_neg hne]
    exact (h.next id (by omega)).1

/-- A new block that is frozen whole. -/
theorem Sim.newFrozen {B : Nat} {w0 : World} {g : Ghost} {σ : State} {w : World} (h : Sim B w0 g σ w) (c : Array Value) (e : Nat) :
    g.Le (g.frz w.heap.size c.toList) ∧ Sim B w0 (g.frz w.heap.size c.toList) σ (w.alloc (.cells c e)) := by
  have hle : g.Le (g.frz w.heap.size c.toList) := Ghost.le_frz fun o v hv => by rw [h.F_new] at hv; cases hv
  refine ⟨hle, h.turn w.heap.size (fun _ => False) hle h.R_new h.size rfl rfl rfl (by simp) (fun b _ hb => heap_old w _ hb) (fun b o hb => Ghost.frz_F_ne g _ _ hb) ?_ ?_ ?_ ?_ ?_ ?_⟩
  · intro o v hv
    rw [Ghost.frz_F] at hv
    rw [World.cell?_alloc_new]
    simpa using hv
  · intro id _
    refine ⟨rfl, fun hd i hi e => ?_⟩
    obtain ⟨i', hi', _, hlt⟩ := (h.objs id).blk hd
    rw [hi'] at hi; cases hi
    omega
  · exact fun _ hf => hf.elim
  · exact fun _ _ hf => hf.elim
  · exact fun _ _ hf => hf.elim
  · exact fun id hid => h.next id hid

/-- A new block whose first cells are frozen, and that may grow. -/
theorem Sim.newTok {B : Nat} {w0 : World} {g : Ghost} {σ : State} {w : World} (h : Sim B w0 g σ w) (c : Array Value) (e n tot sz : Nat) (hn : n ≤ tot) (hc : c.size = tot * sz) (hm : tot ≤ maxLen) :
    let g' := (g.frz w.heap.size (c.toList.take (n * sz))).add σ.next ⟨w.heap.size, tot, sz⟩
    g.Le g' ∧ Sim B w0 g' (σ.new (.tok n e sz)) (w.alloc (.cells c e)) := by
  intro g'
  have hle0 : g.Le (g.frz w.heap.size (c.toList.take (n * sz))) := Ghost.le_frz fun o v hv => by rw [h.F_new] at hv; cases hv
  have hle : g.Le g' := hle0.trans (Ghost.le_add (by rw [Ghost.frz_info]; exact (h.next _ (Nat.le_refl _)).1) _)
  refine ⟨hle, h.turn w.heap.size (· = σ.next) hle h.R_new h.size rfl rfl rfl (by simp) (fun b _ hb => heap_old w _ hb) (fun b o hb => Ghost.frz_F_ne g _ _ hb) ?_ ?_ ?_ ?_ ?_ ?_⟩
  · intro o v hv
    have hv' : (c.toList.take (n * sz))[o]? = some v := by simpa [g'] using hv
    rw [World.cell?_alloc_new]
    rw [List.getElem?_take] at hv'
    split at hv'
    · simpa using hv'
    · cases hv'
  · intro id hid
    refine ⟨by simp [State.new, hid], fun hd i hi e => ?_⟩
    obtain ⟨i', hi', _, hlt⟩ := (h.objs id).blk hd
    rw [hi'] at hi; cases hi
    omega
  · rintro id rfl
    have e1 : (σ.new (.tok n e sz)).objs σ.next = .tok n e sz := by simp [State.new]
    rw [e1]
    refine ⟨⟨w.heap.size, tot, sz⟩, c, by simp [g'], rfl, h.size, heap_new w _, hn, hc, hm, fun o ho => ?_⟩
    show (g'.F w.heap.size o) = none
    have : g'.F w.heap.size o = (c.toList.take (n * sz))[o]? := by simp [g']
    rw [this]
    apply List.getElem?_eq_none
    rw [List.length_take]
    exact Nat.le_trans (Nat.min_le_left _ _) ho
  · rintro i j rfl rfl _ _; rfl
  · rintro id i rfl _ hi
    simp [g'] at hi
    rw [← hi]
  · intro id hid
    have : σ.next + 1 ≤ id := hid
    have hne : id ≠ σ.next := by omega
    refine ⟨?_, by simp [State.new, hne]; exact (h.next id (by omega)).2⟩
    show (if id = σ.next then _ else g.info id) = none
    rw [if_neg hne]
    exact (h.next id (by omega)).1

/-- An object's own block is written. -/
theorem Sim.write {B : Nat} {w0 : World} {g : Ghost} {σ : State} {w w' : World} (h : Sim B w0 g σ w) {id : Nat} {i : Info} (hi : g.info id = some i) (hd : σ.objs id ≠ .dead)
    (hF : ∀ o, g.F i.blk o = none) (hos : w'.os = w.os) (htape : w'.tape = w.tape) (hout : w'.output = w.output) (hsize : w'.heap.size = w.heap.size)
    (hw : ∀ b, b ≠ i.blk → w'.heap[b]? = w.heap[b]?) (o' : AObj) (hok : ObjOk B g w' id o') : Sim B w0 g (σ.set id o') w' := by
  obtain ⟨i', hi', hB, hlt⟩ := (h.objs id).blk hd
  rw [hi] at hi'; cases hi'
  refine h.turn i.blk (· = id) (.refl g) (h.resO id i hd hi) hB hos htape hout (by omega) (fun b hb _ => hw b hb) (fun _ _ _ => rfl) ?_ ?_ ?_ ?_ ?_ ?_
  · intro o v hv; rw [hF] at hv; cases hv
  · intro j hj
    refine ⟨by simp [State.set, hj], fun hdj pj hpj e => ?_⟩
    exact h.inj j id pj i hpj hi hdj hd hj e
  · rintro j rfl; simpa [State.set] using hok
  · rintro a b rfl rfl _ _; rfl
  · rintro j pj rfl _ hpj; rw [hi] at hpj; cases hpj; rfl
  · intro j hj
    have hj' : σ.next ≤ j := hj
    have hne : j ≠ id := by have := h.live hd; omega
    exact ⟨(h.next j hj').1, by simp [State.set, hne]; exact (h.next j hj').2⟩

/-- A slice that may grow has grown in place. -/
theorem Sim.grow {B : Nat} {w0 : World} {g : Ghost} {σ : State} {w : World} (h : Sim B w0 g σ w) {id n e sz : Nat} {i : Info} {c : Array Value} (ho : σ.objs id = .tok n e sz) (hi : g.info id = some i)
    (hh : w.heap[i.blk]? = some (.cells c e (0, 0))) (news : List Value) (m : Nat) (hm : news.length = m * i.sz) (hfit : n + m ≤ i.tot) :
    let c' := (c.toList.take (n * i.sz) ++ news ++ c.toList.drop (n * i.sz + news.length)).toArray
    let g' := (g.frz i.blk (c.toList.take (n * i.sz) ++ news)).add σ.next i
    g.Le g' ∧ Sim B w0 g' ((σ.set id .dead).new (.tok (n + m) e sz)) (w.setRow i.blk c') := by
  intro c' g'
  have hobj := h.objs id
  rw [ho] at hobj
  obtain ⟨i', c0, hi', hsz, hB, hh', hn, hc, hmx, hF⟩ := hobj
  rw [hi] at hi'; cases hi'
  rw [hh] at hh'; cases hh'
  have hd : σ.objs id ≠ .dead := by rw [ho]; simp
  have hlt : i.blk < w.heap.size := (Array.getElem?_eq_some_iff.1 hh).1
  have hnc : n * i.sz ≤ c.size := by rw [hc]; exact Nat.mul_le_mul_right _ hn
  have hmul : (n + m) * i.sz = n * i.sz + m * i.sz := Nat.add_mul ..
  have hfit' : n * i.sz + news.length ≤ c.size := by rw [hm, hc, ← hmul]; exact Nat.mul_le_mul_right _ hfit
  have htl : (c.toList.take (n * i.sz)).length = n * i.sz := by simp; omega
  have hc's : c'.size = c.size := by simp [c']; omega
  have hc'h : (w.setRow i.blk c').heap[i.blk]? = some (.cells c' e (0, 0)) := setRow_heap w i.blk c c' e _ hh
  have hle0 : g.Le (g.frz i.blk (c.toList.take (n * i.sz) ++ news)) := Ghost.le_frz fun o v hv => by
    have h1 := h.froz i.blk o v hv
    have h2 : o < n * i.sz := by
      rcases Nat.lt_or_ge o (n * i.sz) with h3 | h3
      · exact h3
      · rw [hF o h3] at hv; cases hv
    simp only [World.cell?, hh, Option.isSome_none, Bool.false_eq_true, if_false] at h1
    rw [List.getElem?_append_left (by omega), List.getElem?_take, if_pos h2]
    simpa using h1
  have hnone : g.info σ.next = none := (h.next _ (Nat.le_refl _)).1
  have hle : g.Le g' := hle0.trans (Ghost.le_add (by rw [Ghost.frz_info]; exact hnone) _)
  refine ⟨hle, h.turn i.blk (fun j => j = id ∨ j = σ.next) hle (h.resO id i hd hi) hB rfl rfl rfl (by simp [World.setRow]) (fun b hb _ => setRow_other w i.blk b c' hb) (fun b o hb => Ghost.frz_F_ne g _ _ hb) ?_ ?_ ?_ ?_ ?_ ?_⟩
  · intro o v hv
    have hv' : (c.toList.take (n * i.sz) ++ news)[o]? = some v := by simpa [g'] using hv
    have ho2 : o < (c.toList.take (n * i.sz) ++ news).length := (List.getElem?_eq_some_iff.1 hv').1
    simp only [World.cell?, hc'h, Option.isSome_none, Bool.false_eq_true, if_false]
    show c'[o]? = some v
    simp only [c', List.getElem?_toArray]
    rw [List.getElem?_append_left ho2]; exact hv'
  · intro j hj
    have hj1 : j ≠ id := fun e => hj (.inl e)
    have hj2 : j ≠ σ.next := fun e => hj (.inr e)
    refine ⟨by simp [State.new, State.set, hj1, hj2], fun hdj pj hpj e => ?_⟩
    exact h.inj j id pj i hpj hi hdj hd hj1 e
  · have hidn : id ≠ σ.next := by have := h.live hd; omega
    rintro j (rfl | rfl)
    · have : ((σ.set j .dead).new (.tok (n + m) e sz)).objs j = .dead := by simp [State.new, State.set, hidn]
      rw [this]; trivial
    · have : ((σ.set id .dead).new (.tok (n + m) e sz)).objs σ.next = .tok (n + m) e sz := by simp [State.new, State.set]
      rw [this]
      refine ⟨i, c', by simp [g'], hsz, hB, hc'h, hfit, by rw [hc's]; exact hc, hmx, fun o ho => ?_⟩
      have : g'.F i.blk o = (c.toList.take (n * i.sz) ++ news)[o]? := by simp [g']
      rw [this]
      apply List.getElem?_eq_none
      rw [List.length_append, htl, hm, ← hmul]; exact ho
  · have hidn : id ≠ σ.next := by have := h.live hd; omega
    intro a b ha hb h3 h4
    have key : ∀ j, (j = id ∨ j = σ.next) → ((σ.set id .dead).new (.tok (n + m) e sz)).objs j ≠ .dead → j = σ.next := by
      rintro j (rfl | rfl) hj
      · exact absurd (by simp [State.new, State.set, hidn]) hj
      · rfl
    rw [key a ha h3, key b hb h4]
  · have hidn : id ≠ σ.next := by have := h.live hd; omega
    rintro j pj (rfl | rfl) h3 hpj
    · exact absurd (by simp [State.new, State.set, hidn]) h3
    · simp [g'] at hpj
      rw [← hpj]
  · intro j hj
    have hj' : σ.next + 1 ≤ j := hj
    have hne : j ≠ σ.next := by omega
    have hne2 : j ≠ id := by have := h.live hd; omega
    refine ⟨?_, by simp [State.new, State.set, hne, hne2]; exact (h.next j (by omega)).2⟩
    show (if j = σ.next then _ else g.info j) = none
    rw [if_neg hne]
    exact (h.next j (by omega)).1

def Ghost.setR (g : Ghost) (b : Nat) (o : Obj) : Ghost := { g with R := fun j => if j = b then some o else g.R j }
theorem Ghost.leX_setR (g : Ghost) (b : Nat) (o : Obj) : g.LeX (g.setR b o) := ⟨fun _ _ _ h => h, fun _ _ h => h⟩

theorem ObjOk.R {B : Nat} {g : Ghost} {w : World} {id : Nat} {o : AObj} (h : ObjOk B g w id o) (R : Nat → Option Obj) : ObjOk B { g with R := R } w id o := by
  have hx : g.LeX { g with R := R } := ⟨fun _ _ _ h => h, fun _ _ h => h⟩
  cases o with
  | dead => trivial
  | cells cs e sz grow =>
    obtain ⟨i, c, h1, hs, h2, h3, h4, h5, h6, h7, h8, h9, h10⟩ := h
    exact ⟨i, c, h1, hs, h2, h3, h4, h5, h6, h7, h8.monoX hx, h9, h10⟩
  | tok n e sz =>
    obtain ⟨i, c, h1, hs, h2, h3, h4, h5, h6, h7⟩ := h
    exact ⟨i, c, h1, hs, h2, h3, h4, h5, h6, h7⟩
  | map es =>
    obtain ⟨i, ms, cl, h1, h2, h3, h4, h5⟩ := h
    exact ⟨i, ms, cl, h1, h2, h3, h4, fun k a b => ⟨(h5 k a b).1.monoX hx, (h5 k a b).2.monoX hx⟩⟩
  | siter s pos =>
    obtain ⟨i, h1, h2, h3⟩ := h
    exact ⟨i, h1, h2, h3⟩
  | loop l =>
    obtain ⟨i, r, h1, h2, h3, h4, h5, h6⟩ := h
    exact ⟨i, r, h1, h2, h3, h4, fun t => (h5 t).monoX hx, h6⟩
  | cmap es =>
    obtain ⟨i, ms, cl, es', h1, h2, h3, h4, h5, h6⟩ := h
    exact ⟨i, ms, cl, es', h1, h2, h3, h4, fun k a b => ⟨(h5 k a b).1.monoX hx, (h5 k a b).2.monoX hx⟩, h6⟩

/-- Fewer blocks are left alone. -/
theorem Sim.lessR {B : Nat} {w0 : World} {g : Ghost} {σ : State} {w : World} (h : Sim B w0 g σ w) {R : Nat → Option Obj} (hR : ∀ b o, R b = some o → g.R b = some o) : Sim B w0 { g with R := R } σ w where
  below := h.below
  size := h.size
  froz := h.froz
  objs id := (h.objs id).R R
  inj := h.inj
  next := h.next
  res b x hb := h.res b x (hR b x hb)
  resF b o x hb := h.resF b o x (hR b x hb)
  resO id i h1 h2 := by
    show R i.blk = none
    cases hv : R i.blk with
    | none => rfl
    | some x => have := h.resO id i h1 h2; rw [hR _ _ hv] at this; cases this

/-- A new block that is left alone. -/
theorem Sim.newLocal {B : Nat} {w0 : World} {g : Ghost} {σ : State} {w : World} (h : Sim B w0 g σ w) (o : Obj) : Sim B w0 (g.setR w.heap.size o) σ (w.alloc o) where
  below := h.below.alloc h.size o
  size := by have := h.size; simp; omega
  froz b p v hv := by
    have hlt := h.F_lt hv
    rw [World.cell?_alloc_lt w o ⟨b, p, none⟩ hlt]; exact h.froz b p v hv
  objs id := by
    have hk : ObjOk B g (w.alloc o) id (σ.objs id) := by
      by_cases hd : σ.objs id = .dead
      · rw [hd]; trivial
      · obtain ⟨i', hi', _, hlt⟩ := (h.objs id).blk hd
        exact (h.objs id).keep (.refl g) (fun i hi => by rw [hi'] at hi; cases hi; exact heap_old w o hlt) (fun _ _ _ _ => rfl)
    exact hk.R _
  inj := h.inj
  next := h.next
  res b x hb := by
    have hb' : (if b = w.heap.size then some o else g.R b) = some x := hb
    split at hb'
    · rename_i e; subst e; cases hb'; exact heap_new w _
    · have := h.res b x hb'
      rw [heap_old w o (Array.getElem?_eq_some_iff.1 this).1]; exact this
  resF b p x hb := by
    have hb' : (if b = w.heap.size then some o else g.R b) = some x := hb
    split at hb'
    · rename_i e; subst e; exact h.F_new p
    · exact h.resF b p x hb'
  resO id i h1 h2 := by
    obtain ⟨i', hi', _, hlt⟩ := (h.objs id).blk h1
    have h2' : g.info id = some i := h2
    rw [hi'] at h2'; cases h2'
    show (if i.blk = w.heap.size then some o else g.R i.blk) = none
    rw [if_neg (by omega)]
    exact h.resO id _ h1 hi'

/-- A block that is left alone is written by whose it is. -/
theorem Sim.setLocal {B : Nat} {w0 : World} {g : Ghost} {σ : State} {w : World} (h : Sim B w0 g σ w) {b e : Nat} {c : Array Value} (hb : g.R b = some (.cells c e (0, 0))) (hB : B ≤ b) (c' : Array Value) :
    Sim B w0 (g.setR b (.cells c' e (0, 0))) σ (w.setRow b c') where
  below := h.below.trans ⟨rfl, rfl, rfl, by simp, fun k hk => setRow_other w b k c' (by omega)⟩
  size := by have := h.size; simp; omega
  froz k p v hv := by
    have hv1 : g.F k p = some v := hv
    have hne : k ≠ b := by intro e; subst e; rw [h.resF k p _ hb] at hv1; cases hv1
    have hc : (w.setRow b c').cell? ⟨k, p, none⟩ = w.cell? ⟨k, p, none⟩ := cell_setRow_other w b c' ⟨k, p, none⟩ hne
    rw [hc]; exact h.froz k p v hv
  objs id := by
    have hk : ObjOk B g (w.setRow b c') id (σ.objs id) := by
      by_cases hd : σ.objs id = .dead
      · rw [hd]; trivial
      · obtain ⟨i', hi', _, hlt⟩ := (h.objs id).blk hd
        refine (h.objs id).keep (.refl g) (fun i hi => ?_) (fun _ _ _ _ => rfl)
        have hne : i.blk ≠ b := by intro e; have := h.resO id i hd hi; rw [e, hb] at this; cases this
        exact setRow_other w b i.blk c' hne
    exact hk.R _
  inj := h.inj
  next := h.next
  res k x hk := by
    have hk' : (if k = b then some (Obj.cells c' e (0, 0)) else g.R k) = some x := hk
    split at hk'
    · rename_i e1; subst e1; cases hk'
      exact setRow_heap w k c c' e (0, 0) (h.res k _ hb)
    · rename_i hne
      rw [setRow_other w b k c' hne]; exact h.res k x hk'
  resF k p x hk := by
    have hk' : (if k = b then some (Obj.cells c' e (0, 0)) else g.R k) = some x := hk
    split at hk'
    · rename_i e1; subst e1; exact h.resF k p _ hb
    · exact h.resF k p x hk'
  resO id i h1 h2 := by
    have h2' : g.info id = some i := h2
    have hne : i.blk ≠ b := by intro e; have := h.resO id i h1 h2'; rw [e, hb] at this; cases this
    show (if i.blk = b then _ else g.R i.blk) = none
    rw [if_neg hne]
    exact h.resO id i h1 h2'

/-- The block of a frame's own loops' deferred calls is taken. -/
theorem Sim.setMark {B : Nat} {w0 : World} {g : Ghost} {σ : State} {w : World} (h : Sim B w0 g σ w) {b : Nat} {x y : Option (List Deferred)} (hb : g.R b = some (.deferred x)) (hB : B ≤ b) :
    Sim B w0 (g.setR b (.deferred y)) σ { w with heap := w.heap.setIfInBounds b (.deferred y) } := by
  have hne : ∀ {k}, k ≠ b → ({ w with heap := w.heap.setIfInBounds b (.deferred y) } : World).heap[k]? = w.heap[k]? := fun hk => by simp [Array.getElem?_setIfInBounds_ne (Ne.symm hk)]
  have hlt : b < w.heap.size := (Array.getElem?_eq_some_iff.1 (h.res b _ hb)).1
  refine ⟨h.below.trans ⟨rfl, rfl, rfl, by simp, fun k hk => hne (by omega)⟩, by have := h.size; simp; omega, fun k p v hv => ?_, fun id => ?_, h.inj, h.next, fun k z hk => ?_, fun k p z hk => ?_, fun id i h1 h2 => ?_⟩
  · have hv1 : g.F k p = some v := hv
    have hk : k ≠ b := by intro e; subst e; rw [h.resF k p _ hb] at hv1; cases hv1
    have h1 := h.froz k p v hv1
    unfold World.cell? at h1 ⊢
    rw [hne hk]; exact h1
  · have hk : ObjOk B g { w with heap := w.heap.setIfInBounds b (.deferred y) } id (σ.objs id) := by
      by_cases hd : σ.objs id = .dead
      · rw [hd]; trivial
      · refine (h.objs id).keep (.refl g) (fun i hi => ?_) (fun _ _ _ _ => rfl)
        exact hne (by intro e; have := h.resO id i hd hi; rw [e, hb] at this; cases this)
    exact hk.R _
  · have hk' : (if k = b then some (Obj.deferred y) else g.R k) = some z := hk
    split at hk'
    · rename_i e1; subst e1; cases hk'; simp [hlt]
    · rename_i hn; rw [hne hn]; exact h.res k z hk'
  · have hk' : (if k = b then some (Obj.deferred y) else g.R k) = some z := hk
    split at hk'
    · rename_i e1; subst e1; exact h.resF k p _ hb
    · exact h.resF k p z hk'
  · have h2' : g.info id = some i := h2
    have hn : i.blk ≠ b := by intro e; have := h.resO id i h1 h2'; rw [e, hb] at this; cases this
    show (if i.blk = b then _ else g.R i.blk) = none
    rw [if_neg hn]
    exact h.resO id i h1 h2'

/-- An object is told otherwise. -/
theorem Sim.retell {B : Nat} {w0 : World} {g : Ghost} {σ : State} {w : World} (h : Sim B w0 g σ w) {id : Nat} {o' : AObj} (hd : σ.objs id ≠ .dead) (hok : ObjOk B g w id o') : Sim B w0 g (σ.set id o') w where
  below := h.below
  size := h.size
  froz := h.froz
  objs j := by
    by_cases e : j = id
    · subst e; simpa [State.set] using hok
    · simpa [State.set, e] using h.objs j
  inj i j pi pj h1 h2 h3 h4 h5 := by
    have key : ∀ k, (σ.set id o').objs k ≠ .dead → σ.objs k ≠ .dead := fun k hk => by
      by_cases e : k = id
      · subst e; exact hd
      · simpa [State.set, e] using hk
    exact h.inj i j pi pj h1 h2 (key i h3) (key j h4) h5
  next j hj := by
    have hj' : σ.next ≤ j := hj
    have hne : j ≠ id := by have := h.live hd; omega
    exact ⟨(h.next j hj').1, by simp [State.set, hne]; exact (h.next j hj').2⟩
  res := h.res
  resF := h.resF
  resO k i h1 h2 := h.resO k i (by
    by_cases e : k = id
    · subst e; exact hd
    · simpa [State.set, e] using h1) h2

end Go.V
