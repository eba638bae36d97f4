/- The V-model, part 7: append, make, literals. -/
import Derived.Test.YtgnjidopnplbbaaGreatDoorV6
import Derived.Great.BuildSlice
set_option linter.unusedSimpArgs false
set_option linter.unusedVariables false
namespace Go.V
open Go.RowKit

theorem chunk_one : ∀ (cs : List AV) (n : Nat), n ≤ cs.length → chunk none cs n = cs.take n
  | _, 0, _ => by simp [chunk]
  | [], n + 1, h => by simp at h
  | c :: cs, n + 1, h => by simp only [chunk, List.take_succ_cons]; rw [chunk_one cs n (by simpa using h)]

theorem flat_ones : ∀ {xs : List AV}, xs.all AV.one = true → flat xs = xs
  | [], _ => rfl
  | x :: xs, h => by
    simp only [List.all_cons, Bool.and_eq_true] at h
    rw [flat_cons, flat_ones h.2]
    cases x <;> first | rfl | (simp [AV.one] at h; done)

theorem chunk_length (k : Option Nat) : ∀ (cs : List AV) (n sz : Nat), k.getD 1 = sz → n * sz ≤ cs.length → (chunk k cs n).length = n
  | _, 0, _, _, _ => by simp [chunk]
  | cs, n + 1, sz, hk, h => by
    rw [Nat.succ_mul] at h
    cases k with
    | none =>
      cases cs with
      | nil => simp at hk; subst hk; simp at h
      | cons c cs => simp only [chunk, List.length_cons]; rw [chunk_length none cs n sz hk (by simp at hk; subst hk; simp at h ⊢; omega)]
    | some m =>
      simp at hk; subst hk
      simp only [chunk, List.length_cons]
      rw [chunk_length (some m) (cs.drop m) n m (by simp) (by simp; omega)]

theorem flat_chunk (k : Option Nat) : ∀ (cs : List AV) (n sz : Nat), k.getD 1 = sz → n * sz ≤ cs.length → cs.all AV.one = true → flat (chunk k cs n) = cs.take (n * sz)
  | _, 0, _, _, _, _ => by simp [chunk, flat]
  | cs, n + 1, sz, hk, h, h1 => by
    rw [Nat.succ_mul] at h
    cases k with
    | none =>
      simp at hk; subst hk
      cases cs with
      | nil => simp at h
      | cons c cs =>
        simp only [List.all_cons, Bool.and_eq_true] at h1
        simp only [chunk, flat_cons]
        rw [flat_chunk none cs n 1 (by simp) (by simp at h ⊢; omega) h1.2]
        have : c.cells = [c] := by cases c <;> first | rfl | (simp [AV.one] at h1; done)
        rw [this]; simp
    | some m =>
      simp at hk; subst hk
      simp only [chunk, flat_cons]
      rw [flat_chunk (some m) (cs.drop m) n m (by simp) (by simp; omega) (by
        rw [List.all_eq_true] at h1 ⊢; exact fun x hx => h1 x (List.mem_of_mem_drop hx))]
      show cs.take m ++ _ = _
      rw [Nat.succ_mul, Nat.add_comm, List.take_add]

theorem chunk_sz (k : Option Nat) : ∀ (cs : List AV) (n sz : Nat), k.getD 1 = sz → n * sz ≤ cs.length → cs.all AV.one = true → ∀ x ∈ chunk k cs n, x.cells.length = sz
  | _, 0, _, _, _, _ => by simp [chunk]
  | cs, n + 1, sz, hk, h, h1 => by
    rw [Nat.succ_mul] at h
    cases k with
    | none =>
      simp at hk; subst hk
      cases cs with
      | nil => simp at h
      | cons c cs =>
        simp only [List.all_cons, Bool.and_eq_true] at h1
        simp only [chunk]
        intro x hx
        rcases List.mem_cons.1 hx with rfl | hx
        · cases x <;> first | rfl | (simp [AV.one] at h1; done)
        · exact chunk_sz none cs n 1 (by simp) (by simp at h ⊢; omega) h1.2 x hx
    | some m =>
      simp at hk; subst hk
      simp only [chunk]
      intro x hx
      rcases List.mem_cons.1 hx with rfl | hx
      · show (cs.take m).length = m
        rw [List.length_take]; omega
      · refine chunk_sz (some m) (cs.drop m) n m (by simp) (by simp; omega) (by rw [List.all_eq_true] at h1 ⊢; exact fun x hx => h1 x (List.mem_of_mem_drop hx)) x hx

section
variable {P : Program} {B : Nat} {w0 : World} {g : Ghost} {σ : State} {w : World}

/-- Where a slice's elements lie, as append reads them. -/
structure Src (g : Ghost) (w : World) (sz : Nat) (ys : List AV) (u : Value) : Prop where
  nil : u = .slice none 0 0 → ys = []
  form : (u = .slice none 0 0) ∨ ∃ a cap vs, u = .slice (some a) ys.length cap ∧ RVL g (flat ys) vs ∧ (∀ j v, vs[j]? = some v → w.cell? (a.add j) = some v) ∧ (flat ys).all AV.one = true
  sz : ∀ y ∈ ys, y.cells.length = sz

theorem elems_ok (hS : Sim B w0 g σ w) {k : Option Nat} {sz : Nat} {y : AV} {ys : List AV} {u : Value} (hy : RV g y u) (h : aelems σ k sz y = some ys) : Src g w sz ys u := by
  unfold aelems at h
  split at h
  · cases h; cases hy
    exact ⟨fun _ => rfl, .inl rfl, by simp⟩
  · rename_i s ys' m
    split at h
    · rename_i hc
      obtain ⟨rfl, hk⟩ := hc
      cases h
      rcases hy.slice_inv with ⟨a, cap, vs, rfl, hv⟩ | ⟨rfl, rfl, rfl⟩
      case inr => exact ⟨fun _ => rfl, .inl rfl, by simp⟩
      refine ⟨by simp, .inr ⟨a, cap, vs, rfl, hv.hr, fun j v hj => ?_, hv.h1⟩, hv.hsz⟩
      obtain ⟨hlt, rfl⟩ := List.getElem?_eq_some_iff.1 hj
      have hsp := hv.hsp (by omega)
      rw [addr_plain hsp, add_at]
      exact hS.froz _ _ _ (hv.hF j hlt)
    · cases h
  · rename_i id off len
    split at h
    · rename_i cs e s gr ho
      split at h
      · rename_i hc
        obtain ⟨rfl, hk, hle⟩ := hc
        cases h
        obtain ⟨i, c, h1, hs, hB, hh, hlc, hg, hct, hmx, hr, h1c, hF⟩ := hS.cells ho
        cases hy with
        | rslice _ _ _ i' a cap hi hadr hcap hlen =>
          rw [hi] at h1; cases h1
          have hone : cs.all AV.one = true := h1c
          have hmul : (off + len) * s = off * s + len * s := Nat.add_mul ..
          have hone' : ((cs.drop (off * s)).take (len * s)).all AV.one = true := by
            rw [List.all_eq_true] at hone ⊢
            exact fun x hx => hone x (List.mem_of_mem_drop (List.mem_of_mem_take hx))
          have hl' : len * s ≤ ((cs.drop (off * s)).take (len * s)).length := by simp; omega
          have hln := chunk_length k ((cs.drop (off * s)).take (len * s)) len s hk hl'
          have hfl := flat_chunk k ((cs.drop (off * s)).take (len * s)) len s hk hl' hone'
          refine ⟨by simp, .inr ⟨a, cap, ((c.toList.take cs.length).drop (off * s)).take (len * s), by rw [hln], ?_, fun j v hj => ?_, by rw [hfl, List.take_take, Nat.min_self]; exact hone'⟩, chunk_sz k _ len s hk hl' hone'⟩
          · rw [hfl, List.take_take, Nat.min_self]
            exact (hr.drop _).take _
          · have hj' : j < len * s := by
              have := (List.getElem?_eq_some_iff.1 hj).1
              simp at this; omega
            have hcap0 : cap ≠ 0 := by
              intro e0; subst e0
              have : len = 0 := by omega
              subst this; simp at hj'
            have ha : a = ⟨i.blk, off * i.sz, none⟩ := hadr.resolve_right hcap0
            rw [ha, add_at, hs]
            have hlt2 : off * s + j < c.size := by omega
            rw [List.getElem?_take, if_pos hj', List.getElem?_drop, List.getElem?_take, if_pos (by omega)] at hj
            simp only [World.cell?, hh, Option.isSome_none, Bool.false_eq_true, if_false]
            simpa using hj
      · cases h
    · cases h
  · rename_i id off len
    split at h
    · rename_i cs e s gr ho
      split at h
      · rename_i hc
        obtain ⟨rfl, hk, hle⟩ := hc
        cases h
        obtain ⟨i, c, h1, hs, hB, hh, hlc, hg, hct, hmx, hr, h1c, hF⟩ := hS.cells ho
        cases hy with
        | view _ _ _ i' a cap hi hadr hcap hlen =>
          rw [hi] at h1; cases h1
          have hone : cs.all AV.one = true := h1c
          have hmul : (off + len) * s = off * s + len * s := Nat.add_mul ..
          have hone' : ((cs.drop (off * s)).take (len * s)).all AV.one = true := by
            rw [List.all_eq_true] at hone ⊢
            exact fun x hx => hone x (List.mem_of_mem_drop (List.mem_of_mem_take hx))
          have hl' : len * s ≤ ((cs.drop (off * s)).take (len * s)).length := by simp; omega
          have hln := chunk_length k ((cs.drop (off * s)).take (len * s)) len s hk hl'
          have hfl := flat_chunk k ((cs.drop (off * s)).take (len * s)) len s hk hl' hone'
          refine ⟨by simp, .inr ⟨a, cap, ((c.toList.take cs.length).drop (off * s)).take (len * s), by rw [hln], ?_, fun j v hj => ?_, by rw [hfl, List.take_take, Nat.min_self]; exact hone'⟩, chunk_sz k _ len s hk hl' hone'⟩
          · rw [hfl, List.take_take, Nat.min_self]
            exact (hr.drop _).take _
          · have hj' : j < len * s := by
              have := (List.getElem?_eq_some_iff.1 hj).1
              simp at this; omega
            have hcap0 : cap ≠ 0 := by
              intro e0; subst e0
              have : len = 0 := by omega
              subst this; simp at hj'
            have ha : a = ⟨i.blk, off * i.sz, none⟩ := hadr.resolve_right hcap0
            rw [ha, add_at, hs]
            have hlt2 : off * s + j < c.size := by omega
            rw [List.getElem?_take, if_pos hj', List.getElem?_drop, List.getElem?_take, if_pos (by omega)] at hj
            simp only [World.cell?, hh, Option.isSome_none, Bool.false_eq_true, if_false]
            simpa using hj
      · cases h
    · cases h
  · cases h

/-- A slice object has grown in place, or has been cut and then grown: it is a new one. -/
theorem Sim.regrow (h : Sim B w0 g σ w) {id e sz : Nat} {cs : List AV} {gr : Bool} {i : Info} {c c' : Array Value} (ho : σ.objs id = .cells cs e sz gr) (hi : g.info id = some i)
    (hh : w.heap[i.blk]? = some (.cells c e (0, 0))) (cs' : List AV) (hc's : c'.size = c.size) (hl : cs'.length ≤ c'.size) (hr : RVL g cs' (c'.toList.take cs'.length)) (h1 : cs'.all AV.one = true) :
    g.Le (g.add σ.next i) ∧ Sim B w0 (g.add σ.next i) ((σ.set id .dead).new (.cells cs' e sz true)) (w.setRow i.blk c') := by
  obtain ⟨i', c0, hi', hs, hB, hh', _, _, hct, hmx, _, _, hF⟩ := h.cells ho
  rw [hi] at hi'; cases hi'
  rw [hh] at hh'; cases hh'
  have hd : σ.objs id ≠ .dead := by rw [ho]; simp
  have hidn : id ≠ σ.next := by have := h.live hd; omega
  have hle : g.Le (g.add σ.next i) := Ghost.le_add (h.next _ (Nat.le_refl _)).1 _
  refine ⟨hle, h.turn i.blk (fun j => j = id ∨ j = σ.next) hle (h.resO id i hd hi) hB rfl rfl rfl (by simp [World.setRow]) (fun b hb _ => setRow_other w i.blk b c' hb) (fun _ _ _ => rfl) ?_ ?_ ?_ ?_ ?_ ?_⟩
  · intro o v hv
    rw [Ghost.add_F, hF] at hv; cases hv
  · intro j hj
    have hj1 : j ≠ id := fun e => hj (.inl e)
    have hj2 : j ≠ σ.next := fun e => hj (.inr e)
    refine ⟨by simp [State.new, State.set, hj1, hj2], fun hdj pj hpj e => ?_⟩
    exact h.inj j id pj i hpj hi hdj hd hj1 e
  · rintro j (rfl | rfl)
    · have : ((σ.set j .dead).new (.cells cs' e sz true)).objs j = .dead := by simp [State.new, State.set, hidn]
      rw [this]; trivial
    · have : ((σ.set id .dead).new (.cells cs' e sz true)).objs σ.next = .cells cs' e sz true := by simp [State.new, State.set]
      rw [this]
      exact ⟨i, c', by simp, hs, hB, setRow_heap w i.blk c c' e _ hh, hl, by simp, by rw [hc's]; exact hct, hmx, hr.mono hle, h1, fun o => hF o⟩
  · intro a b ha hb h3 h4
    have key : ∀ j, (j = id ∨ j = σ.next) → ((σ.set id .dead).new (.cells cs' e sz true)).objs j ≠ .dead → j = σ.next := by
      rintro j (rfl | rfl) hj
      · exact absurd (by simp [State.new, State.set, hidn]) hj
      · rfl
    rw [key a ha h3, key b hb h4]
  · rintro j pj (rfl | rfl) h3 hpj
    · exact absurd (by simp [State.new, State.set, hidn]) h3
    · simp at hpj
      rw [← hpj]
  · intro j hj
    have hj' : σ.next + 1 ≤ j := hj
    have hne : j ≠ σ.next := by omega
    have hne2 : j ≠ id := by have := h.live hd; omega
    refine ⟨?_, by simp [State.new, State.set, hne, hne2]; exact (h.next j (by omega)).2⟩
    show (if j = σ.next then _ else g.info j) = none
    rw [if_neg hne]
    exact (h.next j (by omega)).1

theorem tokNew (hS : Sim B w0 g σ w) {xs : List AV} {sz e cap : Nat} (hsz : ∀ x ∈ xs, x.cells.length = sz) (h1 : (flat xs).all AV.one = true) {c : Array Value} (hr : RVL g (flat xs) (c.toList.take (xs.length * sz)))
    (hc : c.size = cap * sz) (hn : xs.length ≤ cap) (hm : cap ≤ maxLen) :
    ∃ g', g.Le g' ∧ Sim B w0 g' (σ.new (.tok xs.length e sz)) (w.alloc (.cells c e)) ∧ RV g' (.slice sz xs (.tok σ.next)) (.slice (some ⟨w.heap.size, 0, none⟩) xs.length cap) := by
  obtain ⟨hle, hs⟩ := hS.newTok c e xs.length cap sz hn hc hm
  refine ⟨_, hle, hs, SliceV.rv (vs := c.toList.take (xs.length * sz)) ⟨hsz, hr.mono hle, fun _ => rfl, fun i hi => ?_, h1, hn, ?_⟩⟩
  · rw [Ghost.add_F, Ghost.frz_F, Nat.zero_add]
    exact List.getElem?_eq_getElem hi
  · exact ⟨⟨w.heap.size, cap, sz⟩, by simp, .inl rfl, rfl, rfl⟩

theorem objNew (hS : Sim B w0 g σ w) {cs : List AV} {n sz e cap : Nat} (hl : cs.length = n * sz) (h1 : cs.all AV.one = true) {c : Array Value} (hr : RVL g cs (c.toList.take cs.length))
    (hc : c.size = cap * sz) (hn : n ≤ cap) (hm : cap ≤ maxLen) (gr : Bool) (hgr : gr = false → n = cap) :
    ∃ g', g.Le g' ∧ Sim B w0 g' (σ.new (.cells cs e sz gr)) (w.alloc (.cells c e)) ∧ RV g' (.rslice σ.next 0 n) (.slice (some ⟨w.heap.size, 0, none⟩) n cap) := by
  have hle : g.Le (g.add σ.next ⟨w.heap.size, cap, sz⟩) := Ghost.le_add (h := (hS.next _ (Nat.le_refl _)).1) _
  have hlc : cs.length ≤ c.size := by rw [hl, hc]; exact Nat.mul_le_mul_right _ hn
  obtain ⟨h2, hs⟩ := hS.new (.cells cs e sz gr) (.cells c e) cap sz ⟨⟨w.heap.size, cap, sz⟩, c, by simp, rfl, hS.size, heap_new w _, hlc, fun h => by rw [hl, hc, hgr h], hc, hm, hr.mono hle, h1, fun o => by rw [Ghost.add_F]; exact hS.F_new o⟩
  exact ⟨_, hle, hs, .rslice σ.next 0 n ⟨w.heap.size, cap, sz⟩ _ cap (by simp) (.inl (by simp)) (by simp) hn⟩

theorem append_none {t e n c n' : Nat} {base b : Option Addr} {sz : Nat} (ht : P.underlying t = some (.slice e)) (hz : szT P e = some sz) (hn : n ≤ c) (ty : Nat) (w : World) :
    (Builtin.append_ #[t, t] ty #[.slice base n c, .slice b 0 n']).run P w = .ok (.slice base n c) w := by
  have hl : ∀ x : Addr, (loadCells x 0).run P w = .ok #[] w := fun x => by simpa using run_loadCells_list (P := P) w x [] (by simp)
  cases base <;> cases b <;> simp [Builtin.append_, run_underlying ht, szT_run hz w, Builtin.lenOf, hn, Builtin.firstCells, hl, storeCells]

theorem dead_le (σ : State) (id : Nat) : (σ.set id .dead).Le σ := ⟨rfl, fun j => by
  by_cases e : j = id
  · right; simp [State.set, e]
  · left; simp [State.set, e]⟩

theorem grownCap_maxLen (w : World) {need old e : Nat} (h : need ≤ 4611686018427387904) : grownCap w need old e ≤ maxLen := grownCap_le_maxLen w need old e (by unfold maxLen; omega)

theorem zero_size (z : Array Value) (m sz : Nat) (h : z.size = sz) : (Builtin.zeroCells z m).size = m * sz := by rw [size_zeroCells, h]

theorem append_ok (hS : Sim B w0 g σ w) {ann : Ann} {t t' ty : Nat} {x y r : AV} {u v : Value} {σ' : State} (hx : RV g x u) (hy : RV g y v) (h : aappend P σ ann t t' x y = .ok r σ') :
    ∃ g' w' z, g.Le g' ∧ Sim B w0 g' σ' w' ∧ RV g' r z ∧ (Builtin.append_ #[t, t'] ty #[u, v]).run P w = .ok z w' := by
  unfold aappend at h
  split at h
  case h_2 => cases h
  rename_i e he
  have ht := elT_run he
  split at h
  case h_2 => cases h
  rename_i sz by' z k hsz hby hz hk
  split at h
  case h_2 => cases h
  rename_i ys hys
  have hsrc := elems_ok hS hy hys
  obtain ⟨ie, hie, hie1⟩ : ∃ ie, P.info? e = some ie ∧ ie.size = sz := by
    unfold szT at hsz
    cases hi : P.info? e with
    | none => simp [hi] at hsz
    | some i => simp [hi] at hsz; exact ⟨i, rfl, hsz⟩
  have hie2 : ie.bytes = by' := by simpa [byT, hie] using hby
  have hie3 : ie.zero = some z := by simpa [zerT, hie] using hz
  split at h
  · cases h
  rename_i htt
  have htt' : t' = t := Decidable.byContradiction htt
  subst htt'
  split at h
  · -- nothing is appended
    rename_i hemp
    have hy0 : ys = [] := by simpa using hemp
    subst hy0
    have hv : ∃ b n', v = .slice b 0 n' := by
      rcases hsrc.form with rfl | ⟨a, cap, vs, rfl, _⟩
      · exact ⟨none, 0, rfl⟩
      · exact ⟨some a, cap, rfl⟩
    obtain ⟨b, n', rfl⟩ := hv
    have hu : ∃ base n c, u = .slice base n c ∧ n ≤ c ∧ r = x ∧ σ' = σ := by
      split at h
      · cases h; cases hx; exact ⟨none, 0, 0, rfl, Nat.le_refl _, rfl, rfl⟩
      · cases h
        rcases hx.slice_inv with ⟨a, cap, vs, rfl, hv⟩ | ⟨rfl, rfl, rfl⟩
        · exact ⟨_, _, _, rfl, hv.hcap, rfl, rfl⟩
        · exact ⟨none, 0, 0, rfl, Nat.le_refl _, rfl, rfl⟩
      · cases h
        cases hx with
        | rslice _ _ _ i a cap h1 h2 h3 h4 => exact ⟨_, _, _, rfl, h4, rfl, rfl⟩
      · cases h
    obtain ⟨base, n, c, rfl, hn, rfl, rfl⟩ := hu
    exact ⟨g, w, _, .refl g, hS, hx, append_none ht hsz hn ty w⟩
  · rename_i hemp
    have hy0 : ys ≠ [] := by simpa using hemp
    have hylen : 0 < ys.length := List.length_pos_iff.2 hy0
    split at h
    case isFalse => cases h
    rename_i hpos
    obtain ⟨hpos, hzc⟩ := hpos
    obtain ⟨a, cap, vs, rfl, hvr, hvc, hv1⟩ : ∃ a cap vs, v = .slice (some a) ys.length cap ∧ RVL g (flat ys) vs ∧ (∀ j v, vs[j]? = some v → w.cell? (a.add j) = some v) ∧ (flat ys).all AV.one = true := by
      rcases hsrc.form with rfl | hf
      · exact absurd (hsrc.nil rfl) hy0
      · exact hf
    have hvl : vs.length = ys.length * ie.size := by rw [← hvr.1, flat_length hsrc.sz, hie1]
    have hvl' : vs.length = ys.length * sz := by rw [hvl, hie1]
    have hv1c := hvr.one hv1
    split at h
    · -- onto nil
      cases hx
      split at h
      case isFalse => cases h
      rename_i hb
      obtain ⟨hb1, hb2⟩ := hb
      have hrun := run_append_nil (P := P) w t' ty e ie z ht hie hie3 a ys.length cap vs hvl hvc hylen (by omega) (by rw [hie2]; omega)
      have hge : ys.length ≤ grownCap w ys.length 0 e := grownCap_ge w _ _ _
      have hmx : grownCap w ys.length 0 e ≤ maxLen := grownCap_maxLen w hb2
      have hcs : (vs.toArray ++ Builtin.zeroCells z.cells (grownCap w ys.length 0 e - ys.length)).size = grownCap w ys.length 0 e * sz := by
        rw [Array.size_append, zero_size _ _ sz hzc, List.size_toArray, hvl', ← Nat.add_mul]
        congr 1; omega
      have htk : (vs.toArray ++ Builtin.zeroCells z.cells (grownCap w ys.length 0 e - ys.length)).toList.take (ys.length * sz) = vs := by
        rw [Array.toList_append, ← hvl']; exact List.take_left
      split at h
      · cases h
        obtain ⟨g', h1, h2, h3⟩ := objNew hS.drew (e := e) (cs := flat ys) (n := ys.length) (by rw [flat_length hsrc.sz]) hv1 (c := vs.toArray ++ Builtin.zeroCells z.cells (grownCap w ys.length 0 e - ys.length)) (by rw [flat_length hsrc.sz, htk]; exact hvr) hcs hge hmx true (by simp)
        exact ⟨g', _, _, h1, h2, h3, hrun⟩
      · cases h
        obtain ⟨g', h1, h2, h3⟩ := tokNew hS.drew (e := e) hsrc.sz hv1 (c := vs.toArray ++ Builtin.zeroCells z.cells (grownCap w ys.length 0 e - ys.length)) (by rw [htk]; exact hvr) hcs hge hmx
        exact ⟨g', _, _, h1, h2, h3, hrun⟩
    · -- onto a full slice
      rename_i s xs
      split at h
      case isFalse => cases h
      rename_i hc
      obtain ⟨rfl, hb1, hb2⟩ := hc
      obtain ⟨a', cap', us, rfl, hu⟩ := hx.slice_inv1 (.inl (by simp))
      have hcap : cap' = xs.length := hu.hm
      subst hcap
      have hul : us.length = xs.length * ie.size := by rw [← hu.hr.1, flat_length hu.hsz, hie1]
      have huc : ∀ j v, us[j]? = some v → w.cell? (a'.add j) = some v := fun j v hj => by
        obtain ⟨hlt, rfl⟩ := List.getElem?_eq_some_iff.1 hj
        rw [addr_plain (hu.hsp (by omega)), add_at]
        exact hS.froz _ _ _ (hu.hF j hlt)
      have hrun := run_append_grow (P := P) w t' ty e ie z ht hie hie3 a' xs.length xs.length us hul huc a ys.length cap vs hvl hvc (by omega) (by omega) (by rw [hie2]; exact growslice_fits (by omega) hb1)
      have hge : xs.length + ys.length ≤ grownCap w (xs.length + ys.length) xs.length e := grownCap_ge w _ _ _
      have hmx := grownCap_maxLen w (old := xs.length) (e := e) hb2
      have hcs : (us.toArray ++ vs.toArray ++ Builtin.zeroCells z.cells (grownCap w (xs.length + ys.length) xs.length e - (xs.length + ys.length))).size = grownCap w (xs.length + ys.length) xs.length e * s := by
        rw [Array.size_append, Array.size_append, zero_size _ _ s hzc, List.size_toArray, List.size_toArray, hvl', hul, hie1, ← Nat.add_mul, ← Nat.add_mul]
        congr 1; omega
      have hxy : (xs ++ ys).length = xs.length + ys.length := List.length_append
      have htk : (us.toArray ++ vs.toArray ++ Builtin.zeroCells z.cells (grownCap w (xs.length + ys.length) xs.length e - (xs.length + ys.length))).toList.take ((xs ++ ys).length * s) = us ++ vs := by
        have : (us ++ vs).length = (xs ++ ys).length * s := by rw [List.length_append, hvl', hul, hie1, hxy, Nat.add_mul]
        rw [Array.toList_append, Array.toList_append, ← this]; exact List.take_left
      have hone : (flat (xs ++ ys)).all AV.one = true := by rw [flat_append, List.all_append, hu.h1, hv1]; rfl
      have hszs : ∀ x ∈ xs ++ ys, x.cells.length = s := fun x hx => (List.mem_append.1 hx).elim (hu.hsz x) (hsrc.sz x)
      split at h
      · cases h
        obtain ⟨g', h1, h2, h3⟩ := objNew hS.drew (e := e) (cs := flat (xs ++ ys)) (n := (xs ++ ys).length) (by rw [flat_length hszs]) hone
          (c := us.toArray ++ vs.toArray ++ Builtin.zeroCells z.cells (grownCap w (xs.length + ys.length) xs.length e - (xs.length + ys.length))) (by rw [flat_length hszs, htk, flat_append]; exact hu.hr.append hvr) hcs (by rw [hxy]; exact hge) hmx true (by simp)
        exact ⟨g', _, _, h1, h2, h3, by rw [hxy]; exact hrun⟩
      · cases h
        obtain ⟨g', h1, h2, h3⟩ := tokNew hS.drew (e := e) (xs := xs ++ ys) (sz := s) (fun x hx => (List.mem_append.1 hx).elim (hu.hsz x) (hsrc.sz x)) (by rw [flat_append, List.all_append, hu.h1, hv1]; rfl)
          (c := us.toArray ++ vs.toArray ++ Builtin.zeroCells z.cells (grownCap w (xs.length + ys.length) xs.length e - (xs.length + ys.length))) (by rw [htk, flat_append]; exact hu.hr.append hvr) hcs (by rw [hxy]; exact hge) hmx
        rw [hxy] at h2 h3
        exact ⟨g', _, _, h1, h2, h3, hrun⟩
    · -- onto a slice that may grow
      rename_i s xs id
      split at h
      case isFalse => cases h
      rename_i hc
      obtain ⟨rfl, hb1, hb2⟩ := hc
      split at h
      case h_2 => cases h
      rename_i n e' s' ho
      split at h
      case isFalse => cases h
      rename_i hc2
      obtain ⟨rfl, rfl, rfl⟩ := hc2
      cases h
      obtain ⟨a', cap', us, rfl, hu⟩ := hx.slice_inv1 (.inl (by simp))
      obtain ⟨i, hi, hadr, hcap, hsi⟩ := hu.hm
      have hobj := hS.objs id
      rw [ho] at hobj
      obtain ⟨i', c, hi', hs', hB, hh, hnt, hcsz, hmxt, hF⟩ := hobj
      rw [hi] at hi'; cases hi'
      have hul : us.length = xs.length * ie.size := by rw [← hu.hr.1, flat_length hu.hsz, hie1]
      have huc : ∀ j v, us[j]? = some v → w.cell? (a'.add j) = some v := fun j v hj => by
        obtain ⟨hlt, rfl⟩ := List.getElem?_eq_some_iff.1 hj
        rw [addr_plain (hu.hsp (by omega)), add_at]
        exact hS.froz _ _ _ (hu.hF j hlt)
      have hxy : (xs ++ ys).length = xs.length + ys.length := List.length_append
      by_cases hroom : xs.length + ys.length ≤ cap'
      · have ha' : a' = ⟨i.blk, 0, none⟩ := hadr.resolve_right (by omega)
        subst ha'
        have hmul : (xs.length + ys.length) * s' = xs.length * s' + ys.length * s' := Nat.add_mul ..
        have hcs' : c.size = cap' * s' := by rw [hcsz, hcap, hs']
        have hfit : xs.length * ie.size + vs.length ≤ c.size := by rw [hie1, hvl', ← hmul, hcs']; exact Nat.mul_le_mul_right _ hroom
        have hrun := run_append_room (P := P) w t' ty e' ie ht hie i.blk xs.length cap' c hh a ys.length cap vs hvl hvc hv1c hroom hfit
        obtain ⟨h1, h2⟩ := hS.grow ho hi hh vs ys.length (by rw [hvl', hs']) (by rw [← hcap]; exact hroom)
        have hus : us = c.toList.take (xs.length * s') := by
          apply List.ext_getElem?
          intro j
          rcases Nat.lt_or_ge j us.length with hj | hj
          · have h3 := hS.froz _ _ _ (hu.hF j hj)
            simp only [World.cell?, Nat.zero_add, hh, Option.isSome_none, Bool.false_eq_true, if_false] at h3
            have hlt : j < xs.length * s' := by rw [hul, hie1] at hj; exact hj
            rw [List.getElem?_take, if_pos hlt, List.getElem?_eq_getElem hj]
            have h3' : c[j]? = some us[j] := h3
            simpa using h3'.symm
          · rw [List.getElem?_eq_none hj, List.getElem?_eq_none]
            rw [List.length_take, hul, hie1] at *
            omega
        rw [hie1] at hrun
        refine ⟨_, _, _, h1, by rw [← hs']; rw [← hs'] at h2; exact h2, ?_, by rw [hs'] ; exact hrun⟩
        rw [← hxy]
        refine SliceV.rv (vs := us ++ vs) ⟨fun x hx => (List.mem_append.1 hx).elim (hu.hsz x) (hsrc.sz x), ?_, fun _ => rfl, fun q hq => ?_, by rw [flat_append, List.all_append, hu.h1, hv1]; rfl, by rw [hxy]; exact hroom, ?_⟩
        · rw [flat_append]; exact (hu.hr.append hvr).mono h1
        · rw [Ghost.add_F, Nat.zero_add, Ghost.frz_F, hs', ← hus]
          exact List.getElem?_eq_getElem hq
        · exact ⟨i, by simp, .inl rfl, hcap, hs'.symm⟩
      · have hrun := run_append_grow (P := P) w t' ty e' ie z ht hie hie3 a' xs.length cap' us hul huc a ys.length cap vs hvl hvc (by omega) (by omega) (by rw [hie2]; exact growslice_fits (by omega) hb1)
        have hge : xs.length + ys.length ≤ grownCap w (xs.length + ys.length) cap' e' := grownCap_ge w _ _ _
        have hmx := grownCap_maxLen w (old := cap') (e := e') hb2
        have hcs : (us.toArray ++ vs.toArray ++ Builtin.zeroCells z.cells (grownCap w (xs.length + ys.length) cap' e' - (xs.length + ys.length))).size = grownCap w (xs.length + ys.length) cap' e' * s' := by
          rw [Array.size_append, Array.size_append, zero_size _ _ s' hzc, List.size_toArray, List.size_toArray, hvl', hul, hie1, ← Nat.add_mul, ← Nat.add_mul]
          congr 1; omega
        have htk : (us.toArray ++ vs.toArray ++ Builtin.zeroCells z.cells (grownCap w (xs.length + ys.length) cap' e' - (xs.length + ys.length))).toList.take ((xs ++ ys).length * s') = us ++ vs := by
          have : (us ++ vs).length = (xs ++ ys).length * s' := by rw [List.length_append, hvl', hul, hie1, hxy, Nat.add_mul]
          rw [Array.toList_append, Array.toList_append, ← this]; exact List.take_left
        obtain ⟨g', h1, h2, h3⟩ := tokNew (hS.forget (dead_le σ id)).drew (e := e') (xs := xs ++ ys) (sz := s') (fun x hx => (List.mem_append.1 hx).elim (hu.hsz x) (hsrc.sz x)) (by rw [flat_append, List.all_append, hu.h1, hv1]; rfl)
          (c := us.toArray ++ vs.toArray ++ Builtin.zeroCells z.cells (grownCap w (xs.length + ys.length) cap' e' - (xs.length + ys.length))) (by rw [htk, flat_append]; exact hu.hr.append hvr) hcs (by rw [hxy]; exact hge) hmx
        rw [hxy] at h2 h3
        exact ⟨g', _, _, h1, h2, h3, hrun⟩
    · -- onto an object's slice
      rename_i id off len
      split at h
      case isFalse => cases h
      rename_i hc
      obtain ⟨rfl, hb1, hb2⟩ := hc
      split at h
      case h_2 => cases h
      rename_i cs e' s' gr ho
      split at h
      case isFalse => cases h
      rename_i hc2
      obtain ⟨rfl, rfl, hlen⟩ := hc2
      cases h
      obtain ⟨i, c, h1, hs, hB, hh, hlc, hg, hct, hmxt, hr, h1c, hF⟩ := hS.cells ho
      have hcl : (cs.take (len * s')).length = len * s' := by simp; omega
      have hrl : RVL g (cs.take (len * s')) (c.toList.take (len * s')) := by
        have := hr.take (len * s')
        rwa [List.take_take, Nat.min_eq_left hlen] at this
      have h1l : (cs.take (len * s')).all AV.one = true := by
        rw [List.all_eq_true] at h1c ⊢; exact fun x hx => h1c x (List.mem_of_mem_take hx)
      have hul : (c.toList.take (len * s')).length = len * ie.size := by rw [← hrl.1, hcl, hie1]
      have hnl : (cs.take (len * s') ++ flat ys).length = (len + ys.length) * s' := by rw [List.length_append, hcl, flat_length hsrc.sz, Nat.add_mul]
      have hone : (cs.take (len * s') ++ flat ys).all AV.one = true := by rw [List.all_append, h1l, hv1]; rfl
      cases hx with
      | rslice _ _ _ i' a' cap' hi hadr hcap hlen' =>
        rw [hi] at h1; cases h1
        have hcap' : cap' = i.tot := by omega
        by_cases hroom : len + ys.length ≤ cap'
        · have ha' : a' = ⟨i.blk, 0, none⟩ := by have := hadr.resolve_right (by omega); simpa using this
          subst ha'
          have hmul : (len + ys.length) * s' = len * s' + ys.length * s' := Nat.add_mul ..
          have hcs' : c.size = cap' * s' := by rw [hct, hcap', hs]
          have hfit0 : len * s' + vs.length ≤ c.size := by rw [hvl', ← hmul, hcs']; exact Nat.mul_le_mul_right _ hroom
          have hrun := run_append_room (P := P) w t' ty e' ie ht hie i.blk len cap' c hh a ys.length cap vs hvl hvc hv1c hroom (by rw [hie1]; exact hfit0)
          rw [hie1] at hrun
          have hc's : (c.toList.take (len * s') ++ vs ++ c.toList.drop (len * s' + vs.length)).toArray.size = c.size := by simp; omega
          have htk : (c.toList.take (len * s') ++ vs ++ c.toList.drop (len * s' + vs.length)).toArray.toList.take (cs.take (len * s') ++ flat ys).length = c.toList.take (len * s') ++ vs := by
            have : (c.toList.take (len * s') ++ vs).length = (cs.take (len * s') ++ flat ys).length := by rw [List.length_append, List.length_append, hul, hie1, hcl, hvr.1]
            rw [← this]; exact List.take_left
          obtain ⟨k1, k2⟩ := hS.regrow ho hi hh (cs.take (len * s') ++ flat ys) hc's (by rw [hc's, hnl, hmul, ← hvl']; exact hfit0) (by rw [htk]; exact hrl.append hvr) hone
          refine ⟨_, _, _, k1, k2, .rslice σ.next 0 (len + ys.length) i ⟨i.blk, 0, none⟩ cap' (by simp) (.inl (by simp)) (by omega) hroom, hrun⟩
        · have huc : ∀ j v, (c.toList.take (len * s'))[j]? = some v → w.cell? (a'.add j) = some v := fun j v hj => by
            rw [List.getElem?_take] at hj
            split at hj
            · have hc0 : cap' ≠ 0 := by
                intro e0; subst e0
                have : len = 0 := by omega
                subst this; omega
              rw [hadr.resolve_right hc0, add_at]
              simp only [World.cell?, hh, Nat.zero_mul, Nat.zero_add, Option.isSome_none, Bool.false_eq_true, if_false]
              simpa using hj
            · cases hj
          have hrun := run_append_grow (P := P) w t' ty e' ie z ht hie hie3 a' len cap' (c.toList.take (len * s')) hul huc a ys.length cap vs hvl hvc (by omega) (by omega) (by rw [hie2]; exact growslice_fits (by omega) hb1)
          have hge : len + ys.length ≤ grownCap w (len + ys.length) cap' e' := grownCap_ge w _ _ _
          have hmx := grownCap_maxLen w (old := cap') (e := e') hb2
          have hcs : ((c.toList.take (len * s')).toArray ++ vs.toArray ++ Builtin.zeroCells z.cells (grownCap w (len + ys.length) cap' e' - (len + ys.length))).size = grownCap w (len + ys.length) cap' e' * s' := by
            rw [Array.size_append, Array.size_append, zero_size _ _ s' hzc, List.size_toArray, List.size_toArray, hvl', hul, hie1, ← Nat.add_mul, ← Nat.add_mul]
            congr 1; omega
          have htk : ((c.toList.take (len * s')).toArray ++ vs.toArray ++ Builtin.zeroCells z.cells (grownCap w (len + ys.length) cap' e' - (len + ys.length))).toList.take (cs.take (len * s') ++ flat ys).length = c.toList.take (len * s') ++ vs := by
            have : (c.toList.take (len * s') ++ vs).length = (cs.take (len * s') ++ flat ys).length := by rw [List.length_append, List.length_append, hul, hie1, hcl, hvr.1]
            rw [Array.toList_append, Array.toList_append, ← this]; exact List.take_left
          obtain ⟨g', k1, k2, k3⟩ := objNew (hS.forget (dead_le σ id)).drew (e := e') hnl hone (c := (c.toList.take (len * s')).toArray ++ vs.toArray ++ Builtin.zeroCells z.cells (grownCap w (len + ys.length) cap' e' - (len + ys.length))) (by rw [htk]; exact hrl.append hvr) hcs hge hmx true (by simp)
          exact ⟨g', _, _, k1, k2, k3, hrun⟩
    · cases h

end
end Go.V
