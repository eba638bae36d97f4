/- The entry into a law: data, read as abstract values. -/
import Derived.Test.YtgnjidopnplbbaaGreatDoorU6
import Derived.ProofKit
import Derived.LaidLaws
import Derived.LaidHandle
import Derived.Test.YtgnjidopnplbbaaGreatDoorRows
set_option maxRecDepth 100000
set_option linter.unusedVariables false
set_option linter.unusedSimpArgs false
set_option linter.unusedSectionVars false
namespace Go.V
open Go Go.Proofs

/-- All cells of a world, frozen. -/
def ghost0 (W : World) : Ghost := ⟨fun b o => W.cell? ⟨b, o, none⟩, fun _ => none, fun _ => none⟩

theorem sim0 (W : World) : Sim W.heap.size W (ghost0 W) noObj W where
  below := Go.RowKit.Below.refl _ _
  size := Nat.le_refl _
  froz b o v h := h
  objs id := trivial
  inj i j pi pj h1 := by cases h1
  next id h := ⟨rfl, rfl⟩
  res b x h := by cases h
  resF b o x h := by cases h
  resO id i h1 h2 := by cases h2

section
variable {H : Type} {enc : TypeId × Value → H} {P : Program} {W : World} {sp : Nat → Bool} {held : Bool}

/-- What is read as data of the type t is, in cells, f of something. -/
def Pull (enc : TypeId × Value → H) (P : Program) (W : World) (sp : Nat → Bool) (held : Bool) (n : Nat) (t : TypeId) {α : Type} (f : α → List AV) : Prop :=
  ∀ cs d p, DataW.trod enc P W 0 sp held n t cs = some (d, p) → ∃ a, RVL (ghost0 W) (f a) cs

theorem pull_zero {t : TypeId} {α : Type} {f : α → List AV} : Pull enc P W sp held 0 t f := fun cs d p h => by
  simp [DataW.trod] at h

theorem pull_int {n : Nat} {t : TypeId} {k : IntKind} (hu : P.underlying t = some (.int k)) : Pull enc P W sp held n t (fun x : Int => [.int k x]) := fun cs d p h => by
  obtain ⟨x, rfl, _⟩ := DataW.trod_int hu h
  exact ⟨x, .cons (.int _ _) (.nil _)⟩
theorem pull_bool {n : Nat} {t : TypeId} (hu : P.underlying t = some .bool) : Pull enc P W sp held n t (fun x : Bool => [.bool x]) := fun cs d p h => by
  obtain ⟨x, rfl, _⟩ := DataW.trod_bool hu h
  exact ⟨x, .cons (.bool _) (.nil _)⟩
theorem pull_str {n : Nat} {t : TypeId} (hu : P.underlying t = some .string) : Pull enc P W sp held n t (fun x : ByteArray => [.str x]) := fun cs d p h => by
  obtain ⟨x, rfl, _⟩ := DataW.trod_string hu h
  exact ⟨x, .cons (.str _) (.nil _)⟩

/-- Cells of a world, one after the other. -/
def cellsAt (W : World) (b o : Nat) (vs : List Value) : Prop := ∀ i (h : i < vs.length), W.cell? ⟨b, o + i, none⟩ = some vs[i]
theorem cellsAt.append {b o : Nat} {us vs : List Value} (h : cellsAt W b o us) (k : cellsAt W b (o + us.length) vs) : cellsAt W b o (us ++ vs) := fun i hi => by
  by_cases h1 : i < us.length
  · rw [List.getElem_append_left h1]; exact h i h1
  · rw [List.getElem_append_right (by omega)]
    have := k (i - us.length) (by simp at hi; omega)
    rw [show o + us.length + (i - us.length) = o + i by omega] at this
    exact this
theorem cells_spot {a : Addr} {i n : Nat} {cs : List Value} (h : W.cells? 0 (a.add i) n = some cs) (hn : 0 < n) (h0 : i = 0 → a.spot = none) : cs.length = n ∧ cellsAt W a.block (a.off + i) cs := by
  obtain ⟨_, hl, hc⟩ := World.cells?_some h
  refine ⟨hl, fun j hj => ?_⟩
  have h1 := hc j (by omega)
  rw [List.getElem?_eq_getElem hj] at h1
  have : (a.add i).add j = ⟨a.block, a.off + i + j, none⟩ := by
    unfold Addr.add
    by_cases hi : i = 0
    · subst hi
      have hs := h0 rfl
      obtain ⟨b, o, s⟩ := a
      simp only at hs
      subst hs
      by_cases hj0 : j = 0
      · subst hj0; rfl
      · simp [hj0]
    · rw [if_neg hi]
      by_cases hj0 : j = 0
      · subst hj0; rfl
      · simp [hj0]
  rw [this] at h1
  exact h1

/-- Elements, one after the other. -/
theorem pull_elems {α : Type} {f : α → List AV} {mk : α → AV} {n sz : Nat} {e : TypeId} (hsz : P.cellsOf e = sz) (h0 : 0 < sz) (hp : Pull enc P W sp held n e f) (hmk : ∀ a, (mk a).cells = f a)
    {a : Addr} (hs : a.spot = none) : ∀ (len k : Nat) (xs : List (DataW H × List MemPlace)),
    (∀ i, i < len → ∃ x, (W.cells? 0 (a.add ((k + i) * P.cellsOf e)) (P.cellsOf e)).bind (DataW.trod enc P W 0 sp held n e) = some x) →
    ∃ (l : List α) (vs : List Value), l.length = len ∧ vs.length = len * sz ∧ cellsAt W a.block (a.off + k * sz) vs ∧ RVL (ghost0 W) (flat (l.map mk)) vs
  | 0, k, xs, h => ⟨[], [], rfl, by simp, fun i h => by simp at h, RVL.nil _⟩
  | len + 1, k, xs, h => by
    obtain ⟨x, hx⟩ := h 0 (by omega)
    obtain ⟨l, vs, h1, h2, h3, h4⟩ := pull_elems hsz h0 hp hmk hs len (k + 1) [] fun i hi => by
      have := h (i + 1) (by omega)
      rw [show k + (i + 1) = k + 1 + i by omega] at this
      exact this
    rw [hsz, Option.bind_eq_some_iff] at hx
    obtain ⟨cs, hc, ht⟩ := hx
    obtain ⟨c1, c2⟩ := cells_spot hc h0 fun _ => hs
    obtain ⟨a0, ha⟩ := hp cs x.1 x.2 ht
    refine ⟨a0 :: l, cs ++ vs, by simp [h1], by simp [h2, c1, Nat.add_mul]; omega, c2.append ?_, ?_⟩
    · rw [c1]
      have e : a.off + (k + 0) * sz + sz = a.off + (k + 1) * sz := by simp only [Nat.add_mul, Nat.zero_mul, Nat.one_mul]; omega
      rw [e]
      exact h3
    · have : flat ((a0 :: l).map mk) = f a0 ++ flat (l.map mk) := by simp [flat, hmk]
      rw [this]
      exact ha.append h4

theorem pull_slice {α : Type} {f : α → List AV} {mk : α → AV} {n sz : Nat} {t e : TypeId} (hu : P.underlying t = some (.slice e)) (hsz : P.cellsOf e = sz) (h0 : 0 < sz) (hmk : ∀ a, (mk a).cells = f a) (hfl : ∀ a, (f a).length = sz)
    (hone : ∀ a, (f a).all AV.one = true) (hp : Pull enc P W sp held n e f) : Pull enc P W sp held (n + 1) t (fun l : List α => [.slice sz (l.map mk) .any]) := fun cs d p h => by
  rcases DataW.trod_slice hu h with ⟨rfl, _⟩ | ⟨a, len, cap, elems, rest, m, hn, rfl, _, _, hlen, hcap, g1, g2, _⟩
  · exact ⟨[], .cons (.nilany _) (.nil _)⟩
  · obtain rfl : n = m := by omega
    by_cases hl0 : len = 0
    · subst hl0
      exact ⟨[], .cons (.slice sz [] .any a cap [] (by simp) rfl (by simp) (fun i h => by simp at h) rfl (fun i h => by simp [flat] at h) (by simp) trivial) (.nil _)⟩
    have g2' : ∀ i, i < len → ∃ x, (W.cells? 0 (a.add (i * P.cellsOf e)) (P.cellsOf e)).bind (DataW.trod enc P W 0 sp held n e) = some x := fun i hi => by
      refine ⟨elems[i]'(by omega), ?_⟩
      rw [g2 i hi, List.getElem?_eq_getElem]
    have hspot : a.spot = none := by
      obtain ⟨x, this⟩ := g2' 0 (by omega)
      simp only [Option.bind_eq_some_iff] at this
      obtain ⟨cs, hc, _⟩ := this
      obtain ⟨_, hl, hc⟩ := World.cells?_some hc
      have h1 := hc 0 (by omega)
      rw [List.getElem?_eq_getElem (by omega)] at h1
      have := World.cell?_spot h1
      simpa [Addr.add] using this
    obtain ⟨l, vs, h1, h2, h3, h4⟩ := pull_elems (mk := mk) hsz h0 hp hmk hspot len 0 [] fun i hi => by
      rw [Nat.zero_add]; exact g2' i hi
    refine ⟨l, .cons ?_ (.nil _)⟩
    have hm : (l.map mk).length = len := by simp [h1]
    have := RV.slice (g := ghost0 W) sz (l.map mk) .any a cap vs (by
      intro x hx
      obtain ⟨y, hy, rfl⟩ := List.mem_map.1 hx
      rw [hmk, hfl]) h4.1 (fun _ => hspot) (fun i hi => by
        have := h3 i hi
        simp only [Nat.zero_mul, Nat.add_zero] at this
        exact this) (by
        rw [flat, List.all_flatMap, List.all_map]
        exact List.all_eq_true.2 fun y hy => by simp [hmk, hone]) h4.2 (by rw [hm]; exact hlen) trivial
    rw [hm] at this
    exact this

theorem pull_map {α β : Type} {f : α → List AV} {g : β → List AV} {n : Nat} {t : TypeId} (h : Pull enc P W sp held n t f) (m : α → β) (hm : ∀ a, g (m a) = f a) : Pull enc P W sp held n t g := fun cs d p k => by
  obtain ⟨a, ha⟩ := h cs d p k
  exact ⟨m a, by rw [hm]; exact ha⟩

/-- Fields, from the k-th cell on. -/
def PullF (enc : TypeId × Value → H) (P : Program) (W : World) (sp : Nat → Bool) (held : Bool) (n : Nat) (N : Nat) (fs : List (TypeId × Nat)) (k : Nat) {α : Type} (f : α → List AV) : Prop :=
  ∀ cs : List Value, cs.length = N → (∀ fd ∈ fs, ∃ x, DataW.trod enc P W 0 sp held n fd.1 ((cs.drop fd.2).take (P.cellsOf fd.1)) = some x) → ∃ a, RVL (ghost0 W) (f a) (cs.drop k)
theorem pullF_nil {n N : Nat} : PullF enc P W sp held n N [] N (fun _ : Unit => []) := fun cs hl h => ⟨(), by
  rw [List.drop_of_length_le (by omega)]; exact RVL.nil _⟩
theorem pullF_cons {α β : Type} {f : α → List AV} {g : β → List AV} {n N k m : Nat} {t : TypeId} {fs : List (TypeId × Nat)} (hm : P.cellsOf t = m) (hp : Pull enc P W sp held n t f) (hr : PullF enc P W sp held n N fs (k + m) g) :
    PullF enc P W sp held n N ((t, k) :: fs) k (fun x : α × β => f x.1 ++ g x.2) := fun cs hl h => by
  obtain ⟨b, hb⟩ := h _ (.head _)
  obtain ⟨a, ha⟩ := hp _ b.1 b.2 hb
  obtain ⟨c, hc⟩ := hr cs hl fun fd hf => h fd (.tail _ hf)
  refine ⟨(a, c), ?_⟩
  have := ha.append hc
  dsimp only at this
  rw [hm, ← List.drop_drop, List.take_append_drop] at this
  exact this

/-- The fields of a struct: types and offsets. -/
def fieldsOf (P : Program) (t : TypeId) : List (TypeId × Nat) :=
  match P.underlying t with
  | some (.struct fs) => fs.toList.map fun f => (f.type, f.offset)
  | _ => []
theorem fieldsOf_some {P : Program} {t : TypeId} {l : List (TypeId × Nat)} (h : fieldsOf P t = l) (h0 : l ≠ []) : ∃ fs : Array Field, P.underlying t = some (.struct fs) ∧ fs.toList.map (fun f => (f.type, f.offset)) = l := by
  unfold fieldsOf at h
  split at h
  · exact ⟨_, by assumption, h⟩
  · exact absurd h.symm h0

theorem pull_struct {α : Type} {f : α → List AV} {n N : Nat} {t : TypeId} {l : List (TypeId × Nat)} (hu : fieldsOf P t = l) (h0 : l ≠ []) (hN : P.cellsOf t = N) (hp : PullF enc P W sp held n N l 0 f) : Pull enc P W sp held (n + 1) t f := fun cs d p h => by
  obtain ⟨fs, h1, h2⟩ := fieldsOf_some hu h0
  obtain ⟨xs, m, hn, _, hl, hx, hf⟩ := DataW.trod_struct h1 h
  obtain rfl : n = m := by omega
  obtain ⟨a, ha⟩ := hp cs (by omega) fun fd hfd => by
    rw [← h2] at hfd
    obtain ⟨g, hg, rfl⟩ := List.mem_map.1 hfd
    obtain ⟨i, hi, rfl⟩ := List.getElem_of_mem hg
    have hi' : i < fs.size := by simpa using hi
    refine ⟨xs[i]'(by omega), ?_⟩
    have := hf i fs[i] (by simp [hi'])
    rw [List.getElem?_eq_getElem (by omega)] at this
    simpa using this
  exact ⟨a, by simpa using ha⟩
end

section
variable {H : Type} {enc : TypeId × Value → H} {W : World} {sp : Nat → Bool} {held : Bool}
open Go.Proofs (Tryz.prog)

theorem un3 : Tryz.prog.underlying 3 = some (.int .i64) := by kernel_rfl
theorem un4 : Tryz.prog.underlying 4 = some .bool := by kernel_rfl
theorem un9 : Tryz.prog.underlying 9 = some .string := by kernel_rfl
theorem un22 : Tryz.prog.underlying 22 = some (.slice 23) := by kernel_rfl
theorem un23 : Tryz.prog.underlying 23 = some (.slice 37) := by kernel_rfl
theorem un26 : Tryz.prog.underlying 26 = some (.slice 3) := by kernel_rfl
theorem un32 : Tryz.prog.underlying 32 = some (.slice 39) := by kernel_rfl
theorem un92 : Tryz.prog.underlying 92 = some (.slice 96) := by kernel_rfl
theorem fo37 : fieldsOf Tryz.prog 37 = [(3, 0), (3, 1), (9, 2), (23, 3)] := by kernel_rfl
theorem fo39 : fieldsOf Tryz.prog 39 = [(4, 0), (37, 1)] := by kernel_rfl
theorem fo47 : fieldsOf Tryz.prog 47 = [(3, 0), (3, 1), (22, 2), (23, 3)] := by kernel_rfl
theorem fo94 : fieldsOf Tryz.prog 94 = [(3, 0), (92, 1)] := by kernel_rfl
theorem fo96 : fieldsOf Tryz.prog 96 = [(3, 0), (3, 1), (3, 2), (37, 3)] := by kernel_rfl
theorem co3 : Tryz.prog.cellsOf 3 = 1 := by kernel_rfl
theorem co4 : Tryz.prog.cellsOf 4 = 1 := by kernel_rfl
theorem co9 : Tryz.prog.cellsOf 9 = 1 := by kernel_rfl
theorem co22 : Tryz.prog.cellsOf 22 = 1 := by kernel_rfl
theorem co23 : Tryz.prog.cellsOf 23 = 1 := by kernel_rfl
theorem co26 : Tryz.prog.cellsOf 26 = 1 := by kernel_rfl
theorem co92 : Tryz.prog.cellsOf 92 = 1 := by kernel_rfl
theorem co37 : Tryz.prog.cellsOf 37 = 4 := by kernel_rfl
theorem co39 : Tryz.prog.cellsOf 39 = 5 := by kernel_rfl
theorem co47 : Tryz.prog.cellsOf 47 = 4 := by kernel_rfl
theorem co94 : Tryz.prog.cellsOf 94 = 2 := by kernel_rfl
theorem co96 : Tryz.prog.cellsOf 96 = 7 := by kernel_rfl

theorem tc_one (t : T) : (tc t).all AV.one = true := rfl
theorem pull_T : ∀ n, Pull enc Tryz.prog W sp held n 37 tc ∧ Pull enc Tryz.prog W sp held (n + 1) 23 (fun l : List T => [.slice 4 (l.map tcell) .any])
  | 0 => ⟨pull_zero, pull_slice un23 co37 (by omega) (fun a => by rw [tcell_eq]; rfl) (fun a => rfl) tc_one pull_zero⟩
  | n + 1 => by
    have ih := pull_T n
    have h37 : Pull enc Tryz.prog W sp held (n + 1) 37 tc := pull_map
      (pull_struct fo37 (by simp) co37 (pullF_cons co3 (pull_int un3) (pullF_cons co3 (pull_int un3) (pullF_cons co9 (pull_str un9) (pullF_cons co23
        (f := fun l : List T => [.slice 4 (l.map tcell) .any]) (by
          cases n with
          | zero => exact pull_zero
          | succ n => exact (pull_T n).2) pullF_nil)))))
      (fun x => T.mk x.1 x.2.1 x.2.2.1 x.2.2.2.1) fun x => by simp [tc, T.k, T.n, T.s, T.l, tcellL_eq]
    exact ⟨h37, pull_slice un23 co37 (by omega) (fun a => by rw [tcell_eq]; rfl) (fun a => rfl) tc_one h37⟩
theorem pull_37 (n : Nat) : Pull enc Tryz.prog W sp held n 37 tc := (pull_T n).1
theorem pull_23 (n : Nat) : Pull enc Tryz.prog W sp held n 23 (fun l : List T => [.slice 4 (l.map tcell) .any]) := by
  cases n with
  | zero => exact pull_zero
  | succ n => exact (pull_T n).2
theorem pull_22 (n : Nat) : Pull enc Tryz.prog W sp held n 22 (fun l : List (List T) => [.slice 1 (l.map fun l => .slice 4 (l.map tcell) .any) .any]) := by
  cases n with
  | zero => exact pull_zero
  | succ n => exact pull_slice un22 co23 (by omega) (fun a => rfl) (fun a => rfl) (fun a => rfl) (pull_23 n)
theorem pull_26 (n : Nat) : Pull enc Tryz.prog W sp held n 26 (fun l : List Int => [.slice 1 (l.map fun x => .int .i64 x) .any]) := by
  cases n with
  | zero => exact pull_zero
  | succ n => exact pull_slice un26 co3 (by omega) (fun a => rfl) (fun a => rfl) (fun a => rfl) (pull_int un3)
end
end Go.V
