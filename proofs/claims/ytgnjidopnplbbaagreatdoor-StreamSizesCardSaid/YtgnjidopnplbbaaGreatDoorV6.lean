/- The V-model, part 6: slices, fields, indexes, lengths. -/
import Derived.Test.YtgnjidopnplbbaaGreatDoorV5
set_option linter.unusedSimpArgs false
set_option linter.unusedVariables false
namespace Go.V
open Go.RowKit

theorem flat_nil : flat [] = [] := rfl
theorem flat_cons (x : AV) (xs : List AV) : flat (x :: xs) = x.cells ++ flat xs := rfl
theorem flat_append (xs ys : List AV) : flat (xs ++ ys) = flat xs ++ flat ys := by simp [flat]
theorem flat_length {sz : Nat} : ∀ {xs : List AV}, (∀ x ∈ xs, x.cells.length = sz) → (flat xs).length = xs.length * sz
  | [], _ => by simp [flat]
  | x :: xs, h => by
    rw [flat_cons, List.length_append, h x (by simp), flat_length (fun y hy => h y (by simp [hy])), List.length_cons, Nat.succ_mul]
    omega
theorem flat_drop {sz : Nat} : ∀ {xs : List AV} (l : Nat), (∀ x ∈ xs, x.cells.length = sz) → flat (xs.drop l) = (flat xs).drop (l * sz)
  | xs, 0, _ => by simp
  | [], l + 1, _ => by simp [flat]
  | x :: xs, l + 1, h => by
    rw [List.drop_succ_cons, flat_drop l (fun y hy => h y (by simp [hy])), flat_cons, Nat.succ_mul, List.drop_append]
    have hx := h x (by simp)
    rw [List.drop_of_length_le (l := x.cells) (by omega), List.nil_append]
    congr 1
    omega
theorem flat_take {sz : Nat} : ∀ {xs : List AV} (l : Nat), (∀ x ∈ xs, x.cells.length = sz) → flat (xs.take l) = (flat xs).take (l * sz)
  | xs, 0, _ => by simp [flat]
  | [], l + 1, _ => by simp [flat]
  | x :: xs, l + 1, h => by
    rw [List.take_succ_cons, flat_cons, flat_take l (fun y hy => h y (by simp [hy])), flat_cons, Nat.succ_mul, List.take_append]
    have hx := h x (by simp)
    rw [List.take_of_length_le (l := x.cells) (by omega)]
    congr 2
    omega
theorem flat_get {sz : Nat} {xs : List AV} (h : ∀ x ∈ xs, x.cells.length = sz) {i : Nat} {x : AV} (hx : xs[i]? = some x) : x.cells = ((flat xs).drop (i * sz)).take sz := by
  obtain ⟨hi, rfl⟩ := List.getElem?_eq_some_iff.1 hx
  rw [← flat_drop i h, List.drop_eq_getElem_cons hi, flat_cons, List.take_append]
  have := h xs[i] (List.getElem_mem hi)
  rw [List.take_of_length_le (l := xs[i].cells) (by omega), this]
  simp

theorem addr_add (a : Addr) (n : Nat) : (a.add n).block = a.block ∧ (a.add n).off = a.off + n ∧ (a.spot = none → (a.add n).spot = none) := by
  unfold Addr.add
  split
  · rename_i h; subst h; exact ⟨rfl, rfl, fun h => h⟩
  · exact ⟨rfl, rfl, fun _ => rfl⟩
theorem addr_plain {a : Addr} (h : a.spot = none) : a = ⟨a.block, a.off, none⟩ := by cases a; simp_all

/-- What a slice value's relation holds, told as one piece. -/
structure SliceV (g : Ghost) (sz : Nat) (xs : List AV) (m : Cap) (a : Addr) (cap : Nat) (vs : List Value) : Prop where
  hsz : ∀ x ∈ xs, x.cells.length = sz
  hr : RVL g (flat xs) vs
  hsp : 0 < vs.length → a.spot = none
  hF : ∀ i (h : i < vs.length), g.F a.block (a.off + i) = some vs[i]
  h1 : (flat xs).all AV.one = true
  hcap : xs.length ≤ cap
  hm : capOk g m a xs.length cap sz

theorem RV.slice_inv {g : Ghost} {sz : Nat} {xs : List AV} {m : Cap} {u : Value} (h : RV g (.slice sz xs m) u) :
    (∃ a cap vs, u = .slice (some a) xs.length cap ∧ SliceV g sz xs m a cap vs) ∨ (xs = [] ∧ m = .any ∧ u = .slice none 0 0) := by
  cases h with
  | slice _ _ _ a cap vs hsz hl hsp hF h1 hr hcap hm => exact .inl ⟨a, cap, vs, rfl, hsz, ⟨hl, hr⟩, hsp, hF, h1, hcap, hm⟩
  | nilany _ => exact .inr ⟨rfl, rfl, rfl⟩
theorem RV.slice_inv1 {g : Ghost} {sz : Nat} {xs : List AV} {m : Cap} {u : Value} (h : RV g (.slice sz xs m) u) (hm : m ≠ .any ∨ xs ≠ []) :
    ∃ a cap vs, u = .slice (some a) xs.length cap ∧ SliceV g sz xs m a cap vs := by
  rcases h.slice_inv with h | ⟨h1, h2, _⟩
  · exact h
  · rcases hm with h | h
    · exact absurd h2 h
    · exact absurd h1 h
theorem SliceV.rv {g : Ghost} {sz : Nat} {xs : List AV} {m : Cap} {a : Addr} {cap : Nat} {vs : List Value} (h : SliceV g sz xs m a cap vs) : RV g (.slice sz xs m) (.slice (some a) xs.length cap) :=
  .slice sz xs m a cap vs h.hsz h.hr.1 h.hsp h.hF h.h1 h.hr.2 h.hcap h.hm

section
variable {P : Program} {B : Nat} {w0 : World} {g : Ghost} {σ : State} {w : World}

theorem bound_ok {x : AV} {u : Value} (hx : RV g x u) {y Y n : Nat} (h : abound x y = some n) (hY : y ≤ Y) (code : BoundsCode) (w : World) : (Instr.sliceBound u Y code).run P w = .ok n w ∧ n ≤ y := by
  unfold abound at h
  split at h
  · split at h
    · rename_i k i hc
      cases h; cases hx
      have h1 : 0 ≤ i ∧ i ≤ (Y : Int) := by omega
      refine ⟨by simp [Instr.sliceBound, asIntOf, h1], by omega⟩
    · cases h
  · cases h

inductive RVO (g : Ghost) : Option AV → Option Value → Prop where
  | none : RVO g none none
  | some (x : AV) (u : Value) (h : RV g x u) : RVO g (some x) (some u)

theorem bounds_ok {lo hi : Option AV} {lo' hi' : Option Value} (hl : RVO g lo lo') (hh : RVO g hi hi') {len cap top l h : Nat} (ha : abounds len lo hi top = some (l, h)) (ht : top ≤ cap) (hlen : len ≤ top) (s : Bool) (w : World) :
    (Instr.sliceBounds s len cap lo' hi' none).run P w = .ok (l, h, cap) w ∧ l ≤ h ∧ h ≤ top := by
  unfold abounds at ha
  split at ha
  · rename_i h0 hh0
    split at ha
    · rename_i l0 hl0
      cases ha
      have key : ∀ (hl1 : h ≤ top) (hl2 : l ≤ h), (Instr.sliceBounds s len cap lo' hi' none).run P w = .ok (l, h, cap) w → (Instr.sliceBounds s len cap lo' hi' none).run P w = .ok (l, h, cap) w ∧ l ≤ h ∧ h ≤ top := fun a b c => ⟨c, b, a⟩
      cases hh with
      | none =>
        simp at hh0; subst hh0
        cases hl with
        | none => simp at hl0; subst hl0; exact key hlen (Nat.zero_le _) rfl
        | some x u hr =>
          have e := bound_ok (P := P) hr hl0 (Nat.le_refl _) .sliceB w
          refine key hlen e.2 ?_
          simp only [Instr.sliceBounds, Sem.run_bind, Sem.run_pure, Result.andThen_ok, Option.isSome_none, Bool.false_eq_true, if_false, e.1]
      | some y v hr' =>
        have e' := bound_ok (P := P) hr' hh0 ht (if s then .sliceAcap else .sliceAlen) w
        cases hl with
        | none =>
          simp at hl0; subst hl0
          refine key e'.2 (Nat.zero_le _) ?_
          simp only [Instr.sliceBounds, Sem.run_bind, Sem.run_pure, Result.andThen_ok, e'.1]
        | some x u hr =>
          have e := bound_ok (P := P) hr hl0 (Nat.le_refl _) .sliceB w
          refine key e'.2 e.2 ?_
          simp only [Instr.sliceBounds, Sem.run_bind, Sem.run_pure, Result.andThen_ok, e'.1, Option.isSome_none, Bool.false_eq_true, if_false, e.1]
    · cases ha
  · cases ha

theorem bounds3_ok {lo hi : Option AV} {lo' hi' : Option Value} {mx : AV} {mx' : Value} (hl : RVO g lo lo') (hh : RVO g hi hi') (hm : RV g mx mx') {len cap top c l h : Nat} (hc : abound mx top = some c) (hhs : hi.isSome = true)
    (ha : abounds len lo hi c = some (l, h)) (ht : top ≤ cap) (w : World) :
    (Instr.sliceBounds true len cap lo' hi' (some mx')).run P w = .ok (l, h, c) w ∧ l ≤ h ∧ h ≤ c ∧ c ≤ top := by
  have h0 := bound_ok (P := P) hm hc ht .slice3Acap w
  unfold abounds at ha
  split at ha
  · rename_i h1 hh0
    split at ha
    · rename_i l0 hl0
      cases ha
      cases hh with
      | none => simp at hhs
      | some y v hr' =>
        have e' := bound_ok (P := P) hr' hh0 (Nat.le_refl _) .slice3B w
        cases hl with
        | none =>
          simp at hl0; subst hl0
          refine ⟨?_, Nat.zero_le _, e'.2, h0.2⟩
          simp only [Instr.sliceBounds, Sem.run_bind, Sem.run_pure, Result.andThen_ok, if_true, h0.1, e'.1]
        | some x u hr =>
          have e := bound_ok (P := P) hr hl0 (Nat.le_refl _) .slice3C w
          refine ⟨?_, e.2, e'.2, h0.2⟩
          simp only [Instr.sliceBounds, Sem.run_bind, Sem.run_pure, Result.andThen_ok, if_true, h0.1, e'.1, Option.isSome_some, e.1]
    · cases ha
  · cases ha

/-- A part of a slice value. -/
theorem SliceV.sub {sz : Nat} {xs : List AV} {m : Cap} {a : Addr} {cap : Nat} {vs : List Value} (h : SliceV g sz xs m a cap vs) {l hi c : Nat} (hl : l ≤ hi) (hhi : hi ≤ xs.length) (hc : hi ≤ c) (m' : Cap)
    (hm : ∀ a', capOk g m' a' (hi - l) (c - l) sz) :
    SliceV g sz ((xs.take hi).drop l) m' (if c = l then a else a.add (l * sz)) (c - l) ((vs.take (hi * sz)).drop (l * sz)) := by
  have hsz' : ∀ x ∈ xs.take hi, x.cells.length = sz := fun x hx => h.hsz x (List.mem_of_mem_take hx)
  have hfl : flat ((xs.take hi).drop l) = ((flat xs).take (hi * sz)).drop (l * sz) := by rw [flat_drop l hsz', flat_take hi h.hsz]
  have hvl : vs.length = xs.length * sz := by rw [← h.hr.1, flat_length h.hsz]
  have hmulh : hi * sz ≤ vs.length := by rw [hvl]; exact Nat.mul_le_mul_right _ hhi
  have hlen : ((xs.take hi).drop l).length = hi - l := by simp; omega
  have hvlen : ((vs.take (hi * sz)).drop (l * sz)).length = hi * sz - l * sz := by simp; omega
  refine ⟨fun x hx => hsz' x (List.mem_of_mem_drop hx), by rw [hfl]; exact (h.hr.take _).drop _, ?_, ?_, ?_, by rw [hlen]; omega, by rw [hlen]; exact hm _⟩
  · intro hp
    rw [hvlen] at hp
    have hs := h.hsp (by omega)
    split
    · exact hs
    · exact (addr_add a (l * sz)).2.2 hs
  · intro i hi'
    rw [hvlen] at hi'
    have hcl : ¬ c = l := by
      intro e
      have : hi = l := by omega
      subst this
      omega
    rw [if_neg hcl]
    obtain ⟨h1, h2, _⟩ := addr_add a (l * sz)
    rw [h1, h2, Nat.add_assoc, h.hF (l * sz + i) (by omega)]
    congr 1
    simp
  · rw [hfl, List.all_eq_true]
    have := h.h1
    rw [List.all_eq_true] at this
    exact fun v hv => this v (List.mem_of_mem_take (List.mem_of_mem_drop hv))

theorem slice_ok (hS : Sim B w0 g σ w) {t : Nat} {x r : AV} {lo hi mx : Option AV} {u : Value} {lo' hi' mx' : Option Value} (hx : RV g x u) (hl : RVO g lo lo') (hh : RVO g hi hi') (hm : RVO g mx mx')
    (ha : aslice P σ t x lo hi mx = some r) : ∃ z, (Instr.sliceAt t u lo' hi' mx').run P w = .ok z w ∧ RV g r z := by
  unfold aslice at ha
  split at ha
  · -- string
    rename_i s hu
    split at ha
    · rename_i l h hb
      cases ha
      cases hx
      cases hm
      obtain ⟨h1, _, _⟩ := bounds_ok (P := P) hl hh hb (Nat.le_refl _) (Nat.le_refl _) false w
      refine ⟨_, ?_, .str _⟩
      simp only [Instr.sliceAt, Instr.slice, Sem.run_bind, run_underlying hu, Result.andThen_ok, h1, Option.isSome_none, Bool.false_eq_true, if_false]
      rfl
    · cases ha
  · -- nil
    rename_i e hu
    split at ha
    · rename_i n p hz hb
      cases ha
      cases hx
      cases hm
      obtain ⟨l, h⟩ := p
      obtain ⟨h1, h2, h3⟩ := bounds_ok (P := P) hl hh hb (Nat.le_refl _) (Nat.le_refl _) true w
      have e1 : h = 0 := by omega
      have e2 : l = 0 := by omega
      subst e1; subst e2
      refine ⟨_, ?_, .nilslice⟩
      simp only [Instr.sliceAt, Instr.slice, Sem.run_bind, run_underlying hu, Result.andThen_ok, h1, szT_run hz w]
      rfl
    · cases ha
  · -- nil, three indexes
    rename_i e v hu
    split at ha
    · rename_i n c y hz hc
      split at ha
      · rename_i p hb
        cases ha
        cases hx
        cases hm with
        | some _ v' hv =>
          obtain ⟨l, h⟩ := p
          have hc0 : c = 0 := by have := (bound_ok (P := P) hv hc (Nat.le_refl _) .index w).2; omega
          subst hc0
          obtain ⟨h1, h2, h3, h4⟩ := bounds3_ok (P := P) hl hh hv hc rfl hb (Nat.le_refl _) w
          have e1 : h = 0 := by omega
          have e2 : l = 0 := by omega
          subst e1; subst e2
          refine ⟨_, ?_, .nilslice⟩
          simp only [Instr.sliceAt, Instr.slice, Sem.run_bind, run_underlying hu, Result.andThen_ok, h1, szT_run hz w]
          rfl
      · cases ha
    · cases ha
  · -- a slice value
    rename_i e sz xs m hu
    split at ha
    · rename_i hz
      split at ha
      · rename_i l h hb
        cases ha
        cases hm
        rcases hx.slice_inv with ⟨a, cap, vs, rfl, hv⟩ | ⟨rfl, rfl, rfl⟩
        case inr =>
          obtain ⟨h1, h2, h3⟩ := bounds_ok (P := P) hl hh hb (Nat.le_refl _) (Nat.le_refl _) true w
          have e1 : h = 0 := by simp at h3; omega
          have e2 : l = 0 := by omega
          subst e1; subst e2
          refine ⟨_, ?_, .nilany sz⟩
          simp only [List.length_nil] at h1
          simp only [Instr.sliceAt, Instr.slice, Sem.run_bind, run_underlying hu, Result.andThen_ok, h1, szT_run hz w]
          rfl
        obtain ⟨h1, h2, h3⟩ := bounds_ok (P := P) hl hh hb hv.hcap (Nat.le_refl _) true w
        have hs := hv.sub h2 h3 (by have := hv.hcap; omega : h ≤ cap) (if m = .full ∧ h = xs.length then .full else if m = .any then .any else .nn) (fun a' => by
          split
          · rename_i hf
            obtain ⟨rfl, rfl⟩ := hf
            have : cap = xs.length := hv.hm
            simp only [capOk]; rw [this]
          · split <;> trivial)
        have hlen : ((xs.take h).drop l).length = h - l := by simp; omega
        have := hs.rv
        rw [hlen] at this
        refine ⟨_, ?_, this⟩
        simp only [Instr.sliceAt, Instr.slice, Sem.run_bind, run_underlying hu, Result.andThen_ok, h1, szT_run hz w, Option.map_some, Sem.run_pure]
        split <;> simp_all
      · cases ha
    · cases ha
  · -- a slice value, three indexes
    rename_i e sz xs m v hu
    split at ha
    · rename_i hzm
      obtain ⟨hz, hmn⟩ := hzm
      split at ha
      · rename_i c y hc
        split at ha
        · rename_i l h hb
          cases ha
          cases hm with
          | some _ v' hvv =>
            obtain ⟨a, cap, vs, rfl, hv⟩ := hx.slice_inv1 (.inl hmn)
            obtain ⟨h1, h2, h3, h4⟩ := bounds3_ok (P := P) hl hh hvv hc rfl hb hv.hcap w
            have hs := hv.sub h2 (by omega : h ≤ xs.length) h3 (if h = c then .full else .nn) (fun a' => by
              split
              · rename_i hf; subst hf; rfl
              · trivial)
            have hlen : ((xs.take h).drop l).length = h - l := by simp; omega
            have := hs.rv
            rw [hlen] at this
            refine ⟨_, ?_, this⟩
            simp only [Instr.sliceAt, Instr.slice, Sem.run_bind, run_underlying hu, Result.andThen_ok, h1, szT_run hz w, Option.map_some, Sem.run_pure]
            split <;> simp_all
        · cases ha
      · cases ha
    · cases ha
  · -- an object's slice
    rename_i e id off len hu
    split at ha
    · rename_i cs e' sz gr ho
      split at ha
      · rename_i hz
        split at ha
        · rename_i l h hb
          cases ha
          cases hm
          cases hx with
          | rslice _ _ _ i a cap hi hadr hc hlen =>
            obtain ⟨i', c, h1, hs, _⟩ := hS.cells ho
            rw [hi] at h1; cases h1
            obtain ⟨h1, h2, h3⟩ := bounds_ok (P := P) hl hh hb hlen (Nat.le_refl _) true w
            refine ⟨_, ?_, .rslice id (off + l) (h - l) i (if cap = l then a else a.add (l * sz)) (cap - l) hi ?_ (by omega) (by omega)⟩
            · simp only [Instr.sliceAt, Instr.slice, Sem.run_bind, run_underlying hu, Result.andThen_ok, h1, szT_run hz w, Option.map_some, Sem.run_pure]
              split <;> simp_all
            · by_cases hcl : cap = l
              · exact .inr (by omega)
              · left
                rw [if_neg hcl]
                rcases hadr with rfl | h0
                · rw [add_at, hs, Nat.add_mul]
                · omega
        · cases ha
      · cases ha
    · cases ha
  · -- an object's slice, three indexes
    rename_i e id off len v hu
    split at ha
    · rename_i cs e' sz gr ho
      split at ha
      · rename_i hz
        split at ha
        · rename_i c y hc
          split at ha
          · rename_i l h hb
            cases ha
            cases hm with
            | some _ v' hvv =>
              cases hx with
              | rslice _ _ _ i a cap hi hadr hcp hlen =>
                obtain ⟨i', c', h1, hs, _⟩ := hS.cells ho
                rw [hi] at h1; cases h1
                obtain ⟨h1, h2, h3, h4⟩ := bounds3_ok (P := P) hl hh hvv hc rfl hb hlen w
                refine ⟨_, ?_, .view id (off + l) (h - l) i (if c = l then a else a.add (l * sz)) (c - l) hi ?_ (by omega) (by omega)⟩
                · simp only [Instr.sliceAt, Instr.slice, Sem.run_bind, run_underlying hu, Result.andThen_ok, h1, szT_run hz w, Option.map_some, Sem.run_pure]
                  split <;> simp_all
                · by_cases hcl : c = l
                  · exact .inr (by omega)
                  · left
                    rw [if_neg hcl]
                    rcases hadr with rfl | h0
                    · rw [add_at, hs, Nat.add_mul]
                    · omega
          · cases ha
        · cases ha
      · cases ha
    · cases ha
  · cases ha

theorem fldT_inv {s f t off n : Nat} (h : fldT P s f = some (t, off, n)) : ∃ fs fd, P.underlying s = some (.struct fs) ∧ fs[f]? = some fd ∧ fd.type = t ∧ fd.offset = off ∧ szT P t = some n := by
  unfold fldT at h
  split at h
  · rename_i fs hu
    split at h
    · rename_i fd hf
      cases hz : szT P fd.type with
      | none => simp [hz] at h
      | some k => simp [hz] at h; obtain ⟨rfl, rfl, rfl⟩ := h; exact ⟨fs, fd, hu, hf, rfl, rfl, hz⟩
    · cases h
  · cases h

theorem field_ok {s f : Nat} {x r : AV} {u : Value} (hx : RV g x u) (h : afield P s f x = some r) : ∃ z, (Instr.field s u f).run P w = .ok z w ∧ RV g r z := by
  unfold afield at h
  split at h
  · rename_i cs t off n hf
    obtain ⟨fs, fd, hu, hfd, rfl, rfl, hz⟩ := fldT_inv hf
    obtain ⟨vs, rfl, hv⟩ := hx.agg_inv
    obtain ⟨z, h1, h2⟩ := apart_part h hv w
    refine ⟨z, ?_, h2⟩
    simp only [Instr.field, Sem.run_bind, run_underlying hu, Result.andThen_ok, hfd, asAgg, Sem.run_pure, h1]
  · cases h

theorem fieldAddr_ok {s f : Nat} {x r : AV} {u : Value} (hx : RV g x u) (h : afieldAddr P s f x = some r) : ∃ z, (Instr.fieldAt s u f).run P w = .ok z w ∧ RV g r z := by
  unfold afieldAddr at h
  split at h
  · rename_i t off n hf
    obtain ⟨fs, fd, hu, hfd, rfl, rfl, hz⟩ := fldT_inv hf
    split at h
    · cases h
    · rename_i hn
      have hp : ∀ a : Addr, (fieldPlace a fd).run P w = .ok (a.add fd.offset) w := fun a => by
        simp only [fieldPlace, Sem.run_bind, szT_run hz w, Result.andThen_ok, hn, if_false, Sem.run_pure]
      split at h
      · rename_i id o
        cases h
        cases hx with
        | ptr _ _ i hi =>
          refine ⟨_, ?_, .ptr id (o + fd.offset) i hi⟩
          simp only [Instr.fieldAt, Sem.run_bind, run_underlying hu, Result.andThen_ok, hfd, Instr.sureAddr, Sem.run_pure, hp, add_at]
      · rename_i cs
        split at h
        · rename_i hle
          cases h
          cases hx with
          | vptr _ b o vs hl hF hr =>
            refine ⟨_, ?_, .vptr (cs.drop fd.offset) b (o + fd.offset) (vs.drop fd.offset) (by simp [hl]) (fun i hi => ?_) (fun i h1 h2 => ?_)⟩
            · simp only [Instr.fieldAt, Sem.run_bind, run_underlying hu, Result.andThen_ok, hfd, Instr.sureAddr, Sem.run_pure, hp, add_at]
            · rw [List.getElem_drop, Nat.add_assoc]; exact hF _ (by simp at hi; omega)
            · simp only [List.getElem_drop]; exact hr _ (by simp at h1; omega) (by simp at h2; omega)
        · cases h
      · cases h
  · cases h

theorem indexAddr_ok (hS : Sim B w0 g σ w) {t : Nat} {x i r : AV} {u j : Value} (hx : RV g x u) (hi : RV g i j) (h : aindexAddr P σ t x i = some r) : ∃ z, (Instr.indexAt t u j).run P w = .ok z w ∧ RV g r z := by
  unfold aindexAddr at h
  split at h
  · rename_i k n
    cases hi
    split at h
    · rename_i e sz xs m hu
      split at h
      · rename_i hc
        obtain ⟨hc1, hc2, hz, hpos⟩ := hc
        split at h
        · rename_i v hxv
          cases h
          obtain ⟨a, cap, vs, rfl, hv⟩ := hx.slice_inv1 (.inr (by rintro rfl; simp at hxv))
          have hlt : n.toNat < xs.length := by omega
          have hvl : vs.length = xs.length * sz := by rw [← hv.hr.1, flat_length hv.hsz]
          have hmul : (n.toNat + 1) * sz ≤ xs.length * sz := Nat.mul_le_mul_right _ hlt
          have hmul2 : (n.toNat + 1) * sz = n.toNat * sz + sz := by rw [Nat.add_mul, Nat.one_mul]
          have hsp : a.spot = none := hv.hsp (by omega)
          obtain ⟨q1, q2, q3⟩ := addr_add a (n.toNat * sz)
          have hadd : a.add (n.toNat * sz) = ⟨a.block, a.off + n.toNat * sz, none⟩ := by rw [addr_plain (q3 hsp), q1, q2]
          have hcells := flat_get hv.hsz hxv
          have hrv : RVL g v.cells ((vs.drop (n.toNat * sz)).take sz) := by rw [hcells]; exact (hv.hr.drop _).take _
          refine ⟨.pointer (some (a.add (n.toNat * sz))), ?_, ?_⟩
          · have hcond : (0 ≤ n ∧ n < ((xs.length : Nat) : Int)) := ⟨hc1, hc2⟩
            simp only [Instr.indexAt, asIntOf, Sem.run_bind, Sem.run_pure, Result.andThen_ok, run_underlying hu, hcond, and_self, if_true, szT_run hz w]
          · rw [hadd]
            refine .vptr v.cells _ _ ((vs.drop (n.toNat * sz)).take sz) hrv.1 (fun q hq => ?_) hrv.2
            have hq' : q < sz := by simp at hq; omega
            rw [Nat.add_assoc, hv.hF (n.toNat * sz + q) (by omega)]
            simp
        · cases h
      · cases h
    · rename_i e id off len hu
      split at h
      · rename_i cs e' sz gr ho
        split at h
        · rename_i hc
          obtain ⟨hc1, hc2, hz⟩ := hc
          cases h
          cases hx with
          | rslice _ _ _ i a cap hi hadr hcap hlen =>
            obtain ⟨i', c, h1, hs, _⟩ := hS.cells ho
            rw [hi] at h1; cases h1
            have hcap0 : cap ≠ 0 := by omega
            have ha : a = ⟨i.blk, off * i.sz, none⟩ := hadr.resolve_right hcap0
            refine ⟨_, ?_, .ptr id ((off + n.toNat) * sz) i hi⟩
            have hcond : (0 ≤ n ∧ n < ((len : Nat) : Int)) := ⟨hc1, hc2⟩
            simp only [Instr.indexAt, asIntOf, Sem.run_bind, Sem.run_pure, Result.andThen_ok, run_underlying hu, hcond, and_self, if_true, szT_run hz w]
            rw [ha, add_at, hs, Nat.add_mul]
        · cases h
      · cases h
    · rename_i len e id off hu
      split at h
      · rename_i sz hz
        split at h
        · rename_i hc
          cases h
          cases hx with
          | ptr _ _ i hi =>
            refine ⟨_, ?_, .ptr id (off + n.toNat * sz) i hi⟩
            simp only [Instr.indexAt, asIntOf, Sem.run_bind, Sem.run_pure, Result.andThen_ok, run_underlying hu, hc, and_self, if_true, szT_run hz w, Instr.sureAddr, add_at]
        · cases h
      · cases h
    · rename_i len e cs hu
      split at h
      · rename_i sz hz
        split at h
        · rename_i hc
          obtain ⟨hc1, hc2, hc3⟩ := hc
          cases h
          cases hx with
          | vptr _ b o vs hl hF hr =>
            refine ⟨_, ?_, .vptr (cs.drop (n.toNat * sz)) b (o + n.toNat * sz) (vs.drop (n.toNat * sz)) (by simp [hl]) (fun q hq => ?_) (fun q h1 h2 => ?_)⟩
            · have hcond : (0 ≤ n ∧ n < ((len : Nat) : Int)) := ⟨hc1, hc2⟩
              simp only [Instr.indexAt, asIntOf, Sem.run_bind, Sem.run_pure, Result.andThen_ok, run_underlying hu, hcond, and_self, if_true, szT_run hz w, Instr.sureAddr, add_at]
            · rw [List.getElem_drop, Nat.add_assoc]; exact hF _ (by simp at hq; omega)
            · simp only [List.getElem_drop]; exact hr _ (by simp at h1; omega) (by simp at h2; omega)
        · cases h
      · cases h
    · cases h
  · cases h

theorem index_ok {t : Nat} {x i r : AV} {u j : Value} (hx : RV g x u) (hi : RV g i j) (h : aindex P t x i = some r) : ∃ z, (Instr.index t u j).run P w = .ok z w ∧ RV g r z := by
  unfold aindex at h
  split at h
  · rename_i k n
    cases hi
    split at h
    · rename_i len e cs hu
      split at h
      · rename_i sz hz
        split at h
        · rename_i hc
          obtain ⟨vs, rfl, hv⟩ := hx.agg_inv
          obtain ⟨z, h1, h2⟩ := apart_part h hv w
          refine ⟨z, ?_, h2⟩
          simp only [Instr.index, asIntOf, Sem.run_bind, Sem.run_pure, Result.andThen_ok, run_underlying hu, hc, and_self, if_true, szT_run hz w, h1]
        · cases h
      · cases h
    · rename_i s hu
      split at h
      · rename_i hn
        split at h
        · rename_i b hb
          cases h
          cases hx
          refine ⟨_, ?_, .int _ _⟩
          have hb' : s[n.toNat]? = some b := by
            obtain ⟨hlt, he⟩ := List.getElem?_eq_some_iff.1 hb
            have hlt' : n.toNat < s.size := by simpa using hlt
            rw [getElem?_pos s n.toNat hlt']
            congr 1
          simp only [Instr.index, asIntOf, Sem.run_bind, Sem.run_pure, Result.andThen_ok, run_underlying hu, hn, if_true, hb']
        · cases h
      · cases h
    · cases h
  · cases h

theorem ext_ok {i : Nat} {x r : AV} {u : Value} (hx : RV g x u) (h : aext x i = some r) : ∃ z, (Instr.extract u i).run P w = .ok z w ∧ RV g r z := by
  unfold aext at h
  split at h
  · obtain ⟨vs, rfl, hv⟩ := hx.tuple_inv
    obtain ⟨z, hz, hr⟩ := hv.get h
    have hz' : vs[i]? = some z := by simpa using hz
    exact ⟨z, by simp [Instr.extract, hz'], hr⟩
  · cases h

theorem len_ok (hS : Sim B w0 g σ w) {t n : Nat} {x : AV} {u : Value} (hx : RV g x u) (h : alen P σ t x = some n) : (Builtin.len_ #[t] 0 #[u]).run P w = .ok (.int .i64 n) w := by
  unfold alen at h
  split at h
  · rename_i s hu; cases h; cases hx
    simp only [Builtin.len_, Sem.run_bind, run_underlying hu, Result.andThen_ok]; simp [run_underlying hu, goInt]
  · rename_i k e hu; cases h
    simp [Builtin.len_, run_underlying hu, goInt]
  · rename_i e hu; cases h; cases hx
    simp [Builtin.len_, run_underlying hu, goInt]
  · rename_i e sz xs m hu; cases h
    rcases hx.slice_inv with ⟨a, cap, vs, rfl, _⟩ | ⟨rfl, rfl, rfl⟩ <;> simp [Builtin.len_, run_underlying hu, goInt]
  · rename_i e id off len hu; cases h; cases hx
    simp [Builtin.len_, run_underlying hu, goInt]
  · rename_i k e hu; cases h; cases hx
    simp [Builtin.len_, run_underlying hu, goInt]
  · rename_i k e id hu
    split at h
    · rename_i es ho
      cases h
      cases hx with
      | map _ i hi =>
        have := hS.objs id
        rw [ho] at this
        obtain ⟨i', ms, cl, h1, h2, h3, h4, h5⟩ := this
        rw [hi] at h1; cases h1
        simp [Builtin.len_, run_underlying hu, getObj, Sem.run, h3, goInt, h4]
    · cases h
  · cases h

end
end Go.V
