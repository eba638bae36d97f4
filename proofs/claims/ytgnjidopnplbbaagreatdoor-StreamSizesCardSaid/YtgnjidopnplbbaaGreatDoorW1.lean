/- The W-layer, part 1: operations on values that are not known whole: what has to hold is asked as a condition. -/
import Derived.Test.YtgnjidopnplbbaaGreatDoorV16
set_option linter.unusedSimpArgs false
set_option linter.unusedVariables false
namespace Go.V
open Go.RowKit

/-- A result that hangs on conditions. -/
inductive CRes : Type 1 where
  | leaf (r : Res)
  | br (b : Bool) (x y : CRes)
  | req (p : Prop) (x : CRes)
  | ex (α : Type) (x : α → CRes)

def CRes.post (k : Res → Prop) : CRes → Prop
  | .leaf r => k r
  | .br b x y => bcase b (x.post k) (y.post k)
  | .req p x => p ∧ x.post k
  | .ex α x => ∃ a, (x a).post k

def CRes.bind (f : Res → CRes) : CRes → CRes
  | .leaf r => f r
  | .br b x y => .br b (x.bind f) (y.bind f)
  | .req p x => .req p (x.bind f)
  | .ex α x => .ex α fun a => (x a).bind f

def CRes.Is (c : CRes) (r : Res) : Prop := ∀ k, c.post k → k r

theorem CRes.Is.leaf (r : Res) : (CRes.leaf r).Is r := fun _ h => h
theorem CRes.Is.br {b : Bool} {x y : CRes} {r : Res} (hx : b = true → x.Is r) (hy : b = false → y.Is r) : (CRes.br b x y).Is r := fun k h => by
  cases b
  · exact hy rfl k h
  · exact hx rfl k h
theorem CRes.Is.req {p : Prop} {x : CRes} {r : Res} (hx : p → x.Is r) : (CRes.req p x).Is r := fun k h => hx h.1 k h.2
theorem CRes.Is.ex {α : Type} {x : α → CRes} {r : Res} (hx : ∀ a, (x a).Is r) : (CRes.ex α x).Is r := fun k ⟨a, h⟩ => hx a k h
theorem CRes.post_bind {f : Res → CRes} {k : Res → Prop} : ∀ {c : CRes}, (c.bind f).post k → c.post fun r => (f r).post k
  | .leaf r, h => h
  | .br b x y, h => by
    cases b
    · exact post_bind (c := y) h
    · exact post_bind (c := x) h
  | .req p x, h => ⟨h.1, post_bind h.2⟩
  | .ex α x, ⟨a, h⟩ => ⟨a, post_bind h⟩
theorem CRes.Is.bind {c : CRes} {r r' : Res} {f : Res → CRes} (h : c.Is r) (hf : (f r).Is r') : (c.bind f).Is r' := fun k hk => hf k (h _ (CRes.post_bind hk))

section
variable (P : Program)

def cindexAddr (σ : State) (t : Nat) (x i : AV) : CRes :=
  match i with
  | .int k n =>
    match P.underlying t, x with
    | some (.slice e), .slice sz xs m =>
      if szT P e = some sz ∧ 0 < sz then .req (0 ≤ n ∧ n < xs.length) (.leaf (.ok (.vptr (xs.getD n.toNat .undef).cells) σ)) else .leaf .fail
    | some (.slice e), .rslice id off len =>
      match σ.objs id with
      | .cells cs e' sz g => if szT P e = some sz then .req (0 ≤ n ∧ n < len) (.leaf (.ok (.ptr id ((off + n.toNat) * sz)) σ)) else .leaf .fail
      | _ => .leaf .fail
    | _, _ => .leaf (.of σ (aindexAddr P σ t x (.int k n)))
  | i => .leaf (.of σ (aindexAddr P σ t x i))

theorem cindexAddr_is {σ : State} {t : Nat} {x i : AV} : (cindexAddr P σ t x i).Is (.of σ (aindexAddr P σ t x i)) := by
  unfold cindexAddr
  split
  · rename_i k n
    split
    · rename_i e sz xs m hu
      split
      · rename_i hc
        refine .req fun hn => ?_
        have h3 : n.toNat < xs.length := by omega
        have : aindexAddr P σ t (.slice sz xs m) (.int k n) = some (.vptr (xs.getD n.toNat .undef).cells) := by
          simp only [aindexAddr, hu]
          rw [if_pos ⟨hn.1, hn.2, hc.1, hc.2⟩]
          simp [h3, List.getD]
        rw [this]; exact .leaf _
      · rename_i hc
        have : aindexAddr P σ t (.slice sz xs m) (.int k n) = none := by
          simp only [aindexAddr, hu]
          rw [if_neg fun h => hc ⟨h.2.2.1, h.2.2.2⟩]
        rw [this]; exact .leaf _
    · rename_i e id off len hu
      split
      · rename_i cs e' sz g ho
        split
        · rename_i hc
          refine .req fun hn => ?_
          have : aindexAddr P σ t (.rslice id off len) (.int k n) = some (.ptr id ((off + n.toNat) * sz)) := by
            simp only [aindexAddr, hu, ho]
            rw [if_pos ⟨hn.1, hn.2, hc⟩]
          rw [this]; exact .leaf _
        · rename_i hc
          have : aindexAddr P σ t (.rslice id off len) (.int k n) = none := by
            simp only [aindexAddr, hu, ho]
            rw [if_neg fun h => hc h.2.2]
          rw [this]; exact .leaf _
      · rename_i hne
        have : aindexAddr P σ t (.rslice id off len) (.int k n) = none := by
          simp only [aindexAddr, hu]
          try (split <;> first | rfl | (rename_i h; exact absurd h (hne _ _ _ _)))
        rw [this]; exact .leaf _
    · exact .leaf _
  · exact .leaf _

def cpart (t : Nat) (cs : List AV) (off : Nat) (k : AV → CRes) : CRes :=
  match kindT P t with
  | some (some n) => .req (off + n ≤ cs.length) (k (.agg ((cs.drop off).take n)))
  | some none => .req (off < cs.length) (k (cs.getD off .undef))
  | none => .leaf .fail

theorem cpart_is {t : Nat} {cs : List AV} {off : Nat} {σ : State} : (cpart P t cs off fun v => .leaf (.ok v σ)).Is (.of σ (apart P t cs off)) := by
  unfold cpart apart
  split
  · rename_i n hk
    refine .req fun h => ?_
    simp only [hk, if_pos h]; exact .leaf _
  · rename_i hk
    refine .req fun h => ?_
    have : cs[off]? = some (cs.getD off .undef) := by simp [h, List.getD]
    simp only [hk, this]; exact .leaf _
  · rename_i hk
    simp only [hk]; exact .leaf _

def cload (σ : State) (t : Nat) (x : AV) : CRes :=
  match x with
  | .ptr id off => match σ.objs id with
    | .cells cs e sz g => cpart P t cs off fun v => .leaf (.ok v σ)
    | _ => .leaf .fail
  | x => .leaf (.of σ (aload P σ t x))

theorem cload_is {σ : State} {t : Nat} {x : AV} : (cload P σ t x).Is (.of σ (aload P σ t x)) := by
  unfold cload
  split
  · rename_i id off
    split
    · rename_i cs e sz g ho
      have : aload P σ t (.ptr id off) = apart P t cs off := by simp only [aload, ho]
      rw [this]; exact cpart_is P
    · rename_i hne
      have : aload P σ t (.ptr id off) = none := by
        simp only [aload]
        try (split <;> first | rfl | (rename_i h; exact absurd h (hne _ _ _ _)))
      rw [this]; exact .leaf _
  · exact .leaf _

def cstore (σ : State) (t : Nat) (x v : AV) : CRes :=
  match x with
  | .ptr id off => match σ.objs id with
    | .cells cs e sz grow =>
      if v.isUndef = false ∧ szT P t = some v.cells.length ∧ v.cells.all AV.one = true then
        .req (off + v.cells.length ≤ cs.length) (.leaf (.ok .undef (σ.set id (.cells (asplice cs off v.cells) e sz grow))))
      else .leaf .fail
    | _ => .leaf .fail
  | x => .leaf (astore P σ t x v)

theorem cstore_is {σ : State} {t : Nat} {x v : AV} : (cstore P σ t x v).Is (astore P σ t x v) := by
  unfold cstore
  split
  · rename_i id off
    split
    · rename_i cs e sz grow ho
      split
      · rename_i hc
        refine .req fun h => ?_
        have : astore P σ t (.ptr id off) v = .ok .undef (σ.set id (.cells (asplice cs off v.cells) e sz grow)) := by
          simp only [astore, ho]
          rw [if_pos ⟨hc.1, hc.2.1, hc.2.2, h⟩]
        rw [this]; exact .leaf _
      · rename_i hc
        have : astore P σ t (.ptr id off) v = .fail := by
          simp only [astore, ho]
          rw [if_neg fun h => hc ⟨h.1, h.2.1, h.2.2.1⟩]
        rw [this]; exact .leaf _
    · rename_i hne
      have : astore P σ t (.ptr id off) v = .fail := by
        simp only [astore]
        try (split <;> first | rfl | (rename_i h; exact absurd h (hne _ _ _ _)))
      rw [this]; exact .leaf _
  · exact .leaf _

def cbin (σ : State) (op : BinOp) (t : Nat) (cst : Bool) (x y : AV) : CRes :=
  match op, x, y with
  | .quo, .int k a, .int k' b => if k = k' then .req (b ≠ 0) (.leaf (.ok (.int k (k.wrap (a.tdiv b))) σ)) else .leaf .fail
  | .rem, .int k a, .int k' b => if k = k' then .req (b ≠ 0) (.leaf (.ok (.int k (a.tmod b)) σ)) else .leaf .fail
  | .add, .str a, .str b => .req (a.size + b.size ≤ 4611686018427387904) (.leaf (.ok (.str (a ++ b)) σ))
  | op, x, y => .leaf (.of σ (abin P op t cst x y))

theorem cbin_is {σ : State} {op : BinOp} {t : Nat} {cst : Bool} {x y : AV} : (cbin P σ op t cst x y).Is (.of σ (abin P op t cst x y)) := by
  unfold cbin
  split
  · rename_i k a k' b
    split
    · rename_i hk
      subst hk
      refine .req fun h => ?_
      simp only [abin, aint, if_neg h]
      simp; exact .leaf _
    · rename_i hk
      simp only [abin]
      simp [hk]; exact .leaf _
  · rename_i k a k' b
    split
    · rename_i hk
      subst hk
      refine .req fun h => ?_
      simp only [abin, aint, if_neg h]
      simp; exact .leaf _
    · rename_i hk
      simp only [abin]
      simp [hk]; exact .leaf _
  · rename_i a b
    refine .req fun h => ?_
    simp only [abin, astrop, if_pos h]
    exact .leaf _
  · exact .leaf _

def cbound (x : AV) (y : Nat) (k : Nat → CRes) : CRes :=
  match x with
  | .int _ i => .req (0 ≤ i ∧ i ≤ y) (k i.toNat)
  | _ => .leaf .fail

theorem cbound_is {x : AV} {y : Nat} {k : Nat → CRes} {r : Res} {f : Option Nat → Res} (hn : f none = .fail) (h : ∀ i, (k i).Is (f (some i))) (hr : f (abound x y) = r) : (cbound x y k).Is r := by
  subst hr
  unfold cbound
  split
  · rename_i kk i
    refine .req fun hi => ?_
    simp only [abound, if_pos hi]
    exact h _
  · rename_i hne
    have : abound x y = none := by
      unfold abound
      split
      · exact absurd rfl (hne _ _)
      · rfl
    rw [this, hn]; exact .leaf _

def cbounds (len : Nat) (lo hi : Option AV) (top : Nat) (k : Nat → Nat → CRes) : CRes :=
  match hi with
  | some v => cbound v top fun h => match lo with
    | some w => cbound w h fun l => k l h
    | none => k 0 h
  | none => match lo with
    | some w => cbound w len fun l => k l len
    | none => k 0 len

theorem cbounds_is {len : Nat} {lo hi : Option AV} {top : Nat} {k : Nat → Nat → CRes} {f : Option (Nat × Nat) → Res} (hn : f none = .fail) (h : ∀ l i, (k l i).Is (f (some (l, i)))) :
    (cbounds len lo hi top k).Is (f (abounds len lo hi top)) := by
  unfold cbounds abounds
  cases hi with
  | some v =>
    refine cbound_is (f := fun o => f (match o with | some h => (match (match lo with | some v => abound v h | none => some 0) with | some l => some (l, h) | none => none) | none => none)) hn (fun i => ?_) rfl
    cases lo with
    | some w => exact cbound_is (f := fun o => f (match o with | some l => some (l, i) | none => none)) hn (fun l => h l i) rfl
    | none => exact h 0 i
  | none =>
    cases lo with
    | some w => exact cbound_is (f := fun o => f (match o with | some l => some (l, len) | none => none)) hn (fun l => h l len) rfl
    | none => exact h 0 len

def cslice (σ : State) (t : Nat) (x : AV) (lo hi mx : Option AV) : CRes :=
  match P.underlying t, x, mx with
  | some .string, .str s, none => cbounds s.size lo hi s.size fun l h => .leaf (.ok (.str (s.extract l h)) σ)
  | some (.slice e), .slice sz xs m, none =>
    if szT P e = some sz then
      match m, hi with
      | .any, hi => cbounds xs.length lo hi xs.length fun l h => .leaf (.ok (.slice sz ((xs.take h).drop l) .any) σ)
      | .full, none => cbounds xs.length lo none xs.length fun l h => .leaf (.ok (.slice sz (xs.drop l) .full) σ)
      | .full, some hi => cbounds xs.length lo (some hi) xs.length fun l h => .br (decide (h = xs.length)) (.leaf (.ok (.slice sz ((xs.take h).drop l) .full) σ)) (.leaf (.ok (.slice sz ((xs.take h).drop l) .nn) σ))
      | _, hi => cbounds xs.length lo hi xs.length fun l h => .leaf (.ok (.slice sz ((xs.take h).drop l) .nn) σ)
    else .leaf .fail
  | some (.slice e), .rslice id off len, none =>
    match σ.objs id with
    | .cells cs e' sz g => if szT P e = some sz then cbounds len lo hi len fun l h => .leaf (.ok (.rslice id (off + l) (h - l)) σ) else .leaf .fail
    | _ => .leaf .fail
  | some (.slice e), .rslice id off len, some v =>
    match σ.objs id, hi with
    | .cells cs e' sz g, some hi => if szT P e = some sz then cbound v len fun c => cbounds len lo (some hi) c fun l h => .leaf (.ok (.view id (off + l) (h - l)) σ) else .leaf .fail
    | _, _ => .leaf .fail
  | _, _, _ => .leaf (.of σ (aslice P σ t x lo hi mx))

theorem cslice_is {σ : State} {t : Nat} {x : AV} {lo hi mx : Option AV} : (cslice P σ t x lo hi mx).Is (.of σ (aslice P σ t x lo hi mx)) := by
  unfold cslice
  split
  · rename_i s hu
    simp only [aslice, hu]
    exact cbounds_is (f := fun o => Res.of σ (match o with | some (l, h) => some (.str (s.extract l h)) | none => none)) rfl (fun l i => .leaf _)
  · rename_i e sz xs m hu
    split
    · rename_i hc
      simp only [aslice, hu, if_pos hc]
      split
      · rename_i hi'
        exact cbounds_is (f := fun o => Res.of σ (match o with | some (l, h) => some (.slice sz ((xs.take h).drop l) (if Cap.any = .full ∧ h = xs.length then .full else if Cap.any = .any then .any else .nn)) | none => none)) rfl (fun l i => by simp; exact .leaf _)
      · have : ∀ (l h : Nat), h = xs.length → (xs.take h).drop l = xs.drop l := by rintro l h rfl; rw [List.take_length]
        have key : abounds xs.length lo none xs.length = (match (match lo with | some v => abound v xs.length | none => some 0) with | some l => some (l, xs.length) | none => none) := by
          unfold abounds; rfl
        rw [key]
        unfold cbounds
        cases lo with
        | some w =>
          exact cbound_is (f := fun o => Res.of σ (match (match o with | some l => some (l, xs.length) | none => none : Option (Nat × Nat)) with | some (l, h) => some (.slice sz ((xs.take h).drop l) (if Cap.full = .full ∧ h = xs.length then .full else if Cap.full = .any then .any else .nn)) | none => none)) rfl (fun l => by simp; exact .leaf _) rfl
        | none => simp; exact .leaf _
      · rename_i hi'
        exact cbounds_is (f := fun o => Res.of σ (match o with | some (l, h) => some (.slice sz ((xs.take h).drop l) (if Cap.full = .full ∧ h = xs.length then .full else if Cap.full = .any then .any else .nn)) | none => none)) rfl (fun l i => by
          refine .br (fun hb => ?_) (fun hb => ?_)
          · have hb' : i = xs.length := by simpa using hb
            simp [hb']; exact .leaf _
          · have hb' : i ≠ xs.length := by simpa using hb
            simp [hb']; exact .leaf _)
      · rename_i h1 h2 h3
        exact cbounds_is (f := fun o => Res.of σ (match o with | some (l, h) => some (.slice sz ((xs.take h).drop l) (if m = .full ∧ h = xs.length then .full else if m = .any then .any else .nn)) | none => none)) rfl (fun l i => by
          have e1 : m ≠ .any := fun e => h1 e
          have e2 : m ≠ .full := by
            intro e
            cases hh : hi with
            | none => exact h2 e hh
            | some v => exact h3 v e hh
          simp [e1, e2]; exact .leaf _)
    · rename_i hc
      simp only [aslice, hu, if_neg hc]
      exact .leaf _
  · rename_i e id off len hu
    split
    · rename_i cs e' sz g ho
      simp only [aslice, hu, ho]
      split
      · rename_i hc
        exact cbounds_is (f := fun o => Res.of σ (match o with | some (l, h) => some (.rslice id (off + l) (h - l)) | none => none)) rfl (fun l i => .leaf _)
      · exact .leaf _
    · rename_i hne
      have : aslice P σ t (.rslice id off len) lo hi none = none := by
        simp only [aslice, hu]
        try (split <;> first | rfl | (rename_i h; exact absurd h (hne _ _ _ _)))
      rw [this]; exact .leaf _
  · rename_i e id off len v hu
    split
    · rename_i cs e' sz g hi' ho
      simp only [aslice, hu, ho]
      split
      · rename_i hc
        refine cbound_is (f := fun o => Res.of σ (match o with | some c => (match abounds len lo (some hi') c with | some (l, h) => some (.view id (off + l) (h - l)) | none => none) | none => none)) rfl (fun c => ?_) ?_
        · exact cbounds_is (f := fun o => Res.of σ (match o with | some (l, h) => some (.view id (off + l) (h - l)) | none => none)) rfl (fun l i => .leaf _)
        · cases abound v len <;> rfl
      · exact .leaf _
    · rename_i hiv hne
      have : ∀ hh, (∀ cs e' sz g v, σ.objs id = .cells cs e' sz g → hh = some v → False) → aslice P σ t (.rslice id off len) lo hh (some v) = none := by
        intro hh hne
        simp only [aslice, hu]
        split
        · rename_i cs e' sz g ho
          split
          · cases hh with
            | none => cases abound v len <;> rfl
            | some hi' => exact (hne _ _ _ _ _ ho rfl).elim
          · rfl
        · rfl
      rw [this _ (fun cs e' sz g v h1 h2 => hne cs e' sz g v h1 h2)]; exact .leaf _
  · exact .leaf _

/-- An element of an array under a number that is not known. -/
def cpick (e sz : Nat) (cs : List AV) (σ : State) (n : Int) : Nat → Nat → CRes
  | _, 0 => .leaf .fail
  | j, m + 1 => .br (decide (n = j)) (.leaf (.of σ (apart P e cs (j * sz)))) (cpick e sz cs σ n (j + 1) m)

theorem cpick_is {e sz : Nat} {cs : List AV} {σ : State} {n : Int} {r : Res} : ∀ (m j : Nat), ((hn : (j : Int) ≤ n) → n < (j + m : Nat) → r = .of σ (apart P e cs (n.toNat * sz))) → ((n < j ∨ (j + m : Nat) ≤ n) → r = .fail) → (cpick P e sz cs σ n j m).Is r
  | 0, j, h1, h2 => by
    rw [h2 (by omega)]; exact .leaf _
  | m + 1, j, h1, h2 => by
    refine .br (fun hb => ?_) (fun hb => ?_)
    · have hb' : n = j := by simpa using hb
      rw [h1 (by omega) (by omega), hb', Int.toNat_natCast]; exact .leaf _
    · have hb' : n ≠ j := by simpa using hb
      exact cpick_is m (j + 1) (fun hn h => h1 (by omega) (by omega)) (fun h => h2 (by omega))

def cindex (σ : State) (t : Nat) (x i : AV) : CRes :=
  match i with
  | .int k n =>
    match P.underlying t, x with
    | some (.array len e), .agg cs => match szT P e with
      | some sz => cpick P e sz cs σ n 0 len
      | none => .leaf .fail
    | some .string, .str s => .req (0 ≤ n ∧ n < s.size) (.leaf (.ok (.int .u8 (s.data.toList.getD n.toNat 0).toNat) σ))
    | _, _ => .leaf (.of σ (aindex P t x (.int k n)))
  | i => .leaf (.of σ (aindex P t x i))

theorem cindex_is {σ : State} {t : Nat} {x i : AV} : (cindex P σ t x i).Is (.of σ (aindex P t x i)) := by
  unfold cindex
  split
  · rename_i k n
    split
    · rename_i len e cs hu
      split
      · rename_i sz hz
        refine cpick_is P len 0 (fun h1 h2 => ?_) (fun h => ?_)
        · simp only [aindex, hu, hz]
          rw [if_pos ⟨by omega, by omega⟩]
        · simp only [aindex, hu, hz]
          rw [if_neg (by omega)]; rfl
      · rename_i hz
        simp only [aindex, hu, hz]
        exact .leaf _
    · rename_i s hu
      refine .req fun hn => ?_
      have h3 : n.toNat < s.data.toList.length := by
        have : s.data.toList.length = s.size := Array.length_toList
        omega
      have : aindex P t (.str s) (.int k n) = some (.int .u8 (s.data.toList.getD n.toNat 0).toNat) := by
        have h4 : s.data.toList[n.toNat]? = some (s.data.toList.getD n.toNat 0) := by rw [List.getD, List.getElem?_eq_getElem h3]; rfl
        generalize s.data.toList.getD n.toNat 0 = b at h4
        simp only [aindex, hu]
        rw [if_pos hn.1, h4]
      rw [this]; exact .leaf _
    · exact .leaf _
  · exact .leaf _

def celems (σ : State) (k : Option Nat) (sz : Nat) (y : AV) (f : List AV → CRes) : CRes :=
  match y with
  | .rslice id off len => match σ.objs id with
    | .cells cs e s g => if s = sz ∧ k.getD 1 = sz then .req ((off + len) * sz ≤ cs.length) (f (chunk k ((cs.drop (off * sz)).take (len * sz)) len)) else .leaf .fail
    | _ => .leaf .fail
  | .view id off len => match σ.objs id with
    | .cells cs e s g => if s = sz ∧ k.getD 1 = sz then .req ((off + len) * sz ≤ cs.length) (f (chunk k ((cs.drop (off * sz)).take (len * sz)) len)) else .leaf .fail
    | _ => .leaf .fail
  | y => match aelems σ k sz y with
    | some ys => f ys
    | none => .leaf .fail

theorem celems_is {σ : State} {k : Option Nat} {sz : Nat} {y : AV} {f : List AV → CRes} {r : Res} (h : ∀ ys, aelems σ k sz y = some ys → (f ys).Is r) (hn : aelems σ k sz y = none → r = .fail) : (celems σ k sz y f).Is r := by
  unfold celems
  split
  · rename_i id off len
    split
    · rename_i cs e s g ho
      split
      · rename_i hc
        refine .req fun hl => h _ ?_
        simp only [aelems, ho]
        rw [if_pos ⟨hc.1, hc.2, hl⟩]
      · rename_i hc
        rw [hn (by simp only [aelems, ho]; rw [if_neg fun h => hc ⟨h.1, h.2.1⟩])]
        exact .leaf _
    · rename_i hne
      have : aelems σ k sz (.rslice id off len) = none := by
        simp only [aelems]
        try (split <;> first | rfl | (rename_i h; exact absurd h (hne _ _ _ _)))
      rw [hn this]; exact .leaf _
  · rename_i id off len
    split
    · rename_i cs e s g ho
      split
      · rename_i hc
        refine .req fun hl => h _ ?_
        simp only [aelems, ho]
        rw [if_pos ⟨hc.1, hc.2, hl⟩]
      · rename_i hc
        rw [hn (by simp only [aelems, ho]; rw [if_neg fun h => hc ⟨h.1, h.2.1⟩])]
        exact .leaf _
    · rename_i hne
      have : aelems σ k sz (.view id off len) = none := by
        simp only [aelems]
        try (split <;> first | rfl | (rename_i h; exact absurd h (hne _ _ _ _)))
      rw [hn this]; exact .leaf _
  · split
    · rename_i ys hy; exact h _ hy
    · rename_i hy; rw [hn hy]; exact .leaf _

def cappendTo (σ : State) (ann : Ann) (e sz by' : Nat) (x : AV) (ys : List AV) : CRes :=
  match x with
  | .nilslice => .req (ys.length * by' ≤ 140737488355328 ∧ ys.length ≤ 4611686018427387904) (match ann with
    | .ref => .leaf (.ok (.rslice σ.next 0 ys.length) (σ.new (.cells (flat ys) e sz true)))
    | _ => .leaf (.ok (.slice sz ys (.tok σ.next)) (σ.new (.tok ys.length e sz))))
  | .slice s xs .full => if s = sz then .req ((xs.length + ys.length) * by' ≤ 140737488355328 ∧ xs.length + ys.length ≤ 4611686018427387904) (match ann with
    | .ref => .leaf (.ok (.rslice σ.next 0 (xs ++ ys).length) (σ.new (.cells (flat (xs ++ ys)) e sz true)))
    | _ => .leaf (.ok (.slice sz (xs ++ ys) (.tok σ.next)) (σ.new (.tok (xs.length + ys.length) e sz)))) else .leaf .fail
  | .slice s xs (.tok id) => match σ.objs id with
    | .tok n e' s' => if s = sz ∧ e' = e ∧ s' = sz then .req (((xs.length + ys.length) * by' ≤ 140737488355328 ∧ xs.length + ys.length ≤ 4611686018427387904) ∧ n = xs.length)
        (.leaf (.ok (.slice sz (xs ++ ys) (.tok σ.next)) ((σ.set id .dead).new (.tok (xs.length + ys.length) e sz)))) else .leaf .fail
    | _ => .leaf .fail
  | .rslice id off len => match σ.objs id with
    | .cells cs e' s' g => if e' = e ∧ s' = sz then .req (off = 0 ∧ ((len + ys.length) * by' ≤ 140737488355328 ∧ len + ys.length ≤ 4611686018427387904) ∧ len * sz ≤ cs.length)
        (.leaf (.ok (.rslice σ.next 0 (len + ys.length)) ((σ.set id .dead).new (.cells (cs.take (len * sz) ++ flat ys) e sz true)))) else .leaf .fail
    | _ => .leaf .fail
  | _ => .leaf .fail

def cappend (σ : State) (ann : Ann) (t t' : Nat) (x y : AV) : CRes :=
  match y with
  | .int k l => .leaf (aappendZ P σ ann t t' x (.int k l))
  | y => match elT P t with
    | some e =>
      match szT P e, byT P e, zerT P e, kindT P e with
      | some sz, some by', some z, some k =>
        if t' = t then
          celems σ k sz y fun ys => .br ys.isEmpty
            (match x with
              | .nilslice | .slice _ _ _ | .rslice _ _ _ => .leaf (.ok x σ)
              | _ => .leaf .fail)
            (if 0 < sz ∧ z.cells.size = sz then cappendTo σ ann e sz by' x ys else .leaf .fail)
        else .leaf .fail
      | _, _, _, _ => .leaf .fail
    | none => .leaf .fail

theorem cappend_is {σ : State} {ann : Ann} {t t' : Nat} {x y : AV} : (cappend P σ ann t t' x y).Is (aappendZ P σ ann t t' x y) := by
  unfold cappend
  split
  · exact .leaf _
  rename_i y' hny
  have : aappendZ P σ ann t t' x y = aappend P σ ann t t' x y := by
    unfold aappendZ
    split
    · exact absurd rfl (hny _ _)
    · rfl
  rw [this]
  unfold aappend
  split
  case h_2 he => simp only [he]; exact .leaf _
  rename_i e he
  simp only [he]
  split
  case h_2 =>
    rename_i hn
    split
    · rename_i h1 h2 h3 h4; exact absurd h4 (hn _ _ _ _ h1 h2 h3)
    · exact .leaf _
  rename_i sz by' z k hsz hby hz hk
  simp only [hsz, hby, hz, hk]
  split
  case isFalse h =>
    split
    · exact .leaf _
    · exact .leaf _
  case isTrue h =>
    subst h
    refine celems_is (fun ys hy => ?_) (fun hy => by rw [hy])
    simp only [hy]
    simp only [ne_eq, not_true_eq_false, if_false]
    refine .br (fun hb => ?_) (fun hb => ?_)
    · rw [if_pos hb]
      cases x <;> exact .leaf _
    · simp only [hb, Bool.false_eq_true, if_false]
      split
      case isFalse => exact .leaf _
      rename_i hpos
      unfold cappendTo
      cases x with
      | nilslice =>
        dsimp only
        refine .req fun hc => ?_
        rw [if_pos hc]
        cases ann <;> exact .leaf _
      | slice s xs m =>
        cases m with
        | full =>
          dsimp only
          split
          · rename_i hs
            refine .req fun hc => ?_
            rw [if_pos ⟨hs, hc⟩]
            cases ann <;> exact .leaf _
          · rename_i hs
            rw [if_neg fun h => hs h.1]; exact .leaf _
        | tok id =>
          dsimp only
          split
          · rename_i n e' s' ho
            split
            · rename_i hs
              refine .req fun hc => ?_
              rw [if_pos ⟨hs.1, hc.1⟩]; simp only [ho]; rw [if_pos ⟨hc.2, hs.2⟩]; exact .leaf _
            · rename_i hs
              split
              · rename_i h1
                simp only [ho]; rw [if_neg fun h => hs ⟨h1.1, h.2⟩]; exact .leaf _
              · exact .leaf _
          · rename_i hne
            split
            · split
              · rename_i h; exact absurd h (hne _ _ _)
              · exact .leaf _
            · exact .leaf _
        | any => exact .leaf _
        | nn => exact .leaf _
      | rslice id off len =>
        dsimp only
        split
        · rename_i cs e' s' g ho
          split
          · rename_i hs
            refine .req fun hc => ?_
            rw [if_pos ⟨hc.1, hc.2.1⟩]; simp only [ho]; rw [if_pos ⟨hs.1, hs.2, hc.2.2⟩]; exact .leaf _
          · rename_i hs
            split
            · simp only [ho]; rw [if_neg fun h => hs ⟨h.1, h.2.1⟩]; exact .leaf _
            · exact .leaf _
        · rename_i hne
          split
          · split
            · rename_i h; exact absurd h (hne _ _ _ _)
            · exact .leaf _
          · exact .leaf _
      | _ => exact .leaf _

def cmake (σ : State) (t : Nat) (l c : AV) : CRes :=
  match elT P t, l, c with
  | some e, .int _ l, .int _ c =>
    match szT P e, byT P e, zerT P e with
    | some sz, some by', some z =>
      if (av z).cells.length = sz ∧ (av z).isUndef = false ∧ (av z).cells.all AV.one = true ∧ 0 < sz then
        .req (0 ≤ l ∧ l ≤ c ∧ (by' : Int) * c ≤ 140737488355328 ∧ c ≤ 4611686018427387904) (.leaf (.ok (.rslice σ.next 0 l.toNat) (σ.new (.cells (List.replicate c.toNat (av z).cells).flatten e sz false))))
      else .leaf .fail
    | _, _, _ => .leaf .fail
  | _, _, _ => .leaf .fail

theorem cmake_is {σ : State} {t : Nat} {l c : AV} : (cmake P σ t l c).Is (amake P σ t l c) := by
  unfold cmake
  split
  · rename_i e kl l kc c he
    split
    · rename_i sz by' z h1 h2 h3
      split
      · rename_i hc
        refine .req fun h => ?_
        simp only [amake, he, h1, h2, h3]
        rw [if_pos ⟨h.1, h.2.1, h.2.2.1, h.2.2.2, hc.1, hc.2.1, hc.2.2.1, hc.2.2.2⟩]; exact .leaf _
      · rename_i hc
        simp only [amake, he, h1, h2, h3]
        rw [if_neg fun h => hc ⟨h.2.2.2.2.1, h.2.2.2.2.2.1, h.2.2.2.2.2.2.1, h.2.2.2.2.2.2.2⟩]; exact .leaf _
    · rename_i hne
      simp only [amake, he]
      exact .leaf _
  · rename_i hne
    unfold amake
    split
    · rename_i h1; exact absurd rfl (hne _ _ _ _ _ h1 rfl)
    · exact .leaf _

def cfreeze (σ : State) (k : Option Nat) (x : AV) : CRes :=
  match x with
  | .rslice id 0 len => match σ.objs id with
    | .cells cs e sz g => if k.getD 1 = sz ∧ 0 < sz then .req (cs.length = len * sz) (.leaf (.ok (.slice sz (chunk k cs len) (.tok id)) (σ.set id (.tok len e sz)))) else .leaf .fail
    | _ => .leaf .fail
  | x => .leaf (afreeze σ k x)

theorem cfreeze_is {σ : State} {k : Option Nat} {x : AV} : (cfreeze σ k x).Is (afreeze σ k x) := by
  unfold cfreeze
  split
  · rename_i id len
    split
    · rename_i cs e sz g ho
      simp only [afreeze, ho]
      split
      · rename_i hc
        refine .req fun h => ?_
        rw [if_pos ⟨hc.1, hc.2, h⟩]; exact .leaf _
      · rename_i hc
        rw [if_neg fun h => hc ⟨h.1, h.2.1⟩]; exact .leaf _
    · rename_i hne
      have : afreeze σ k (.rslice id 0 len) = .fail := by
        simp only [afreeze]
        try (split <;> first | rfl | (rename_i h; exact absurd h (hne _ _ _ _)))
      rw [this]; exact .leaf _
  · exact .leaf _

def cnext (σ : State) (x : AV) (isS : Bool) : CRes :=
  match x with
  | .ptr id 0 => match σ.objs id, isS with
    | .siter s pos, true => .br (decide (pos < s.size))
        (.leaf (.ok (.tuple [.bool true, .int .i64 pos, .int .i32 (Utf8.decode s pos).1]) (σ.set id (.siter s (pos + (Utf8.decode s pos).2)))))
        (.leaf (.ok (.tuple [.bool false]) σ))
    | _, _ => .leaf .fail
  | _ => .leaf .fail

def cop (ann : Ann) (o : Op) (ρ : Operand → AV) (σ : State) : CRes :=
  match o with
  | .load t x => cload P σ t (ρ x)
  | .store t x v => cstore P σ t (ρ x) (ρ v)
  | .binOp op t x y _ => cbin P σ op t (isConst x || isConst y) (ρ x) (ρ y)
  | .makeSlice t l c => cmake P σ t (ρ l) (ρ c)
  | .slice t x lo hi mx => cslice P σ t (ρ x) (lo.map ρ) (hi.map ρ) (mx.map ρ)
  | .indexAddr t x i => cindexAddr P σ t (ρ x) (ρ i)
  | .index t x i => cindex P σ t (ρ x) (ρ i)
  | .next x isS => cnext σ (ρ x) isS
  | .call c => match c.callee with
    | .builtin .append => match c.argTypes.toList, c.args.toList.map ρ with
      | [t, t'], [x, y] => cappend P σ ann t t' x y
      | _, _ => .leaf .fail
    | _ => .leaf (aop P ann (.call c) ρ σ)
  | o => .leaf (aop P ann o ρ σ)

theorem cop_is {ann : Ann} {o : Op} {ρ : Operand → AV} {σ : State} : (cop P ann o ρ σ).Is (aop P ann o ρ σ) := by
  unfold cop
  split
  · exact cload_is P
  · exact cstore_is P
  · exact cbin_is P
  · exact cmake_is P
  · exact cslice_is P
  · exact cindexAddr_is P
  · exact cindex_is P
  · rename_i x isS
    simp only [aop]
    generalize ρ x = y
    unfold cnext
    split
    · rename_i id
      split
      · rename_i s pos ho
        simp only [ho]
        refine .br (fun hb => ?_) (fun hb => ?_)
        · have : pos < s.size := by simpa using hb
          simp only [if_pos this]; exact .leaf _
        · have : ¬ pos < s.size := by simpa using hb
          simp only [if_neg this]; exact .leaf _
      · rename_i hne
        split
        · rename_i h0
          cases h0
          split
          · rename_i h1; exact absurd rfl (hne _ _ h1)
          · exact .leaf _
        · exact .leaf _
    · rename_i hne
      split
      · exact absurd rfl (hne _)
      · exact .leaf _
  · rename_i c
    split
    · rename_i hc
      simp only [aop, acall, hc]
      split
      · rename_i t t' x y h1 h2
        simp only [h1, h2]
        exact cappend_is P
      · rename_i hne
        split
        · rename_i h1 h2; exact absurd h2 (hne _ _ _ _ h1)
        · exact .leaf _
    · exact .leaf _
  · exact .leaf _

/-- With what is told of the operation: whether it is run on what is not known, and whether its result becomes a value. -/
def copF (sym : Bool) (ann : Ann) (o : Oper) (ρ : Operand → AV) (σ : State) : CRes :=
  match sym with
  | false => .leaf (aopF P ann o ρ σ)
  | true => (cop P ann o.op ρ σ).bind fun r => match r with
    | .ok v σ' => (match ann with
      | .frz => match elT P o.type with
        | some e => match kindT P e with
          | some k => cfreeze σ' k v
          | none => .leaf .fail
        | none => .leaf .fail
      | _ => .leaf (.ok v σ'))
    | r => .leaf r

theorem copF_is {sym : Bool} {ann : Ann} {o : Oper} {ρ : Operand → AV} {σ : State} : (copF P sym ann o ρ σ).Is (aopF P ann o ρ σ) := by
  unfold copF
  split
  · exact .leaf _
  · refine .bind (cop_is P) ?_
    unfold aopF
    cases hr : aop P ann o.op ρ σ with
    | ok v σ' =>
      dsimp only
      cases ann with
      | none => exact .leaf _
      | ref => exact .leaf _
      | frz =>
        simp only [if_true]
        cases he : elT P o.type with
        | none => exact .leaf _
        | some e =>
          dsimp only
          cases hk : kindT P e with
          | none => exact .leaf _
          | some k => exact cfreeze_is
    | call f args => exact .leaf _
    | fail => exact .leaf _

end
end Go.V
