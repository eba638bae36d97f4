/- The V-model, part 8: freezing, make, literals, maps. -/
import Derived.Test.YtgnjidopnplbbaaGreatDoorV7
import Derived.Lib.AppendZeros
import Derived.MapKept
set_option linter.unusedSimpArgs false
set_option linter.unusedVariables false
namespace Go.V
open Go.RowKit

section
variable {P : Program} {B : Nat} {w0 : World} {g : Ghost} {σ : State} {w : World}

theorem freeze_ok (hS : Sim B w0 g σ w) {k : Option Nat} {x r : AV} {u : Value} {σ' : State} (hx : RV g x u) (h : afreeze σ k x = .ok r σ') :
    ∃ g', g.Le g' ∧ Sim B w0 g' σ' w ∧ RV g' r u := by
  unfold afreeze at h
  split at h
  · rename_i id len
    split at h
    · rename_i cs e sz gr ho
      split at h
      · rename_i hc
        obtain ⟨hk, hpos, hl⟩ := hc
        cases h
        obtain ⟨i, c, h1, hs, hB, hh, hlc, hg, hct, hmx, hr, h1c, hF⟩ := hS.cells ho
        cases hx with
        | rslice _ _ _ i' a cap hi hadr hcap hlen =>
          rw [hi] at h1; cases h1
          have hd : σ.objs id ≠ .dead := by rw [ho]; simp
          have hcl : (c.toList.take cs.length).length = cs.length := by simp; omega
          have hle : g.Le (g.frz i.blk (c.toList.take cs.length)) := Ghost.le_frz fun o v hv => by rw [hF] at hv; cases hv
          have hch := chunk_length k cs len sz hk (by omega)
          have hfl : flat (chunk k cs len) = cs := by rw [flat_chunk k cs len sz hk (by omega) h1c, ← hl]; exact List.take_length
          refine ⟨_, hle, hS.turn i.blk (· = id) hle (hS.resO id i hd hi) hB rfl rfl rfl (Nat.le_refl _) (fun _ _ _ => rfl) (fun b o hb => Ghost.frz_F_ne g _ _ hb) ?_ ?_ ?_ ?_ ?_ ?_, ?_⟩
          · intro o v hv
            rw [Ghost.frz_F] at hv
            have := (List.getElem?_eq_some_iff.1 hv).1
            rw [List.getElem?_take] at hv
            split at hv
            · simp only [World.cell?, hh, Option.isSome_none, Bool.false_eq_true, if_false]
              simpa using hv
            · cases hv
          · intro j hj
            exact ⟨by simp [State.set, hj], fun hdj pj hpj e => hS.inj j id pj i hpj hi hdj hd hj e⟩
          · rintro j rfl
            have : (σ.set j (.tok len e sz)).objs j = .tok len e sz := by simp [State.set]
            rw [this]
            refine ⟨i, c, hi, hs, hB, hh, by omega, hct, hmx, fun o ho => ?_⟩
            rw [Ghost.frz_F]
            apply List.getElem?_eq_none
            rw [hcl, hl, ← hs]; exact ho
          · rintro a b rfl rfl _ _; rfl
          · rintro j pj rfl _ hpj
            rw [Ghost.frz_info, hi] at hpj; cases hpj; rfl
          · intro j hj
            have hj' : σ.next ≤ j := hj
            have hne : j ≠ id := by have := hS.live hd; omega
            exact ⟨(hS.next j hj').1, by simp [State.set, hne]; exact (hS.next j hj').2⟩
          · have hcap' : cap = i.tot := by omega
            have := SliceV.rv (g := g.frz i.blk (c.toList.take cs.length)) (sz := sz) (xs := chunk k cs len) (m := .tok id) (a := a) (cap := cap) (vs := c.toList.take cs.length)
              ⟨chunk_sz k cs len sz hk (by omega) h1c, by rw [hfl]; exact hr.mono hle, fun hp => ?_, fun q hq => ?_, by rw [hfl]; exact h1c, by rw [hch]; omega, ⟨i, hi, ?_, hcap', hs.symm⟩⟩
            · rw [hch] at this; exact this
            · rw [hcl, hl] at hp
              have : cap ≠ 0 := by
                intro e0; subst e0
                have : len = 0 := by omega
                subst this; simp at hp
              rw [hadr.resolve_right this]
            · have hcap0 : cap ≠ 0 := by
                intro e0; subst e0
                have : len = 0 := by omega
                subst this; rw [hcl, hl] at hq; simp at hq
              rw [hadr.resolve_right hcap0]
              simp only [Nat.zero_mul, Nat.zero_add]
              rw [Ghost.frz_F]
              exact List.getElem?_eq_getElem hq
            · rcases hadr with rfl | h0
              · left; simp
              · right; exact h0
      · cases h
    · cases h
  · cases h; exact ⟨g, .refl g, hS, hx⟩
  · cases h; exact ⟨g, .refl g, hS, hx⟩
  · cases h

theorem made_list (z : Array Value) (sz : Nat) (hz : z.size = sz) (hpos : 0 < sz) : ∀ n, (madeCells z (n * sz)).toList = (List.replicate n z.toList).flatten
  | 0 => by simp [madeCells]
  | n + 1 => by
    have ih := made_list z sz hz hpos n
    rw [List.replicate_succ', List.flatten_append, ← ih]
    simp only [madeCells, Array.toList_map, Array.toList_range, Nat.succ_mul, List.range_add, List.map_append, List.map_map]
    congr 1
    simp only [List.flatten_cons, List.flatten_nil, List.append_nil]
    apply List.ext_getElem?
    intro j
    rw [List.getElem?_map]
    by_cases hj : j < sz
    · rw [List.getElem?_range hj]
      have hm : (n * sz + j) % z.size = j := by rw [hz, Nat.add_comm, Nat.add_mul_mod_self_right, Nat.mod_eq_of_lt hj]
      simp only [Option.map_some, Function.comp]
      rw [hm]
      have hj' : j < z.size := by omega
      simp [hj', getElem!_pos]
    · rw [List.getElem?_eq_none (by simp; omega), List.getElem?_eq_none (by simp; omega)]
      rfl

theorem make_ok (hS : Sim B w0 g σ w) {t : Nat} {l c r : AV} {ul uc : Value} {σ' : State} (hl : RV g l ul) (hc : RV g c uc) (h : amake P σ t l c = .ok r σ') :
    ∃ g' w' z, g.Le g' ∧ Sim B w0 g' σ' w' ∧ RV g' r z ∧ (Instr.makeSlice t ul uc).run P w = .ok z w' := by
  unfold amake at h
  split at h
  case h_2 => cases h
  rename_i e kl l kc c he
  have ht := elT_run he
  split at h
  case h_2 => cases h
  rename_i sz by' z hsz hby hz
  split at h
  case isFalse => cases h
  rename_i hcnd
  obtain ⟨h0, hlc, hb, hc62, hzl, hzu, hzo, hpos⟩ := hcnd
  cases h
  cases hl; cases hc
  obtain ⟨ie, hie, hie1⟩ : ∃ ie, P.info? e = some ie ∧ ie.size = sz := by
    unfold szT at hsz
    cases hi : P.info? e with
    | none => simp [hi] at hsz
    | some i => simp [hi] at hsz; exact ⟨i, rfl, hsz⟩
  have hie2 : ie.bytes = by' := by simpa [byT, hie] using hby
  have hie3 : ie.zero = some z := by simpa [zerT, hie] using hz
  have hne : av z ≠ .undef := by intro e; rw [e] at hzu; simp [AV.isUndef] at hzu
  have hzr := (av_ok g z).cells hne
  have hzs : z.cells.size = sz := by have := hzr.1; rw [hzl] at this; simpa using this.symm
  have hrun := run_make (P := P) w t e ie z ht hie hie3 kl kc l c h0 hlc (by rw [hie2]; omega) (by omega)
  have hml := made_list z.cells sz hzs hpos c.toNat
  rw [hie1] at hrun
  have hfl : ((List.replicate c.toNat (av z).cells).flatten).length = c.toNat * sz := by
    rw [List.length_flatten]; simp [hzl]
  have htk : (madeCells z.cells (c.toNat * sz)).toList.take ((List.replicate c.toNat (av z).cells).flatten).length = (List.replicate c.toNat z.cells.toList).flatten := by
    rw [hfl, hml]
    apply List.take_of_length_le
    rw [List.length_flatten]; simp [hzs]
  have hle : g.Le (g.add σ.next ⟨w.heap.size, c.toNat, sz⟩) := Ghost.le_add (hS.next _ (Nat.le_refl _)).1 _
  obtain ⟨h1, h2⟩ := hS.new (.cells (List.replicate c.toNat (av z).cells).flatten e sz false) (.cells (madeCells z.cells (c.toNat * sz)) e) c.toNat sz
    ⟨⟨w.heap.size, c.toNat, sz⟩, madeCells z.cells (c.toNat * sz), by simp, rfl, hS.size, heap_new w _, by rw [hfl, size_madeCells]; exact Nat.le_refl _, fun _ => by rw [hfl, size_madeCells], by rw [size_madeCells],
      (by show c.toNat ≤ maxLen; unfold maxLen; omega), by rw [htk]; exact (hzr.flatRep _).mono hle, by
        rw [List.all_eq_true] at hzo ⊢
        intro x hx
        obtain ⟨l', hl', hx'⟩ := List.mem_flatten.1 hx
        rw [List.mem_replicate] at hl'
        exact hzo x (hl'.2 ▸ hx'), fun o => by rw [Ghost.add_F]; exact hS.F_new o⟩
  exact ⟨_, _, _, h1, h2, .rslice σ.next 0 l.toNat ⟨w.heap.size, c.toNat, sz⟩ _ c.toNat (by simp) (.inl (by simp)) (by simp) (by omega), hrun⟩

theorem zeros_ok (hS : Sim B w0 g σ w) {t t' ty : Nat} {x r : AV} {l : Int} {k : IntKind} {u : Value} {σ' : State} (hx : RV g x u) (h : azeros P σ t t' x l = .ok r σ') :
    ∃ g' w' z, g.Le g' ∧ Sim B w0 g' σ' w' ∧ RV g' r z ∧ (Builtin.append_ #[t, t'] ty #[u, .int k l]).run P w = .ok z w' := by
  unfold azeros at h
  split at h
  case h_2 => cases h
  rename_i e kn he hkn
  have ht := elT_run he
  split at h
  case h_2 => cases h
  rename_i sz by' z hsz hby hz
  split at h
  case isFalse => cases h
  rename_i hcnd
  obtain ⟨h0, hb, hc62, hzl, hzu, hzo, hpos⟩ := hcnd
  cases h
  cases hx
  obtain ⟨ie, hie, hie1⟩ : ∃ ie, P.info? e = some ie ∧ ie.size = sz := by
    unfold szT at hsz
    cases hi : P.info? e with
    | none => simp [hi] at hsz
    | some i => simp [hi] at hsz; exact ⟨i, rfl, hsz⟩
  have hie2 : ie.bytes = by' := by simpa [byT, hie] using hby
  have hie3 : ie.zero = some z := by simpa [zerT, hie] using hz
  obtain ⟨n, rfl⟩ : ∃ n : Nat, l = n := ⟨l.toNat, by omega⟩
  simp only [Int.toNat_natCast]
  have hne : av z ≠ .undef := by intro e; rw [e] at hzu; simp [AV.isUndef] at hzu
  have hzr := (av_ok g z).cells hne
  have hzs : z.cells.size = sz := by have := hzr.1; rw [hzl] at this; simpa using this.symm
  have hbn : n * ie.bytes ≤ 281474976710656 := by
    rw [hie2, Nat.mul_comm]
    have : ((by' * n : Nat) : Int) ≤ 140737488355328 := by rw [Int.natCast_mul]; exact hb
    omega
  have hrun := Lib.run_append_nil_zeros (P := P) w t t' ty e ie z k kn ht hkn hie hie3 n (by omega) (by omega) (by omega) hbn
  have hge : n ≤ grownCap w n 0 e := grownCap_ge w _ _ _
  have hmx : grownCap w n 0 e ≤ maxLen := grownCap_maxLen w (by omega)
  have hzm : Builtin.zeroCells z.cells n = madeCells z.cells (n * sz) := by unfold Builtin.zeroCells madeCells; rw [hzs]
  have hml := made_list z.cells sz hzs hpos n
  have hfl : ((List.replicate n (av z).cells).flatten).length = n * sz := by
    rw [List.length_flatten]; simp [hzl]
  have hcs : (Builtin.zeroCells z.cells n ++ Builtin.zeroCells z.cells (grownCap w n 0 e - n)).size = grownCap w n 0 e * sz := by
    rw [Array.size_append, zero_size _ _ sz hzs, zero_size _ _ sz hzs, ← Nat.add_mul]
    congr 1; omega
  have htk : (Builtin.zeroCells z.cells n ++ Builtin.zeroCells z.cells (grownCap w n 0 e - n)).toList.take ((List.replicate n (av z).cells).flatten).length = (List.replicate n z.cells.toList).flatten := by
    rw [hfl, hzm, Array.toList_append, hml]
    apply List.take_left'
    rw [List.length_flatten]; simp [hzs]
  have hone : (List.replicate n (av z).cells).flatten.all AV.one = true := by
    rw [List.all_eq_true] at hzo ⊢
    intro x hx
    obtain ⟨l', hl', hx'⟩ := List.mem_flatten.1 hx
    rw [List.mem_replicate] at hl'
    exact hzo x (hl'.2 ▸ hx')
  obtain ⟨g', h1, h2, h3⟩ := objNew hS.drew (e := e) (cs := (List.replicate n (av z).cells).flatten) (n := n) hfl hone (by rw [htk]; exact hzr.flatRep _) hcs hge hmx true (by simp)
  exact ⟨g', _, _, h1, h2, h3, hrun⟩

theorem fill_ok {place : Nat → Option (Nat × Nat)} : ∀ {parts : List (Nat × AV)} {parts' : List (Nat × Value)} {cs cs' : List AV} {c : Array Value}, parts.map (·.1) = parts'.map (·.1) → RVL g (parts.map (·.2)) (parts'.map (·.2)) →
    RVL g cs c.toList → afill place cs parts = some cs' → ∃ c', Instr.fill place c parts' = some c' ∧ RVL g cs' c'.toList
  | [], parts', cs, cs', c, h1, h2, h3, h4 => by
    simp only [List.map_nil] at h1
    have : parts' = [] := by simpa using h1.symm
    subst this
    simp only [afill] at h4; cases h4
    exact ⟨c, rfl, h3⟩
  | (i, v) :: parts, parts', cs, cs', c, h1, h2, h3, h4 => by
    cases parts' with
    | nil => simp at h1
    | cons p parts' =>
      obtain ⟨i', u⟩ := p
      simp only [List.map_cons, List.cons.injEq] at h1
      obtain ⟨rfl, h1⟩ := h1
      simp only [List.map_cons] at h2
      obtain ⟨u', us', he, hr, hrs⟩ := h2.cons_inv
      simp only [List.cons.injEq] at he
      obtain ⟨rfl, rfl⟩ := he
      simp only [afill] at h4
      split at h4
      · cases h4
      · rename_i off size hp
        split at h4
        · rename_i hc
          obtain ⟨hu, hl, hle⟩ := hc
          have hne : v ≠ .undef := by rintro rfl; simp [AV.isUndef] at hu
          have hcv := hr.cells hne
          have hus : u.cells.size = size := by have := hcv.1; rw [hl] at this; simpa using this.symm
          have hcs : c.size = cs.length := by simpa using h3.1.symm
          obtain ⟨g1, g2⟩ := Great.foldl_set off u.cells.toList 0 c
          have hfold : (u.cells.zipIdx.foldl (fun cs (x : Value × Nat) => cs.setIfInBounds (off + x.2) x.1) c).toList = c.toList.take off ++ u.cells.toList ++ c.toList.drop (off + u.cells.toList.length) := by
            have e0 : u.cells.zipIdx.foldl (fun cs (x : Value × Nat) => cs.setIfInBounds (off + x.2) x.1) c = (u.cells.toList.zipIdx 0).foldl (fun cs (x : Value × Nat) => cs.setIfInBounds (off + x.2) x.1) c := by
              rw [← Array.foldl_toList, Array.toList_zipIdx]
            rw [e0]
            apply List.ext_getElem?
            intro k
            have := g2 k
            rw [Array.getElem?_toList, this]
            simp only [Nat.add_zero, Array.length_toList, hus]
            by_cases hk1 : k < off
            · rw [if_neg (by omega), List.append_assoc, List.getElem?_append_left (by simp; omega), List.getElem?_take, if_pos hk1]; simp
            · by_cases hk2 : k < off + size
              · rw [if_pos (by omega), List.getElem?_append_left (by simp; omega), List.getElem?_append_right (by simp; omega)]
                congr 1
                simp; omega
              · rw [if_neg (by omega), List.getElem?_append_right (by simp; omega), List.getElem?_drop]
                have : off + size + (k - (c.toList.take off ++ u.cells.toList).length) = k := by simp; omega
                rw [this]; simp
          have hsp := h3.splice hcv off
          obtain ⟨c', k1, k2⟩ := fill_ok (place := place) (c := u.cells.zipIdx.foldl (fun cs (x : Value × Nat) => cs.setIfInBounds (off + x.2) x.1) c) h1 hrs (by rw [hfold]; exact hsp) h4
          refine ⟨c', ?_, k2⟩
          unfold Instr.fill
          simp only [hp]
          rw [if_neg (by simp [hus]; omega)]
          exact k1
        · cases h4

theorem build_ok {t : Nat} {parts : List (Nat × AV)} {parts' : Array (Nat × Value)} {r : AV} (h1 : parts.map (·.1) = parts'.toList.map (·.1)) (h2 : RVL g (parts.map (·.2)) (parts'.toList.map (·.2)))
    (h : abuild P t parts = some r) : ∃ z, (Instr.build t parts').run P w = .ok z w ∧ RV g r z := by
  unfold abuild at h
  split at h
  case h_2 => cases h
  rename_i z hz
  split at h
  · cases h
  rename_i hzu
  have hne : av z ≠ .undef := by intro e; rw [e] at hzu; simp [AV.isUndef] at hzu
  have hzr := (av_ok g z).cells hne
  obtain ⟨it, hit, hiz⟩ : ∃ it, P.info? t = some it ∧ it.zero = some z := by
    unfold zerT at hz
    cases hi : P.info? t with
    | none => simp [hi] at hz
    | some i => simp [hi] at hz; exact ⟨i, rfl, hz⟩
  split at h
  · rename_i places hp
    cases hf : afill (places[·]?) (av z).cells parts with
    | none => rw [hf] at h; cases h
    | some cs' =>
      rw [hf] at h; cases h
      obtain ⟨c', k1, k2⟩ := fill_ok h1 h2 hzr hf
      refine ⟨.agg c', run_build w t parts' c' ?_, .agg' k2⟩
      unfold placesT at hp
      split at hp
      · rename_i fs hu
        unfold Program.built
        simp only [hit, hu, hiz, hp]
        simpa using k1
      · cases hp
  · rename_i n e hp ha
    split at h
    · rename_i sz hs
      cases hf : afill (fun i => some (i * sz, sz)) (av z).cells parts with
      | none => rw [hf] at h; cases h
      | some cs' =>
        rw [hf] at h; cases h
        obtain ⟨c', k1, k2⟩ := fill_ok h1 h2 hzr hf
        refine ⟨.agg c', run_build w t parts' c' ?_, .agg' k2⟩
        unfold arrT at ha
        split at ha
        · rename_i n' e' hu
          cases ha
          unfold szT at hs
          cases hie : P.info? e with
          | none => simp [hie] at hs
          | some ie =>
            simp [hie] at hs
            unfold Program.built
            simp only [hit, hu, hiz, hie]
            rw [hs]; exact k1
        · cases ha
    · cases h
  · cases h

theorem dense_inv : ∀ (i : Nat) {parts : List (Nat × AV)} {xs : List AV}, dense i parts = some xs → parts = (xs.zipIdx i).map fun x => (x.2, x.1)
  | i, [], xs, h => by simp only [dense] at h; cases h; rfl
  | i, (j, v) :: r, xs, h => by
    simp only [dense] at h
    split at h
    · rename_i hj
      subst hj
      cases hd : dense (j + 1) r with
      | none => rw [hd] at h; cases h
      | some ys =>
        rw [hd] at h; cases h
        simp [List.zipIdx_cons, dense_inv (j + 1) hd]
    · cases h

theorem buildSlice_ok (hS : Sim B w0 g σ w) {ann : Ann} {t len : Nat} {parts : List (Nat × AV)} {parts' : Array (Nat × Value)} {r : AV} {σ' : State} (h1 : parts.map (·.1) = parts'.toList.map (·.1)) (h2 : RVL g (parts.map (·.2)) (parts'.toList.map (·.2)))
    (h : abuildSlice P σ ann t len parts = .ok r σ') : ∃ g' w' z, g.Le g' ∧ Sim B w0 g' σ' w' ∧ RV g' r z ∧ (Instr.buildSlice t len parts').run P w = .ok z w' := by
  unfold abuildSlice at h
  split at h
  case h_2 => cases h
  rename_i e he
  have ht := elT_run he
  split at h
  case h_2 => cases h
  rename_i sz z xs hsz hz hd
  split at h
  case isFalse => cases h
  rename_i hc
  obtain ⟨hl, hall, h24, hpos, hzs⟩ := hc
  obtain ⟨ie, hie, hie1⟩ : ∃ ie, P.info? e = some ie ∧ ie.size = sz := by
    unfold szT at hsz
    cases hi : P.info? e with
    | none => simp [hi] at hsz
    | some i => simp [hi] at hsz; exact ⟨i, rfl, hsz⟩
  have hie3 : ie.zero = some z := by simpa [zerT, hie] using hz
  have hparts := dense_inv 0 hd
  have hxs : parts.map (·.2) = xs := by rw [hparts]; simp [List.map_map, Function.comp_def]
  rw [hxs] at h2
  have hsz' : ∀ x ∈ xs, x.cells.length = sz := fun x hx => by
    have := List.all_eq_true.1 hall x hx
    simp at this; exact this.1
  have hone : (flat xs).all AV.one = true := by
    rw [List.all_eq_true]
    intro c hcm
    obtain ⟨x, hx, hcx⟩ := List.mem_flatMap.1 hcm
    have := List.all_eq_true.1 hall x hx
    simp only [Bool.and_eq_true] at this
    exact List.all_eq_true.1 this.2 c hcx
  have hparts' : parts'.toList = ((parts'.toList.map (·.2)).zipIdx 0).map fun x => (x.2, x.1) := by
    have hi : parts'.toList.map (·.1) = List.range parts'.toList.length := by
      rw [← h1, hparts]
      simp only [List.map_map, Function.comp_def]
      have : parts'.toList.length = xs.length := by
        have := congrArg List.length h1
        simp only [List.length_map] at this
        rw [← this, hparts]; simp
      rw [this]
      rw [List.range_eq_range', ← List.zipIdx_map_snd 0 xs]
    apply List.ext_getElem?
    intro k
    rcases Nat.lt_or_ge k parts'.toList.length with hk | hk
    · have h3 : (parts'.toList.map (·.1))[k]? = some k := by rw [hi, List.getElem?_range hk]
      rw [List.getElem?_map, List.getElem?_eq_getElem hk] at h3
      simp only [Option.map_some, Option.some.injEq] at h3
      rw [List.getElem?_map, List.getElem?_zipIdx, List.getElem?_map, List.getElem?_eq_getElem hk]
      simp only [Option.map_some, Nat.zero_add, Option.some.injEq]
      exact Prod.ext h3 rfl
    · rw [List.getElem?_eq_none hk, List.getElem?_eq_none (by simpa using hk)]
  -- the parts' cells, side by side
  have hcells : ∀ {xs : List AV} {us : List Value}, RVL g xs us → (∀ x ∈ xs, x.cells.length = sz) → (flat xs).all AV.one = true → RVL g (flat xs) (us.flatMap fun v => v.cells.toList) ∧ ∀ v ∈ us, v.cells.size = sz := by
    intro xs
    induction xs with
    | nil => intro us h _ _; have := h.nil_inv; subst this; exact ⟨RVL.nil g, by simp⟩
    | cons x xs ih =>
      intro us h hs ho
      obtain ⟨u, us', rfl, hr, hrs⟩ := h.cons_inv
      rw [flat_cons, List.all_append, Bool.and_eq_true] at ho
      have hne : x ≠ .undef := by rintro rfl; simp [AV.cells, AV.one] at ho
      obtain ⟨k1, k2⟩ := ih hrs (fun y hy => hs y (by simp [hy])) ho.2
      have hcx := hr.cells hne
      refine ⟨?_, fun v hv => ?_⟩
      · rw [flat_cons, List.flatMap_cons]; exact hcx.append k1
      · rcases List.mem_cons.1 hv with rfl | hv
        · have := hcx.1; rw [hs x (by simp)] at this; simpa using this.symm
        · exact k2 v hv
  obtain ⟨hrv, husz⟩ := hcells h2 hsz' hone
  have hlen' : (parts'.toList.map (·.2)).length = len := by rw [← h2.1, hl]
  obtain ⟨cells, hrun, hcl⟩ : ∃ cells : Array Value, (Instr.buildSlice t len parts').run P w = .ok (.slice (some ⟨w.heap.size, 0, none⟩) len len) (w.alloc (.cells cells e)) ∧ cells.toList = (parts'.toList.map (·.2)).flatMap fun v => v.cells.toList := by
    by_cases h0 : len = 0
    · subst h0
      have hnil : parts'.toList = [] := by
        have : (parts'.toList.map (·.2)) = [] := List.eq_nil_of_length_eq_zero hlen'
        simpa using this
      refine ⟨#[], ?_, by rw [hnil]; rfl⟩
      have hp0 : parts' = #[] := by apply Array.ext'; simpa using hnil
      subst hp0
      simp [Instr.buildSlice, run_underlying ht, sizeOf, typeInfo, hie, hie1, Instr.fill, newRow, Array.range_zero']
    · have hf := Great.fill_whole hpos (parts'.toList.map (·.2)) ((Array.range (len * ie.size)).map (z.cells[· % z.cells.size]!)) husz (by rw [hlen', hie1]; simp)
      rw [← hparts'] at hf
      have hne0 : ¬ len * ie.size = 0 := by
        rw [hie1]
        intro e0
        rcases Nat.mul_eq_zero.1 e0 with h | h <;> omega
      rw [← hie1] at hf
      exact ⟨_, run_buildSlice w t e len parts' _ ie z ht hie hie3 (by rw [hie1]; omega) hne0 hf, by simp⟩
  have hfl : (flat xs).length = len * sz := by rw [flat_length hsz', hl]
  have hcs : cells.size = len * sz := by
    have h3 := hrv.1
    rw [← hcl, hfl] at h3
    simpa using h3.symm
  split at h
  · cases h
    obtain ⟨g', k1, k2, k3⟩ := objNew hS (e := e) (cs := flat xs) (n := len) hfl hone (c := cells) (by rw [hfl, List.take_of_length_le (by simp [hcs]), hcl]; exact hrv) hcs (Nat.le_refl _) (by unfold maxLen; have := Nat.le_mul_of_pos_right len hpos; omega) false (fun _ => rfl)
    exact ⟨g', _, _, k1, k2, k3, hrun⟩
  · cases h
    obtain ⟨k1, k2⟩ := hS.newFrozen cells e
    refine ⟨_, _, _, k1, k2, ?_, hrun⟩
    rw [← hl]
    have hrv' : RVL g (flat xs) cells.toList := by rw [hcl]; exact hrv
    refine SliceV.rv (vs := cells.toList) ⟨hsz', hrv'.mono k1, fun _ => rfl, fun q hq => ?_, hone, Nat.le_refl _, rfl⟩
    rw [Ghost.frz_F, Nat.zero_add]
    exact List.getElem?_eq_getElem hq

end
end Go.V
