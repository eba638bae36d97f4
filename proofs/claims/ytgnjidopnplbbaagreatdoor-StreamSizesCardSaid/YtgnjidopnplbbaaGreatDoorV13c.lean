/- The V-model, part 13c: regions that draw their order: the proof. -/
import Derived.Test.YtgnjidopnplbbaaGreatDoorV13b
set_option linter.unusedSimpArgs false
set_option linter.unusedVariables false
namespace Go.V
open Go.RowKit

section
variable {E : Env} {H : Hand} {rd : Option Nat} {F : Fence} {n : Nat} {R0 : Nat → Option Obj} {ops : Array Oper} {anc eff : List Nat} {an : FnAnn} {id : Nat}

structure OpSpec (anc eff : List Nat) (ops : Array Oper) (i : Nat) (o : Oper) : Prop where
  mask : anc.getD i 0 = ancMask anc o
  back : ∀ e ∈ o.after, Region.binds .any e = true → e.on < i
  pure : i ∉ eff → pureOp o = true
  look : ∀ k ok, ops[k]? = some ok → ∀ t, ok.dst = some t → t ∈ o.looksAt ops → k ∉ eff → isBefore anc k i = true
  dst : ∀ k ok, ops[k]? = some ok → ∀ t, ok.dst = some t → k = i ∨ o.dst ≠ some t

theorem mem_zip {i : Nat} {o : Oper} : (o, i) ∈ ops.toList.zipIdx ↔ ops[i]? = some o := by
  rw [List.mem_zipIdx_iff_getElem?]; simp

theorem drawOk_spec (h : drawOk anc eff ops = true) {i : Nat} {o : Oper} (hi : ops[i]? = some o) : OpSpec anc eff ops i o := by
  unfold drawOk at h
  rw [Bool.and_eq_true, List.all_eq_true] at h
  have h1 := h.1 (o, i) (mem_zip.2 hi)
  unfold opOk at h1
  simp only [Bool.and_eq_true, beq_iff_eq, List.all_eq_true, Bool.or_eq_true, Bool.not_eq_true', decide_eq_true_eq] at h1
  obtain ⟨⟨⟨h1, h2⟩, h3⟩, h4⟩ := h1
  refine ⟨h1, fun e he hb => ?_, fun hn => ?_, fun k ok hk t ht hl hke => ?_, fun k ok hk t ht => ?_⟩
  · rcases h2 e (by simpa using he) with h | h
    · rw [hb] at h; cases h
    · exact h
  · rcases h3 with h | h
    · exact absurd (by simpa using h) hn
    · exact h
  · have := h4 (ok, k) (mem_zip.2 hk)
    simp only [ht, Bool.and_eq_true, Bool.or_eq_true, Bool.not_eq_true'] at this
    rcases this.1 with (h | h) | h
    · have : (o.looksAt ops).contains t = true := by simpa using hl
      rw [this] at h; cases h
    · exact h
    · exact absurd (by simpa using h) hke
  · have := h4 (ok, k) (mem_zip.2 hk)
    simp only [ht, Bool.and_eq_true, Bool.or_eq_true, beq_iff_eq, bne_iff_ne] at this
    exact this.2

theorem drawOk_eff (h : drawOk anc eff ops = true) {e : Nat} (he : e ∈ eff) : e < ops.size := by
  unfold drawOk at h
  rw [Bool.and_eq_true, List.all_eq_true, List.all_eq_true] at h
  simpa using h.2 e he

structure DInv (eff : List Nat) (ops : Array Oper) (listed : Array Bool) (done : List Nat) : Prop where
  size : listed.size = ops.size
  closed : ∀ i o, ops[i]? = some o → listed.getD i false = true → ∀ e ∈ o.after, Region.binds .any e = true → listed.getD e.on false = true
  doneD : ∀ e ∈ done, listed.getD e false = true ∧ e ∈ eff
  doneE : ∀ e ∈ eff, listed.getD e false = true → e ∈ done

def pend (eff : List Nat) (ops : Array Oper) (listed : Array Bool) (t : Nat) : Prop := ∃ i o, ops[i]? = some o ∧ listed.getD i false = false ∧ o.dst = some t ∧ i ∉ eff

theorem anc_closed (hd : drawOk anc eff ops = true) {listed : Array Bool} (hcl : ∀ i o, ops[i]? = some o → listed.getD i false = true → ∀ e ∈ o.after, Region.binds .any e = true → listed.getD e.on false = true) :
    ∀ (i : Nat) (o : Oper), ops[i]? = some o → (∀ e ∈ o.after, Region.binds .any e = true → listed.getD e.on false = true) → ∀ k, isBefore anc k i = true → listed.getD k false = true := by
  intro i
  induction i using Nat.strongRecOn with
  | _ i ih =>
    intro o hi hal k hk
    have hs := drawOk_spec hd hi
    unfold isBefore at hk
    rw [hs.mask] at hk
    obtain ⟨e, he, hb, h⟩ := ancMask_bit anc o k hk
    rcases h with h | h
    · rw [← h]; exact hal e he hb
    · have hlt := hs.back e he hb
      have hsz : i < ops.size := (Array.getElem?_eq_some_iff.1 hi).1
      have hoe : ops[e.on]? = some ops[e.on] := Array.getElem?_eq_getElem (by omega)
      exact ih e.on hlt _ hoe (hcl e.on _ hoe (hal e he hb)) k h

theorem getD_flip {listed : Array Bool} {i : Nat} (h : i < listed.size) : listed.getD i true = listed.getD i false := by
  simp [Array.getD, h]

/-- What holds behind the operations that change nothing. -/
def canS (E : Env) (H : Hand) (an : FnAnn) (id : Nat) (ops : Array Oper) (anc eff : List Nat) (f : Nat) (done : List Nat) (K : Next') (a : AAct) (σ : State) : Prop :=
  checkN E H an id ops (ops.toList.zipIdx.filter (alive anc eff done)) a σ ∧
  (match eff.all (done.contains ·) with
    | true => K a σ
    | false => allE (fun (oi : Oper × Nat) => stepS E H (an.ann id oi.2) ops oi.1 (fun a'' σ'' => drawS E H an id ops anc eff f (oi.2 :: done) K a'' σ'') a σ) (ops.toList.zipIdx.filter (avail anc eff done)))

theorem newly_eager {done : List Nat} {x : Oper × Nat} (h : newly anc eff done x = true) : eager anc eff done x.2 = true := by
  unfold newly at h
  split at h
  · exact h
  · simp only [Bool.and_eq_true] at h; exact h.1

theorem eager_pure (hd : drawOk anc eff ops = true) {done : List Nat} {x : Oper × Nat} (hx : x ∈ ops.toList.zipIdx) (h : eager anc eff done x.2 = true) : pureOp x.1 = true := by
  refine (drawOk_spec hd (mem_zip.1 hx)).pure ?_
  unfold eager at h
  simp only [Bool.and_eq_true, Bool.not_eq_true'] at h
  intro he
  have : eff.contains x.2 = true := by simpa using he
  rw [this] at h; cases h.1

theorem drawS_can (hd : drawOk anc eff ops = true) {f : Nat} {done : List Nat} {K : Next'} {a : AAct} {σ : State} (h : drawS E H an id ops anc eff f done K a σ) :
    ∃ f' a', canS E H an id ops anc eff f' done K a' σ ∧ a'.l = a.l ∧ ∀ t, (∀ x ∈ ops.toList.zipIdx, newly anc eff done x = true → x.1.dst ≠ some t) → a'.t t = a.t t := by
  cases f with
  | zero => exact h.elim
  | succ f =>
    obtain ⟨a', h1, h2, h3⟩ := runN_get _ _ a (fun x hx => eager_pure hd (List.mem_filter.1 hx).1 (newly_eager (List.mem_filter.1 hx).2)) h
    exact ⟨f, a', h1, h2, fun t ht => h3 t fun x hx => ht x (List.mem_filter.1 hx).1 (List.mem_filter.1 hx).2⟩

theorem draw_main (hH : HOk E H) {g0 : Ghost} (hF : FenceOf g0 rd F) (hr : regOk n ops = true) (hd : drawOk anc eff ops = true) {Q : Post} :
    ∀ (m : Nat) (listed : Array Bool) (done : List Nat) (f : Nat) (a a1 : AAct) (σ : State) (g : Ghost) (w : World) (act : Act) (loc : Nat → Option Nat),
      listed.toList.countP (!·) = m → DInv eff ops listed done → canS E H an id ops anc eff f done (Q .normal) a σ → Agree (pend eff ops listed) a a1 →
      g0.LeX g → RelG g E.G → Sim E.B E.w0 g σ w → Fr n R0 E.B g loc a1 act → wpAnyIn F 0 E.P .any ops (WPost E n R0 g0 Q) m listed act w := by
  intro m
  induction m with
  | zero =>
    intro listed done f a a1 σ g w act loc hc hI hC hA hle hG hS hT
    have hall : ∀ i, i < ops.size → listed.getD i false = true := by
      intro i hi
      rw [List.countP_eq_zero] at hc
      have hi' : i < listed.size := by rw [hI.size]; exact hi
      have := hc listed[i] (by simp)
      simp [hi'] at this ⊢; exact this
    refine ⟨?_, ?_⟩
    · rw [List.eq_nil_iff_forall_not_mem]
      intro j hj
      obtain ⟨h1, o, h2, _⟩ := mem_ready.1 hj
      have hlt : j < ops.size := (Array.getElem?_eq_some_iff.1 h2).1
      rw [getD_flip (by rw [hI.size]; exact hlt), hall j hlt] at h1
      cases h1
    · have hfin : eff.all (done.contains ·) = true := by
        rw [List.all_eq_true]
        intro e he
        have := hI.doneE e he (hall e (drawOk_eff hd he))
        simpa using this
      have hk := hC.2
      rw [hfin] at hk
      refine ⟨g, a, σ, loc, hle, hS, ?_, hk⟩
      have : a1 = a := by
        have h1 : a1.t = a.t := funext fun t => hA.t t (by
          rintro ⟨i, o, h1, h2, _, _⟩
          rw [hall i (Array.getElem?_eq_some_iff.1 h1).1] at h2; cases h2)
        obtain ⟨t1, l1⟩ := a1
        obtain ⟨t0, l0⟩ := a
        simp only at h1
        have h2 : l1 = l0 := hA.l
        rw [h1, h2]
      rw [← this]; exact hT
  | succ m ih =>
    intro listed done f a a1 σ g w act loc hc hI hC hA hle hG hS hT
    constructor
    · intro hnil
      exfalso
      have hex : ∃ i, i < ops.size ∧ listed.getD i false = false := by
        have : 0 < listed.toList.countP (!·) := by omega
        rw [List.countP_pos_iff] at this
        obtain ⟨x, hx, hx'⟩ := this
        obtain ⟨i, hi, rfl⟩ := List.getElem_of_mem hx
        have hi' : i < listed.size := by simpa using hi
        refine ⟨i, by rw [← hI.size]; exact hi', ?_⟩
        simp [hi'] at hx' ⊢; exact hx'
      obtain ⟨i, ⟨hi, hf⟩, hmin⟩ := least_nat (fun i => i < ops.size ∧ listed.getD i false = false) hex
      have hoi : ops[i]? = some ops[i] := Array.getElem?_eq_getElem hi
      have : i ∈ Region.ready .any ops listed := by
        refine mem_ready.2 ⟨by rw [getD_flip (by rw [hI.size]; exact hi)]; exact hf, _, hoi, fun e he hb => ?_⟩
        have hlt := (drawOk_spec hd hoi).back e he hb
        cases hl : listed.getD e.on false with
        | true => rfl
        | false => have := hmin e.on ⟨by omega, hl⟩; omega
      rw [hnil] at this; cases this
    · intro j hj
      obtain ⟨hu, oj, hoj, hall⟩ := mem_ready.1 hj
      have hlt : j < ops.size := (Array.getElem?_eq_some_iff.1 hoj).1
      have hlt' : j < listed.size := by rw [hI.size]; exact hlt
      rw [getD_flip hlt'] at hu
      have hs := drawOk_spec hd hoj
      have hanc : ∀ k, isBefore anc k j = true → listed.getD k false = true := anc_closed hd hI.closed j oj hoj hall
      have hdo : dstOk n oj = true := Array.all_eq_true_iff_forall_mem.1 hr oj (Array.mem_of_getElem? hoj)
      have hc' : (listed.setIfInBounds j true).toList.countP (!·) = m := by
        have h1 : listed.toList[j]'(by simpa using hlt') = false := by
          have : listed.getD j false = listed[j] := by simp [hlt']
          rw [this] at hu; simpa using hu
        rw [Array.toList_setIfInBounds, List.countP_set (by simpa using hlt')]
        rw [h1, hc]; simp
      have hset : ∀ i, (listed.setIfInBounds j true).getD i false = true ↔ (i = j ∨ listed.getD i false = true) := by
        intro i
        by_cases e : j = i
        · subst e; simp [hlt']
        · rw [getD_set_ne false e]; constructor
          · exact .inr
          · rintro (h | h); exact absurd h.symm e; exact h
      have hpend : ∀ t, oj.dst ≠ some t → pend eff ops listed t → pend eff ops (listed.setIfInBounds j true) t := by
        rintro t ht ⟨i, o, h1, h2, h3, h4⟩
        refine ⟨i, o, h1, ?_, h3, h4⟩
        have : i ≠ j := by rintro rfl; rw [hoj] at h1; cases h1; exact ht h3
        rw [getD_set_ne false (Ne.symm this)]; exact h2
      have hlook : ∀ t ∈ oj.looksAt ops, ¬ pend eff ops listed t := by
        rintro t ht ⟨i, o, h1, h2, h3, h4⟩
        have := hanc i (hs.look i o h1 t h3 ht h4)
        rw [this] at h2; cases h2
      have hclosed' : ∀ i o, ops[i]? = some o → (listed.setIfInBounds j true).getD i false = true → ∀ e ∈ o.after, Region.binds .any e = true → (listed.setIfInBounds j true).getD e.on false = true := by
        intro i o hi hl e he hb
        rcases (hset i).1 hl with rfl | hl
        · rw [hoj] at hi; cases hi; exact (hset _).2 (.inr (hall e he hb))
        · exact (hset _).2 (.inr (hI.closed i o hi hl e he hb))
      unfold wpOpIn
      rw [hoj]
      dsimp only
      by_cases hje : j ∈ eff
      · -- it changes things
        have hnd : j ∉ done := fun h => by have := (hI.doneD j h).1; rw [this] at hu; cases hu
        have hfin : eff.all (done.contains ·) = false := by
          rw [List.all_eq_false]
          exact ⟨j, hje, by simpa using hnd⟩
        have hk := hC.2
        rw [hfin] at hk
        have hav : avail anc eff done (oj, j) = true := by
          unfold avail
          simp only [Bool.and_eq_true, List.all_eq_true, Bool.or_eq_true, Bool.not_eq_true']
          refine ⟨⟨by simpa using hje, by simpa using hnd⟩, fun e he => ?_⟩
          cases hb : isBefore anc e j with
          | false => exact .inl rfl
          | true => exact .inr (by simpa using hI.doneE e he (hanc e hb))
        have hst := allE_mem hk (oj, j) (List.mem_filter.2 ⟨mem_zip.2 hoj, hav⟩)
        have hst1 := stepS_rel (a1 := a1) (K1 := fun a1' σ' => ∃ a', drawS E H an id ops anc eff f (j :: done) (Q .normal) a' σ' ∧ Upd (pend eff ops listed) oj a1 a' a1') hH hA hlook (fun a' a1' σ' hu k => ⟨a', k, hu⟩) hst
        refine step_ok hH (hF.mono hle) hG hS hT hr hdo hst1 fun g' a1' σ' act' w' loc' k1 k2 k3 k4 => ?_
        obtain ⟨a', k5, k6⟩ := k4
        obtain ⟨f', a'', k7, k8, k9⟩ := drawS_can hd k5
        refine ih (listed.setIfInBounds j true) (j :: done) f' a'' a1' σ' g' w' act' loc' hc' ⟨by simpa using hI.size, hclosed', fun e he => ?_, fun e he hl => ?_⟩ k7 ⟨by rw [k6.l, k8], fun t ht => ?_⟩ (hle.trans k1) (hG.monoX k1) k2 k3
        · rcases List.mem_cons.1 he with rfl | he
          · exact ⟨(hset _).2 (.inl rfl), hje⟩
          · exact ⟨(hset _).2 (.inr (hI.doneD e he).1), (hI.doneD e he).2⟩
        · rcases (hset e).1 hl with rfl | hl
          · simp
          · exact List.mem_cons_of_mem _ (hI.doneE e he hl)
        · rw [k6.t t (by
            by_cases hd' : oj.dst = some t
            · exact .inr hd'
            · exact .inl fun hp => ht (hpend t hd' hp)), k9 t fun x hx hn hdx => ?_]
          have he := newly_eager hn
          refine ht ⟨x.2, x.1, mem_zip.1 hx, ?_, hdx, fun hxe => by
            unfold eager at he
            have : eff.contains x.2 = true := by simpa using hxe
            rw [this] at he; simp at he⟩
          have hne : x.2 ≠ j := by
            intro e; unfold eager at he; rw [e] at he
            have : eff.contains j = true := by simpa using hje
            rw [this] at he; simp at he
          rw [getD_set_ne false (Ne.symm hne)]
          cases hl : listed.getD x.2 false with
          | false => rfl
          | true =>
            exfalso
            simp only [newly, Bool.and_eq_true, Bool.not_eq_true'] at hn
            obtain ⟨h1, h2⟩ := hn
            have : eager anc eff done x.2 = true := by
              unfold eager at h1 ⊢
              simp only [Bool.and_eq_true, List.all_eq_true, Bool.or_eq_true, Bool.not_eq_true'] at h1 ⊢
              refine ⟨h1.1, fun e he => ?_⟩
              cases hb : isBefore anc e x.2 with
              | false => exact .inl rfl
              | true =>
                have hle' := anc_closed hd hI.closed x.2 x.1 (mem_zip.1 hx) (hI.closed x.2 x.1 (mem_zip.1 hx) hl) e hb
                exact .inr (by simpa using hI.doneE e he hle')
            rw [this] at h2; cases h2
      · -- it changes nothing
        have hlive : alive anc eff done (oj, j) = true := by
          unfold alive eager
          simp only [Bool.and_eq_true, List.all_eq_true, Bool.or_eq_true, Bool.not_eq_true', List.any_eq_false, Bool.not_eq_true]
          refine ⟨⟨by simpa using hje, fun e he => ?_⟩, fun e he => ?_⟩
          · cases hb : isBefore anc e j with
            | false => exact .inl rfl
            | true => exact .inr (by simpa using hI.doneE e he (hanc e hb))
          · cases hb : isBefore anc j e with
            | false => rfl
            | true =>
              have h1 := (hI.doneD e he).1
              have h2 := drawOk_eff hd (hI.doneD e he).2
              have hoe : ops[e]? = some ops[e] := Array.getElem?_eq_getElem h2
              have := anc_closed hd hI.closed e _ hoe (hI.closed e _ hoe h1) j hb
              rw [this] at hu; cases hu
        have hst := checkN_mem hC.1 (oj, j) (List.mem_filter.2 ⟨mem_zip.2 hoj, hlive⟩)
        have hst1 := stepS_rel (a1 := a1) (K1 := fun a1' σ' => σ' = σ ∧ Agree (pend eff ops (listed.setIfInBounds j true)) a a1') hH hA hlook (fun a' a1' σ' hu k => ⟨k.1, by rw [(hu.p (hs.pure hje)).1, hA.l], fun t ht => by
          by_cases hd' : oj.dst = some t
          · rw [hu.t t (.inr hd')]
            have := k.2
            simp only [sameAt, hd'] at this
            exact this
          · rw [(hu.p (hs.pure hje)).2 t hd']
            exact hA.t t fun hp => ht (hpend t hd' hp)⟩) hst
        refine step_ok hH (hF.mono hle) hG hS hT hr hdo hst1 fun g' a1' σ' act' w' loc' k1 k2 k3 k4 => ?_
        obtain ⟨rfl, k4⟩ := k4
        refine ih (listed.setIfInBounds j true) done f a a1' _ g' w' act' loc' hc' ⟨by simpa using hI.size, hclosed', fun e he => ⟨(hset _).2 (.inr (hI.doneD e he).1), (hI.doneD e he).2⟩, fun e he hl => ?_⟩ hC k4 (hle.trans k1) (hG.monoX k1) k2 k3
        rcases (hset e).1 hl with rfl | hl
        · exact absurd he hje
        · exact hI.doneE e he hl

theorem awp_draw {Q : Post} {a : AAct} {σ : State} (hH : HOk E H) (hm : E.P.follows .mixedOrders = true) (hr : regOk n ops = true) (hd : drawOk anc eff ops = true)
    {f : Nat} (h : drawS E H an id ops anc eff f [] (Q .normal) a σ) : AWp E rd n (.region id ops true) Q a σ := by
  refine ⟨fun g w act loc R0 F hF hG hS hT => wpIn_region_any hm ?_⟩
  obtain ⟨f', a', h1, h2, h3⟩ := drawS_can hd h
  have hf : ∀ i, (Array.replicate ops.size false).getD i false = false := fun i => by
    simp only [Array.getD_eq_getD_getElem?, Array.getElem?_replicate]; split <;> rfl
  refine draw_main hH hF hr hd ops.size (Array.replicate ops.size false) [] f' a' a σ g _ act loc (by rw [Array.toList_replicate, List.countP_replicate]; simp) ⟨by simp, fun i o hi hl => ?_, fun e he => absurd he (by simp), fun e he hl => ?_⟩ h1 ⟨h2.symm, fun t ht => (h3 t fun x hx hn hdx => ht ⟨x.2, x.1, mem_zip.1 hx, hf _, hdx, fun hxe => by
    have he := newly_eager hn
    unfold eager at he
    have : eff.contains x.2 = true := by simpa using hxe
    rw [this] at he; simp at he⟩).symm⟩ (.refl g) hG hS.drew hT
  · rw [hf] at hl; cases hl
  · rw [hf] at hl; cases hl
end
end Go.V
