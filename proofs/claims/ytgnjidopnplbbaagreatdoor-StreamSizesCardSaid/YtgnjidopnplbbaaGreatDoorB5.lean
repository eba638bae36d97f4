/- The law StreamSizes: its walk. -/
import Derived.Test.YtgnjidopnplbbaaGreatDoorK6
import Derived.Test.YtgnjidopnplbbaaGreatDoorU5
set_option maxRecDepth 1000000
set_option linter.unusedVariables false
set_option linter.unusedSimpArgs false
set_option linter.unusedSectionVars false
namespace Go.V
open Go Go.Proofs

theorem untok_cells {σ : State} {b : Nat} {cs : List AV} {e sz : Nat} {g : Bool} (h : σ.objs b = .cells cs e sz g) : σ.untok.objs b = .cells cs e sz g := by
  unfold State.untok; dsimp only; rw [h]
theorem untok_at {σ : State} {b : Nat} {r : Option Nat} {s : BS} (h : BufAt σ b r s) : BufAt σ.untok b r s := by
  obtain ⟨h1, q, fr, h2, h3⟩ := h
  refine ⟨h1, q, fr, untok_cells h2, ?_⟩
  cases h3 with
  | nil h => exact .nil h
  | row r pre fr hb hr ho hp hl hn h1 => exact .row r pre fr hb hr (untok_cells ho) hp hl hn h1
theorem keep_at {σ σ' : State} {b b2 : Nat} {r r' r2 : Option Nat} {s2 : BS} (k : Keeps σ σ' b r r') (h : BufAt σ b2 r2 s2) (hb : b2 ≠ b) (hr : some b2 ≠ r) (hrow : ∀ j, r2 = some j → j ≠ b ∧ some j ≠ r) : BufAt σ' b2 r2 s2 := by
  obtain ⟨h1, q, fr, h2, h3⟩ := h
  have hn := k.next
  refine ⟨by omega, q, fr, by rw [k.objs b2 h1 hb hr]; exact untok_cells h2, ?_⟩
  cases h3 with
  | nil h => exact .nil h
  | row r0 pre fr hb' hr' ho hp hl hn' h1' =>
    obtain ⟨k1, k2⟩ := hrow r0 rfl
    exact .row r0 pre fr hb' (by omega) (by rw [k.objs r0 hr' k1 k2]; exact untok_cells ho) hp hl hn' h1'
theorem row_lt {σ : State} {b j : Nat} {r : Option Nat} {s : BS} (h : BufAt σ b r s) (hr : r = some j) : j < σ.next := by
  subst hr
  obtain ⟨_, q, fr, _, h3⟩ := h
  cases h3 with
  | row _ _ _ _ hr => exact hr

theorem ask_room (s : BS) (r : Int) : (BS.ask { s with room := r }).2 = { s.ask.2 with room := r } := by
  cases s with
  | mk room came deal asked pend =>
    simp only [BS.ask]
    split
    · rfl
    · cases pend with
      | nil => rfl
      | cons x p => simp only [BS.dealt]; split <;> rfl
theorem put_room (s : BS) (t : T) (r : Int) : (BS.put { s with room := r } t).2 = { (s.put t).2 with room := r } := by
  cases s with
  | mk room came deal asked pend =>
    simp only [BS.put]
    split
    · rfl
    · split
      · rfl
      · cases pend with
        | nil => simp only [BS.dealt, List.nil_append]; split <;> rfl
        | cons x p => simp only [BS.dealt, List.cons_append]; split <;> rfl
theorem wf_room {s : BS} (h : s.wf) (r : Int) : BS.wf { s with room := r } := ⟨h.came, h.asked, h.deal, h.pend, h.small⟩

/-- Behind a step on the first buffer, and then one on the second. -/
theorem X4.Inv.first {x : X4} (h : x.Inv) {σ' : State} {r' : Option Nat} (k : Keeps x.σ σ' 0 x.ra r') : BufAt σ' 1 x.rb x.sb :=
  keep_at k h.b (by omega) (fun e => h.ra1 e.symm) fun j hj => ⟨fun e => h.rb0 (by rw [hj, e]), fun e => h.ne j e.symm hj⟩
theorem X4.Inv.step {x : X4} (h : x.Inv) (hi : x.i < 150) {σ' σ2 : State} {r' r2' : Option Nat} {s' sb' : BS} (h1 : BufAt σ' 0 r' s') (k1 : Keeps x.σ σ' 0 x.ra r') (h2 : BufAt σ2 1 r2' sb') (k2 : Keeps σ' σ2 1 x.rb r2')
    (hw : s'.wf) (hs : sb' = { s' with room := x.r2 }) : X4.Inv ⟨x.i + 1, σ2.untok, r', r2', s', x.r2⟩ := by
  have hn1 := k1.next
  have hn2 := k2.next
  have hb1 := h.b.1
  have r1 : r' ≠ some 1 := fun e => by
    rcases k1.row 1 e with e' | e'
    · exact h.ra1 e'
    · omega
  have rne : ∀ j, r' = some j → x.rb ≠ some j := fun j e e2 => by
    rcases k1.row j e with e' | e'
    · exact h.ne j e' e2
    · have := row_lt h.b e2; omega
  refine ⟨hi, hw, untok_at (keep_at k2 h1 (by omega) (fun e => h.rb0 e.symm) fun j hj => ⟨fun e => r1 (hj.trans (by rw [e])), fun e => rne j hj e.symm⟩), untok_at (by subst hs; exact h2), r1, fun e => ?_, fun j e e2 => ?_⟩
  · rcases k2.row 0 e with e' | e'
    · exact h.rb0 e'
    · have := h1.1; omega
  · rcases k2.row j e2 with e' | e'
    · exact rne j e e'
    · have := row_lt h1 e; omega

theorem cameL_get {l : List Came} {i : Nat} (h : i < l.length) : (AV.vptr (AV.cells (List.getD (cameL l) i AV.undef))) = AV.vptr (cc l[i]) := by
  unfold cameL
  rw [List.getD, List.getElem?_map, List.getElem?_eq_getElem h]; rfl

section
variable {B : Nat} {w0 : World}

theorem c23_ok : ContractOk (EV B w0 G1) 23 C23 := by
  rintro args σ Q ⟨l, rfl, ⟨h1, hs⟩, hQ⟩
  have hnid : NoId (dealsV l) := by
    cases l with
    | nil => exact .nilslice
    | cons x l =>
      obtain ⟨k, t⟩ := x
      have hl : l = [] := List.length_eq_zero_iff.1 (by simp only [List.length_cons] at h1; omega)
      subst hl
      refine .slice (by simp) fun y hy => ?_
      simp only [flat, List.map_nil, List.flatMap_cons, List.flatMap_nil, List.append_nil] at hy
      exact (dealV_noId _ _).2 y hy
  refine pure_of G1_noId (fun v hv => by
    simp only [List.mem_cons, List.not_mem_nil, or_false] at hv
    rcases hv with rfl | rfl <;> exact hnid) (.bool _) (fun Q hQ => ?_) hQ
  cases l with
  | nil =>
    have hH : HOk1 (EV B w0 G1) (H33 (EV B w0 G1) 0) := hnd_ok (EV_mixed B w0 G1) (contracts_cons (c33_ok G1_noId 0) contracts_nil)
    exact bodyC_ok (EV_mixed B w0 G1) hH (fun l _ hc Q a σ k => loopC_ok hH (EV_mixed B w0 G1) 23 5 l hc Q a σ k) ((vc23nil B w0 G1 0 Q).mpr (hQ _))
  | cons x l =>
    obtain ⟨k, t⟩ := x
    have hl : l = [] := List.length_eq_zero_iff.1 (by simp only [List.length_cons] at h1; omega)
    subst hl
    have hst : t.small := hs (k, t) (by simp)
    have hH : HOk1 (EV B w0 G1) (H33 (EV B w0 G1) (SizeOf.sizeOf t + 1)) := hnd_ok (EV_mixed B w0 G1) (contracts_cons (c33_ok G1_noId _) contracts_nil)
    refine bodyC_ok (EV_mixed B w0 G1) hH (fun l _ hc Q a σ k => loopC_ok hH (EV_mixed B w0 G1) 23 5 l hc Q a σ k) ((vc23one B w0 G1 (SizeOf.sizeOf t + 1) k t Q).mpr ?_)
    refine bcase_of (fun h => by simp at h) (fun _ => bcase_of (fun h => by simp at h) (fun _ => ⟨t, t, rfl, ⟨hst, Nat.lt_succ_self _⟩, bcase_of (fun h => ?_) (fun _ => hQ _)⟩))
    rw [same_refl_aux.1 t] at h; cases h

theorem c16_ok : ContractOk (EV B w0 G1) 16 C16 := by
  rintro args σ Q ⟨rfl, hQ⟩
  exact sane_ok B w0 hQ

theorem H4_ok : HOk1 (EV B w0 G1) (H4 (EV B w0 G1)) := hnd_ok (EV_mixed B w0 G1) (contracts_cons c16_ok (contracts_cons (c22_ok G1_noId) (contracts_cons (c24_ok G1_noId) (contracts_cons c23_ok contracts_nil))))

theorem askL_len (s : BS) : s.askL.length ≤ 1 := by
  unfold BS.askL
  split
  · simp
  · unfold BS.dealL; split
    · split <;> simp
    · simp
theorem putL_len (s : BS) (t : T) : (s.putL t).length ≤ 1 := by
  unfold BS.putL
  split
  · simp
  · split
    · simp
    · unfold BS.dealL; split
      · split <;> simp
      · simp

theorem loop4 {l : List Came} (Q : Post) (a : AAct) (σ : State) (h : L4 l (.loop (lbody Tryz.prog 4 0)) Q a σ) : AWp (EV B w0 G1) none (fnTmps Tryz.prog 4) (.loop (lbody Tryz.prog 4 0)) Q a σ := by
  obtain ⟨x0, h0, h1, h2⟩ := h
  refine awp_loopS (ls4 l) (x0 := x0) (fun x hI => body_wp (EV_mixed B w0 G1) H4_ok (by kernel_rfl) (by kernel_rfl) ((vc4l B w0 G1 l x).mpr ?_)) (fun z hI e a σ hne k => ?_) h0 h1
  · have hI : x.Inv := hI
    have hlen : (cameL l).length = l.length := List.length_map _
    rw [hlen]
    refine bcase_of (fun hb => bcase_of (fun hb2 => ?_) (fun _ => trivial)) (fun _ => trivial)
    have hb : x.i < l.length := by simpa using hb
    have hb2 : x.i < 150 := by have := of_decide_eq_true hb2; omega
    have hg : (AV.vptr (AV.cells (List.getD (cameL l) (Int.toNat (x.i : Int)) AV.undef))) = AV.vptr (cc l[x.i]) := by rw [Int.toNat_natCast]; exact cameL_get hb
    have hwr : IntKind.wrap .i64 ((x.i : Int) + 1) = ((x.i + 1 : Nat) : Int) := wr_nat (by omega)
    refine ⟨⟨by omega, by omega⟩, l[x.i], hg, bcase_of (fun _ => ?_) (fun _ => ?_)⟩
    · refine ⟨0, x.ra, x.s, rfl, ⟨hI.a, hI.wf⟩, fun r' σ' ⟨a1, k1⟩ => ⟨1, x.rb, x.sb, rfl, ⟨hI.first k1, wf_room hI.wf x.r2⟩, fun r2' σ2 ⟨a2, k2⟩ => bcase_of (fun h => ?_) (fun _ => ⟨x.s.askL, rfl, ⟨askL_len _, askL_small hI.wf⟩, bcase_of (fun h => ?_) (fun _ => ?_)⟩)⟩⟩
      · have : (x.s.askN : Int) ≠ x.sb.askN := by simpa using h
        exact this rfl
      · have : x.s.askE ≠ x.sb.askE := by simpa using h
        exact this rfl
      · exact ⟨⟨x.i + 1, σ2.untok, r', r2', x.s.ask.2, x.r2⟩, ⟨hI.step hb2 a1 k1 a2 k2 (ask_wf hI.wf) (ask_room x.s x.r2), show 150 - (x.i + 1) < 150 - x.i by omega⟩, rfl, rfl, rfl, by rw [hwr], .refl _⟩
    · refine ⟨⟨by omega, by omega⟩, l[x.i], hg, 0, x.ra, x.s, l[x.i].t, rfl, ⟨hI.a, hI.wf⟩, fun r' σ' ⟨a1, k1⟩ => ⟨⟨by omega, by omega⟩, l[x.i], hg, 1, x.rb, x.sb, l[x.i].t, rfl, ⟨hI.first k1, wf_room hI.wf x.r2⟩, fun r2' σ2 ⟨a2, k2⟩ => bcase_of (fun h => ?_) (fun _ => ⟨x.s.putL l[x.i].t, rfl, ⟨putL_len _ _, putL_small hI.wf _⟩, bcase_of (fun h => ?_) (fun _ => ?_)⟩)⟩⟩
      · have : (x.s.putN l[x.i].t : Int) ≠ x.sb.putN l[x.i].t := by simpa using h
        exact this rfl
      · have : x.s.putE l[x.i].t ≠ x.sb.putE l[x.i].t := by simpa using h
        exact this rfl
      · exact ⟨⟨x.i + 1, σ2.untok, r', r2', (x.s.put l[x.i].t).2, x.r2⟩, ⟨hI.step hb2 a1 k1 a2 k2 (put_wf hI.wf _) (put_room x.s _ x.r2), show 150 - (x.i + 1) < 150 - x.i by omega⟩, rfl, rfl, rfl, by rw [hwr], .refl _⟩
  · cases e with
    | exit id =>
      cases id with
      | zero => exact ⟨frm [] [], σ, ⟨fun t => .inl rfl⟩, .refl _, h2 σ⟩
      | succ id => exact k.elim
    | normal => exact absurd rfl hne
    | _ => exact k.elim

/-- StreamSizes returns true. -/
theorem sizes_ok (m n : Int) (l : List Came) : ACalls (EV B w0 G1) 4 [.int .i64 m, .int .i64 n, .slice 5 (cameL l) .any] noObj (fun v _ => v = .bool true) := by
  refine bodyC_ok (EV_mixed B w0 G1) H4_ok (fun lp hl _ Q a σ k => ?_) ((vc4 B w0 G1 m n l _).mpr ⟨rfl, bcase_of (fun _ => rfl) (fun h1 => bcase_of (fun _ => rfl) (fun h2 => bcase_of (fun _ => rfl) (fun h3 => bcase_of (fun _ => rfl) (fun h4 => ?_))))⟩)
  · change lp ∈ fnLoops Tryz.prog 4 at hl
    rw [fnLoops_4] at hl
    simp only [List.mem_cons, List.not_mem_nil, or_false] at hl
    subst hl
    exact loop4 Q a σ k
  · refine bcase_of (fun h => by rw [h1] at h; cases h) (fun _ => bcase_of (fun h => by rw [h2] at h; cases h) (fun _ => bcase_of (fun h => by rw [h3] at h; cases h) (fun _ => bcase_of (fun h => by rw [h4] at h; cases h) (fun _ => ?_))))
    have wf0 : BS.wf ⟨m, 0, 0, 0, []⟩ := ⟨by show 0 ≤ 20000; omega, by show 0 ≤ 20000; omega, Nat.le_refl _, rfl, by simp⟩
    exact ⟨⟨0, _, none, none, ⟨m, 0, 0, 0, []⟩, n⟩, ⟨Nat.zero_le _, wf0, ⟨show 0 < 2 by decide, _, 0, rfl, .nil rfl⟩, ⟨show 1 < 2 by decide, _, 0, rfl, .nil rfl⟩, by simp, by simp, by simp⟩, ⟨rfl, rfl, rfl, rfl, .refl _⟩, fun _ => rfl⟩
end
end Go.V
