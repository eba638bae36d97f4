/- Check, Same. -/
import Derived.Test.YtgnjidopnplbbaaGreatDoorK3
set_option maxRecDepth 1000000
set_option linter.unusedVariables false
set_option linter.unusedSimpArgs false
set_option linter.unusedSectionVars false
namespace Go.V
open Go Go.Proofs

theorem T.small_len {t : T} (h : t.small) : t.l.length ≤ 64 := by
  cases t; rw [T.small] at h; exact h.1
theorem smallL_mem : ∀ {l : List T}, smallL l → ∀ x ∈ l, x.small
  | [], _, x, hx => by cases hx
  | y :: l, h, x, hx => by
    rw [smallL] at h
    rcases List.mem_cons.1 hx with rfl | hx
    · exact h.1
    · exact smallL_mem h.2 x hx
theorem T.small_mem {t x : T} (h : t.small) (hx : x ∈ t.l) : x.small := by
  cases t; rw [T.small] at h; exact smallL_mem h.2 x hx

theorem same_eq (x y : T) : same x y = (x.k == y.k && (x.n == y.n && (bseq x.s y.s && (((x.l.length : Int) == (y.l.length : Int)) && sameL x.l y.l)))) := by
  cases x; rw [same]; rfl
theorem sameL_drop {l m : List T} {i : Nat} (h1 : i < l.length) (h2 : i < m.length) : sameL (l.drop i) (m.drop i) = (same l[i] m[i] && sameL (l.drop (i + 1)) (m.drop (i + 1))) := by
  rw [List.drop_eq_getElem_cons h1, List.drop_eq_getElem_cons h2, sameL]

section
variable {B : Nat} {w0 : World} {G : Nat → AV}

theorem forms_runs (B : Nat) (w0 : World) (G : Nat → AV) : callB (EV B w0 G) annA (fun _ => none) 300 200 (.fn 129) [] noObj (cameB formsV) = true := by kernel_rfl

theorem loop33 {N : Nat} {x y : T} (hH : HOk1 (EV B w0 G) (H33 (EV B w0 G) N)) (hN : ∀ z ∈ x.l, z.small ∧ SizeOf.sizeOf z < N) (h64 : x.l.length ≤ 64) (Q : Post) (a : AAct) (σ : State) (h : L33 x y (.loop (lbody Tryz.prog 33 0)) Q a σ) :
    AWp (EV B w0 G) none (fnTmps Tryz.prog 33) (.loop (lbody Tryz.prog 33 0)) Q a σ := by
  obtain ⟨hxy, h1, h2, h3⟩ := h
  refine awp_loopE (li33 x y) (x0 := 0) (fun i hI => body_wp (EV_mixed B w0 G) hH (by kernel_rfl) (by kernel_rfl) ((vc33l B w0 G N x y i).mpr ?_)) (fun z hI e a σ hne k => ?_) ⟨Nat.zero_le _, by simp⟩ h1
  · obtain ⟨hi, hc⟩ := hI
    rw [tcellL_length, tcellL_length]
    refine bcase_of (fun hb => ?_) (fun hb => ?_)
    · have hb : i < x.l.length := by simpa using hb
      have hb' : i < y.l.length := by omega
      rw [sameL_drop hb hb'] at hc
      have hm := hN _ (List.getElem_mem hb)
      refine ⟨⟨by omega, by omega⟩, x.l[i], by rw [Int.toNat_natCast]; exact tcellL_get hb, ⟨by omega, by omega⟩, y.l[i], by rw [Int.toNat_natCast]; exact tcellL_get hb', x.l[i], y.l[i], rfl, hm, bcase_of (fun h4 => ?_) (fun h4 => ?_)⟩
      · have h4 : same x.l[i] y.l[i] = false := by simpa using h4
        rw [h4] at hc
        exact ⟨hc, rfl, rfl, trivial⟩
      · have h4 : same x.l[i] y.l[i] = true := by simpa using h4
        rw [h4, Bool.true_and] at hc
        exact ⟨i + 1, ⟨⟨hb, hc⟩, show x.l.length - (i + 1) < x.l.length - i by omega⟩, rfl, rfl, by
          have : IntKind.wrap .i64 ((i : Int) + 1) = ((i + 1 : Nat) : Int) := by rw [wr_small (by omega) (by omega)]; omega
          rw [this], rfl, rfl, rfl, trivial⟩
    · have hb : ¬ i < x.l.length := by simpa using hb
      have e : sameL (List.drop i x.l) (List.drop i y.l) = true := by
        rw [List.drop_of_length_le (by omega)]
        rfl
      exact ⟨by rw [hc, e], rfl, trivial⟩
  · cases e with
    | exit id =>
      cases id with
      | zero => exact exit_at (F := []) (FL := []) (L := []) (m := 0) k.2 (h2 k.1)
      | succ id => exact k.elim
    | ret => exact exit_at (F := [(4, .v (.bool false))]) (FL := []) (L := []) (m := 0) k.2 (h3 k.1)
    | normal => exact absurd rfl hne
    | _ => exact k.elim

variable (hG : ∀ i, NoId (G i))
include hG
theorem c129_ok : ContractOk (EV B w0 G) 129 C129 := by
  rintro args σ Q ⟨rfl, hQ⟩
  refine ACalls.pureD 60 hG (by simp) (callB_ok (EV_mixed B w0 G) (T := fun _ => none) (fun f h e => by cases e) 200 (.fn 129) [] noObj _ (forms_runs B w0 G)) fun v σ' k => ?_
  unfold cameB at k
  split at k
  · rename_i v' hv'
    have := AV.same_ok _ _ k
    subst this
    exact ⟨_, _, hv', .refl _, formsV_noId hG, hQ⟩
  · cases k

theorem c66_ok : ContractOk (EV B w0 G) 66 C66 := by
  rintro args σ Q ⟨t, rfl, hQ⟩
  refine pure_of hG (fun v hv => ?_) (.int _ _) (fun Q hQ => ?_) hQ
  · simp only [List.mem_cons, List.not_mem_nil, or_false] at hv
    subst hv
    exact agg_tc_noId t
  refine bodyC_ok (EV_mixed B w0 G) (hnd_ok (EV_mixed B w0 G) (contracts_cons (c129_ok hG) (contracts_cons (c130_ok hG (SizeOf.sizeOf t + 1)) contracts_nil))) (fun l hl _ Q a σ k => k.elim) ((vc66 B w0 G (SizeOf.sizeOf t + 1) t Q).mpr ?_)
  refine ⟨rfl, t, 4000, 600, rfl, Nat.lt_succ_self _, bcase_of (fun h => ?_) (fun h => ?_)⟩
  · have h : count t 4000 600 > 4000 := of_decide_eq_true h
    have := hQ (State.untok (State.untok noObj))
    unfold chkT at this
    rw [if_pos h] at this; exact this
  · have h : ¬ count t 4000 600 > 4000 := of_decide_eq_false h
    have := hQ (State.untok (State.untok noObj))
    unfold chkT at this
    rw [if_neg h] at this; exact this

theorem c33_ok : ∀ N, ContractOk (EV B w0 G) 33 (C33 N)
  | 0 => by
    rintro args σ Q ⟨x, y, rfl, hN, hQ⟩
    omega
  | N + 1 => by
    rintro args σ Q ⟨x, y, rfl, ⟨hs, hN⟩, hQ⟩
    have hH : HOk1 (EV B w0 G) (H33 (EV B w0 G) N) := hnd_ok (EV_mixed B w0 G) (contracts_cons (c33_ok N) contracts_nil)
    refine pure_of hG (fun v hv => ?_) (.bool _) (fun Q hQ => ?_) hQ
    · simp only [List.mem_cons, List.not_mem_nil, or_false] at hv
      rcases hv with rfl | rfl
      · exact agg_tc_noId x
      · exact agg_tc_noId y
    refine bodyC_ok (EV_mixed B w0 G) hH (fun l hl _ Q a σ k => ?_) ((vc33 B w0 G N x y Q).mpr ?_)
    · change l ∈ fnLoops Tryz.prog 33 at hl
      rw [fnLoops_33] at hl
      simp only [List.mem_cons, List.not_mem_nil, or_false] at hl
      subst hl
      exact loop33 hH (fun z hz => ⟨T.small_mem hs hz, by have := T.sizeOf_mem hz; omega⟩) (T.small_len hs) Q a σ k
    · rw [tcellL_length, tcellL_length]
      rw [same_eq] at hQ
      refine bcase_of (fun h1 => ?_) (fun h1 => bcase_of (fun h2 => ?_) (fun h2 => bcase_of (fun h3 => ?_) (fun h3 => bcase_of (fun h4 => ?_) (fun h4 => ⟨Int.ofNat_inj.1 (by simpa [bne] using h4), ⟨rfl, rfl, rfl, rfl, rfl, rfl, trivial⟩, fun h5 => ?_, fun h5 => ?_⟩))))
      · have e : (x.k == y.k) = false := by simpa [bne] using h1
        rw [e] at hQ; exact hQ _
      · have e1 : (x.k == y.k) = true := by simpa [bne] using h1
        have e : (x.n == y.n) = false := by simpa [bne] using h2
        rw [e1, e] at hQ; exact hQ _
      · have e1 : (x.k == y.k) = true := by simpa [bne] using h1
        have e2 : (x.n == y.n) = true := by simpa [bne] using h2
        have e : bseq x.s y.s = false := by simpa using h3
        rw [e1, e2, e] at hQ; exact hQ _
      · have e1 : (x.k == y.k) = true := by simpa [bne] using h1
        have e2 : (x.n == y.n) = true := by simpa [bne] using h2
        have e3 : bseq x.s y.s = true := by simpa using h3
        have e : ((x.l.length : Int) == (y.l.length : Int)) = false := by simpa [bne] using h4
        rw [e1, e2, e3, e] at hQ; exact hQ _
      · have e1 : (x.k == y.k) = true := by simpa [bne] using h1
        have e2 : (x.n == y.n) = true := by simpa [bne] using h2
        have e3 : bseq x.s y.s = true := by simpa using h3
        have e : ((x.l.length : Int) == (y.l.length : Int)) = true := by simpa [bne] using h4
        rw [e1, e2, e3, e, h5] at hQ; exact hQ _
      · have e1 : (x.k == y.k) = true := by simpa [bne] using h1
        have e2 : (x.n == y.n) = true := by simpa [bne] using h2
        have e3 : bseq x.s y.s = true := by simpa using h3
        have e : ((x.l.length : Int) == (y.l.length : Int)) = true := by simpa [bne] using h4
        rw [e1, e2, e3, e, h5] at hQ; exact hQ _
end
end Go.V
