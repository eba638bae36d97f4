/- The check of terms. -/
import Derived.Test.YtgnjidopnplbbaaGreatDoorK2
set_option maxRecDepth 1000000
set_option linter.unusedVariables false
set_option linter.unusedSimpArgs false
set_option linter.unusedSectionVars false
namespace Go.V
open Go Go.Proofs

theorem untok_noObj : State.untok noObj = noObj := rfl
theorem lst_noObj : lst [] 0 = noObj := rfl

theorem count_eq (t : T) (left deep : Int) : count t left deep = if nodeB t left deep = true then countL t.l 1 left deep else wr (left + 1) := by
  cases t
  rw [count]
  rfl

theorem wr_small {n : Int} (h1 : -9223372036854775808 ≤ n) (h2 : n ≤ 9223372036854775807) : IntKind.wrap .i64 n = n := by
  rw [IntKind.wrap_i64]; omega

theorem countL_drop {l : List T} {i : Nat} (h : i < l.length) (n left deep : Int) : countL (l.drop i) n left deep =
    if wr (n + count l[i] (wr (left - n)) (wr (deep - 1))) > left then wr (left + 1) else countL (l.drop (i + 1)) (wr (n + count l[i] (wr (left - n)) (wr (deep - 1)))) left deep := by
  rw [List.drop_eq_getElem_cons h, countL]

theorem tcellL_get {l : List T} {i : Nat} (h : i < l.length) : (AV.vptr (AV.cells (List.getD (tcellL l) i AV.undef))) = AV.vptr (tc l[i]) := by
  rw [tcellL_getD h, tcell_eq]; rfl

section
variable {B : Nat} {w0 : World} {G : Nat → AV}

theorem loop130 {N : Nat} {t : T} {left deep : Int} (hH : HOk1 (EV B w0 G) (H130 (EV B w0 G) N)) (hN : ∀ x ∈ t.l, SizeOf.sizeOf x < N) (Q : Post) (a : AAct) (σ : State) (h : L130 t left deep (.loop (lbody Tryz.prog 130 0)) Q a σ) :
    AWp (EV B w0 G) none (fnTmps Tryz.prog 130) (.loop (lbody Tryz.prog 130 0)) Q a σ := by
  obtain ⟨h0, h1, h2, h3⟩ := h
  refine awp_loopE (li130 t left deep) (x0 := (0, 1)) (fun x hI => body_wp (EV_mixed B w0 G) hH (by kernel_rfl) (by kernel_rfl) ((vc130l B w0 G N t left deep x.1 x.2).mpr ?_)) (fun x hI e a σ hne k => ?_) h0 h1
  · obtain ⟨i, n⟩ := x
    obtain ⟨hi, h64, hc⟩ := hI
    dsimp only at hi hc ⊢
    have hl : (tcellL t.l).length = t.l.length := tcellL_length _
    rw [hl]
    refine bcase_of (fun hb => ?_) (fun hb => ?_)
    · have hb : i < t.l.length := by simpa using hb
      rw [countL_drop hb] at hc
      refine ⟨⟨by omega, by omega⟩, t.l[i], by rw [Int.toNat_natCast]; exact tcellL_get hb, t.l[i], _, _, rfl, hN _ (List.getElem_mem hb), bcase_of (fun h4 => ?_) (fun h4 => ?_)⟩
      · have h4 : wr (n + count t.l[i] (wr (left - n)) (wr (deep - 1))) > left := of_decide_eq_true h4
        rw [if_pos h4] at hc
        exact ⟨by rw [hc]; rfl, rfl, trivial⟩
      · have h4 : ¬ wr (n + count t.l[i] (wr (left - n)) (wr (deep - 1))) > left := of_decide_eq_false h4
        rw [if_neg h4] at hc
        exact ⟨(i + 1, wr (n + count t.l[i] (wr (left - n)) (wr (deep - 1)))), ⟨⟨hb, h64, hc⟩, show t.l.length - (i + 1) < t.l.length - i by omega⟩, rfl, rfl, rfl, rfl, rfl, rfl, by
          have : IntKind.wrap .i64 ((i : Int) + 1) = ((i + 1 : Nat) : Int) := by rw [wr_small (by omega) (by omega)]; omega
          rw [this], rfl, rfl, trivial⟩
    · have hb : ¬ i < t.l.length := by simpa using hb
      rw [List.drop_of_length_le (by omega), countL] at hc
      exact ⟨by rw [hc], rfl, trivial⟩
  · cases e with
    | exit id =>
      cases id with
      | zero => exact exit_at (F := [(9, .v (.int .i64 (countL t.l 1 left deep)))]) (FL := []) (L := []) (m := 0) k h2
      | succ id => exact k.elim
    | ret => exact exit_at (F := [(8, .v (.int .i64 (countL t.l 1 left deep)))]) (FL := []) (L := []) (m := 0) k h3
    | normal => exact absurd rfl hne
    | _ => exact k.elim

variable (hG : ∀ i, NoId (G i))
include hG
theorem c154 : ContractOk (EV B w0 G) 154 C154 := by
  rintro args σ Q ⟨s, rfl, hQ⟩
  exact c154_ok hG hQ

theorem formsV_noId : NoId formsV := (noIdB_ok formsV (by kernel_rfl)).1

theorem c130_ok : ∀ N, ContractOk (EV B w0 G) 130 (C130 N)
  | 0 => by
    rintro args σ Q ⟨t, left, deep, rfl, hN, hQ⟩
    omega
  | N + 1 => by
    rintro args σ Q ⟨t, left, deep, rfl, hN, hQ⟩
    have hH : HOk1 (EV B w0 G) (H130 (EV B w0 G) N) := hnd_ok (EV_mixed B w0 G) (contracts_cons (c154 hG) (contracts_cons (c130_ok N) contracts_nil))
    refine pure_of hG (fun v hv => ?_) (.int _ _) (fun Q hQ => ?_) hQ
    · simp only [List.mem_cons, List.not_mem_nil, or_false] at hv
      rcases hv with rfl | rfl | rfl | rfl
      · exact agg_tc_noId t
      · exact .int _ _
      · exact .int _ _
      · exact formsV_noId hG
    refine bodyC_ok (EV_mixed B w0 G) hH (fun l hl _ Q a σ k => ?_) ((vc130 B w0 G N t left deep Q).mpr ?_)
    · change l ∈ fnLoops Tryz.prog 130 at hl
      rw [fnLoops_130] at hl
      simp only [List.mem_cons, List.not_mem_nil, or_false] at hl
      subst hl
      exact loop130 hH (fun x hx => by have := T.sizeOf_mem hx; omega) Q a σ k
    · have hl : (tcellL t.l).length = t.l.length := tcellL_length _
      have bad : nodeB t left deep = false → ∀ σ', Q (.int .i64 (IntKind.wrap .i64 (left + 1))) σ' := fun h σ' => by
        have := hQ σ'
        rw [count_eq, h] at this
        exact this
      have good : nodeB t left deep = true → t.l.length ≤ 64 → ((0 ≤ t.l.length ∧ t.l.length ≤ 64 ∧ countL t.l 1 left deep = countL (t.l.drop 0) 1 left deep) ∧ ∀ σ', Q (.int .i64 (countL t.l 1 left deep)) σ') := fun h h64 => by
        refine ⟨⟨Nat.zero_le _, h64, by simp⟩, fun σ' => ?_⟩
        have := hQ σ'
        rw [count_eq, h] at this
        exact this
      rw [hl]
      refine bcase_of (fun h1 => bad (by simp [nodeB, h1]) _) (fun h1 => ?_)
      refine bcase_of (fun h2 => bad (by simp [nodeB, h2]) _) (fun h2 => ?_)
      have nodeF : nodeB t left deep = formB t := by simp [nodeB, h1, h2]
      rw [nodeF] at bad good
      refine bcase_of (fun h3 => ?_) (fun h3 => bcase_of (fun h4 => ?_) (fun h4 => ?_))
      · have h3 : t.k < 1 := by simpa using h3
        exact bad (by unfold formB; rw [if_neg (by omega), if_neg (by omega), if_neg (by omega), if_neg (by omega), if_neg (by omega), if_neg (by omega)]) _
      · have h4 : t.k > 6 := by simpa using h4
        exact bad (by unfold formB; rw [if_neg (by omega), if_neg (by omega), if_neg (by omega), if_neg (by omega), if_neg (by omega), if_neg (by omega)]) _
      have h3 : ¬ t.k < 1 := by simpa using h3
      have h4 : ¬ t.k > 6 := by simpa using h4
      refine ⟨by omega, by omega, ?_⟩
      have hkk : t.k = 1 ∨ t.k = 2 ∨ t.k = 3 ∨ t.k = 4 ∨ t.k = 5 ∨ t.k = 6 := by omega
      rcases hkk with hk | hk | hk | hk | hk | hk
      · have hf : formB t = (bseq t.s ⟨⟨[]⟩⟩ && (decide ((t.l.length : Int) = 0) && (decide (t.n ≥ 0) && decide (t.n < 100000)))) := by unfold formB; rw [if_pos hk]
        rw [hf] at bad good
        refine bcase_of (fun h => by rw [hk] at h; exact absurd h (by decide)) (fun _ => ?_)
        refine bcase_of (fun _ => ?_) (fun h => by rw [hk] at h; exact absurd h (by decide))
        refine bcase_of (fun c1 => bcase_of (fun c2 => bcase_of (fun c3 => bcase_of (fun c4 => bad (by simp_all <;> omega) _) (fun c4 => ?_)) (fun c3 => bad (by simp_all <;> omega) _)) (fun c2 => bad (by simp_all <;> omega) _)) (fun c1 => bad (by simp_all <;> omega) _)
        have c2' : (t.l.length : Int) = 0 := by simpa using c2
        obtain ⟨g1, g2⟩ := good (by simp_all) (by omega)
        exact ⟨g1, ⟨rfl, rfl, rfl, rfl, rfl, rfl, rfl, rfl, rfl, trivial⟩, g2 _, g2 _⟩
      · have hf : formB t = (bseq t.s ⟨⟨[]⟩⟩ && (decide ((t.l.length : Int) = 0) && (decide (t.n ≥ -2147483647) && decide (t.n ≤ 2147483647)))) := by unfold formB; rw [if_neg (by omega), if_pos hk]
        rw [hf] at bad good
        refine bcase_of (fun h => by rw [hk] at h; exact absurd h (by decide)) (fun _ => ?_)
        refine bcase_of (fun h => by rw [hk] at h; exact absurd h (by decide)) (fun _ => ?_)
        refine bcase_of (fun _ => ?_) (fun h => by rw [hk] at h; exact absurd h (by decide))
        refine bcase_of (fun c1 => bcase_of (fun c2 => bcase_of (fun c3 => bcase_of (fun c4 => bad (by simp_all <;> omega) _) (fun c4 => ?_)) (fun c3 => bad (by simp_all <;> omega) _)) (fun c2 => bad (by simp_all <;> omega) _)) (fun c1 => bad (by simp_all <;> omega) _)
        have c2' : (t.l.length : Int) = 0 := by simpa using c2
        obtain ⟨g1, g2⟩ := good (by simp_all) (by omega)
        exact ⟨g1, ⟨rfl, rfl, rfl, rfl, rfl, rfl, rfl, rfl, rfl, trivial⟩, g2 _, g2 _⟩
      · have hf : formB t = (decide (t.n = 0) && (decide ((t.l.length : Int) = 0) && nameB t.s)) := by unfold formB; rw [if_neg (by omega), if_neg (by omega), if_pos hk]
        rw [hf] at bad good
        refine bcase_of (fun h => by rw [hk] at h; exact absurd h (by decide)) (fun _ => ?_)
        refine bcase_of (fun h => by rw [hk] at h; exact absurd h (by decide)) (fun _ => ?_)
        refine bcase_of (fun h => by rw [hk] at h; exact absurd h (by decide)) (fun _ => ?_)
        refine bcase_of (fun _ => ?_) (fun h => by rw [hk] at h; exact absurd h (by decide))
        refine bcase_of (fun c1 => bcase_of (fun c2 => ⟨t.s, rfl, bcase_of (fun c3 => bad (by simp_all <;> omega) _) (fun c3 => ?_)⟩) (fun c2 => bad (by simp_all <;> omega) _)) (fun c1 => bad (by simp_all <;> omega) _)
        have c2' : (t.l.length : Int) = 0 := by simpa using c2
        obtain ⟨g1, g2⟩ := good (by simp_all) (by omega)
        exact ⟨g1, ⟨rfl, rfl, rfl, rfl, rfl, rfl, rfl, rfl, rfl, trivial⟩, g2 _, g2 _⟩
      · have hf : formB t = (decide (t.n = 0) && (decide ((t.l.length : Int) = 0) && decide ((t.s.size : Int) ≤ 255))) := by unfold formB; rw [if_neg (by omega), if_neg (by omega), if_neg (by omega), if_pos hk]
        rw [hf] at bad good
        refine bcase_of (fun h => by rw [hk] at h; exact absurd h (by decide)) (fun _ => ?_)
        refine bcase_of (fun h => by rw [hk] at h; exact absurd h (by decide)) (fun _ => ?_)
        refine bcase_of (fun h => by rw [hk] at h; exact absurd h (by decide)) (fun _ => ?_)
        refine bcase_of (fun h => by rw [hk] at h; exact absurd h (by decide)) (fun _ => ?_)
        refine bcase_of (fun _ => ?_) (fun h => by rw [hk] at h; exact absurd h (by decide))
        refine bcase_of (fun c1 => bcase_of (fun c2 => bcase_of (fun c3 => bad (by simp_all <;> omega) _) (fun c3 => ?_)) (fun c2 => bad (by simp_all <;> omega) _)) (fun c1 => bad (by simp_all <;> omega) _)
        have c2' : (t.l.length : Int) = 0 := by simpa using c2
        obtain ⟨g1, g2⟩ := good (by simp_all) (by omega)
        exact ⟨g1, ⟨rfl, rfl, rfl, rfl, rfl, rfl, rfl, rfl, rfl, trivial⟩, g2 _, g2 _⟩
      · have hf : formB t = (decide (t.n = 0) && (nameB t.s && (decide ((t.l.length : Int) ≥ 1) && decide ((t.l.length : Int) ≤ 16)))) := by unfold formB; rw [if_neg (by omega), if_neg (by omega), if_neg (by omega), if_neg (by omega), if_pos hk]
        rw [hf] at bad good
        refine bcase_of (fun h => by rw [hk] at h; exact absurd h (by decide)) (fun _ => ?_)
        refine bcase_of (fun h => by rw [hk] at h; exact absurd h (by decide)) (fun _ => ?_)
        refine bcase_of (fun h => by rw [hk] at h; exact absurd h (by decide)) (fun _ => ?_)
        refine bcase_of (fun h => by rw [hk] at h; exact absurd h (by decide)) (fun _ => ?_)
        refine bcase_of (fun h => by rw [hk] at h; exact absurd h (by decide)) (fun _ => ?_)
        refine bcase_of (fun _ => ?_) (fun h => by rw [hk] at h; exact absurd h (by decide))
        refine bcase_of (fun c1 => ⟨t.s, rfl, bcase_of (fun c2 => bcase_of (fun c3 => bcase_of (fun c4 => bad (by simp_all <;> omega) _) (fun c4 => ?_)) (fun c3 => bad (by simp_all <;> omega) _)) (fun c2 => bad (by simp_all <;> omega) _)⟩) (fun c1 => bad (by simp_all <;> omega) _)
        have c4' : (t.l.length : Int) ≤ 16 := by simpa using c4
        obtain ⟨g1, g2⟩ := good (by simp_all) (by omega)
        exact ⟨g1, ⟨rfl, rfl, rfl, rfl, rfl, rfl, rfl, rfl, rfl, trivial⟩, g2 _, g2 _⟩
      · have hf : formB t = (decide (t.n = 0) && (bseq t.s ⟨⟨[]⟩⟩ && decide ((t.l.length : Int) ≤ 64))) := by unfold formB; rw [if_neg (by omega), if_neg (by omega), if_neg (by omega), if_neg (by omega), if_neg (by omega), if_pos hk]
        rw [hf] at bad good
        refine bcase_of (fun h => by rw [hk] at h; exact absurd h (by decide)) (fun _ => ?_)
        refine bcase_of (fun h => by rw [hk] at h; exact absurd h (by decide)) (fun _ => ?_)
        refine bcase_of (fun h => by rw [hk] at h; exact absurd h (by decide)) (fun _ => ?_)
        refine bcase_of (fun h => by rw [hk] at h; exact absurd h (by decide)) (fun _ => ?_)
        refine bcase_of (fun h => by rw [hk] at h; exact absurd h (by decide)) (fun _ => ?_)
        refine bcase_of (fun h => by rw [hk] at h; exact absurd h (by decide)) (fun _ => ?_)
        refine bcase_of (fun _ => ?_) (fun h => by rw [hk] at h; exact absurd h (by decide))
        refine bcase_of (fun c1 => bcase_of (fun c2 => bcase_of (fun c3 => bad (by simp_all <;> omega) _) (fun c3 => ?_)) (fun c2 => bad (by simp_all <;> omega) _)) (fun c1 => bad (by simp_all <;> omega) _)
        have c3' : (t.l.length : Int) ≤ 64 := by simpa using c3
        obtain ⟨g1, g2⟩ := good (by simp_all) (by omega)
        exact ⟨g1, ⟨rfl, rfl, rfl, rfl, rfl, rfl, rfl, rfl, rfl, trivial⟩, g2 _, g2 _⟩
end
end Go.V
