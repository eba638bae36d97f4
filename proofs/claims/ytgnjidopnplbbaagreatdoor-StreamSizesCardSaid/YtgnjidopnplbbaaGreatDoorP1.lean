/- Names. -/
import Derived.Test.YtgnjidopnplbbaaGreatDoorK1
set_option maxRecDepth 1000000
set_option linter.unusedVariables false
set_option linter.unusedSimpArgs false
namespace Go.V
open Go Go.Proofs

theorem width_pos (s : ByteArray) (pos : Nat) : 1 ≤ (Utf8.decode s pos).2 := by
  unfold Utf8.decode
  dsimp only
  repeat' split
  all_goals (simp only; try omega)

theorem firstBad_ge (s : ByteArray) : ∀ n pos, firstBad s n pos = -1 ∨ 0 ≤ firstBad s n pos
  | 0, _ => .inl rfl
  | n + 1, pos => by
    unfold firstBad
    split
    · split
      · exact .inr (Int.natCast_nonneg _)
      · exact firstBad_ge s n _
    · exact .inl rfl

section
variable {B : Nat} {w0 : World} {G : Nat → AV}
theorem H0_ok : HOk1 (EV B w0 G) (H0 (EV B w0 G)) := hnd_ok (EV_mixed B w0 G) contracts_nil

/-- A body of a loop, as the kernel sees it. -/
theorem body_wp {E : Env} {H : Hand} (hm : E.P.follows .mixedOrders = true) (hH : HOk1 E H) {n : Nat} {an : FnAnn} {hs : FnHint} {c : Code} {Q : Post} {a : AAct} {σ : State} (hl : loopsIn c = []) (hc : codeOk n an c = true)
    (h : wpC E H (fun _ _ _ _ => False) an hs c Q a σ) : AWp E none n c Q a σ :=
  wpC_ok hH hm c Q a σ (fun l hl' => by rw [hl] at hl'; cases hl') hc h

theorem bad_neg {s : ByteArray} (h : bad s = -1) : bad s < 0 := by omega

theorem loop209 (s : ByteArray) (Q : Post) (a : AAct) (σ : State) (h : L209 s (.loop (lbody Tryz.prog 209 0)) Q a σ) : AWp (EV B w0 G) none (fnTmps Tryz.prog 209) (.loop (lbody Tryz.prog 209 0)) Q a σ := by
  refine awp_loopE (li209 s) (x0 := 0) (fun pos hI => body_wp (EV_mixed B w0 G) H0_ok (by kernel_rfl) (by kernel_rfl) ((vc209l B w0 G s pos).mpr ?_)) (fun x hI e a σ hne k => ?_) ⟨s.size + 1, by omega, rfl⟩ h.1
  · obtain ⟨n, hn, hb⟩ := hI
    obtain ⟨n, rfl⟩ : ∃ k, n = k + 1 := ⟨n - 1, by omega⟩
    unfold firstBad at hb
    refine bcase_of (fun h1 => ?_) (fun h1 => ?_)
    · have h1 : pos < s.size := by simpa using h1
      rw [if_pos h1] at hb
      refine bcase_of (fun h2 => ?_) (fun h2 => bcase_of (fun h3 => ?_) (fun h3 => ?_))
      · have h2 : ((Utf8.decode s pos).1 : Int) < 32 := by simpa using h2
        rw [if_pos (.inl h2)] at hb
        exact ⟨fun e => by omega, by rw [hb], rfl, trivial⟩
      · have h3 : ((Utf8.decode s pos).1 : Int) > 126 := by simpa using h3
        rw [if_pos (.inr h3)] at hb
        exact ⟨fun e => by omega, by rw [hb], rfl, trivial⟩
      · have h2 : ¬ ((Utf8.decode s pos).1 : Int) < 32 := by simpa using h2
        have h3 : ¬ ((Utf8.decode s pos).1 : Int) > 126 := by simpa using h3
        rw [if_neg (by omega)] at hb
        have := width_pos s pos
        exact ⟨pos + (Utf8.decode s pos).2, ⟨⟨n, by omega, hb⟩, show s.size - (pos + (Utf8.decode s pos).2) < s.size - pos by omega⟩, rfl, rfl, rfl, rfl, rfl, trivial⟩
    · have h1 : ¬ pos < s.size := by simpa using h1
      rw [if_neg h1] at hb
      exact ⟨hb, rfl, trivial⟩
  · cases e with
    | exit id =>
      cases id with
      | zero => exact exit_at k.2 (h.2.1 k.1)
      | succ id => exact k.elim
    | ret => exact exit_at k.2 (h.2.2 k.1)
    | normal => exact absurd rfl hne
    | _ => exact k.elim

/-- A contract out of a run without objects. -/
theorem pure_of {E : Env} {f : Nat} {args : List AV} {v : AV} {Q : AV → State → Prop} {σ : State} (hG : ∀ i, NoId (E.G i)) (ha : ∀ x ∈ args, NoId x) (hv : NoId v) (h : ∀ Q : AV → State → Prop, (∀ σ', Q v σ') → ACalls E f args noObj Q) (hQ : Q v σ.untok) : ACalls E f args σ Q :=
  .pure hG ha (h (fun u _ => u = v) fun _ => rfl) fun u σ' k => ⟨v, by rw [k]; exact .refl v, hv, hQ⟩

variable (hG : ∀ i, NoId (G i))
include hG
theorem c209_ok : ContractOk (EV B w0 G) 209 C209 := by
  rintro args σ Q ⟨s, rfl, hQ⟩
  refine pure_of hG (noIdL_ok [.str s, .func (.func 184) [] [], .bool true] rfl).1 (.int _ _) (fun Q hQ => ?_) hQ
  refine bodyC_ok (EV_mixed B w0 G) H0_ok (fun l hl _ Q a σ k => ?_) ((vc209 B w0 G s Q).mpr ⟨⟨rfl, rfl, rfl, rfl, rfl, trivial⟩, fun e => by rw [← e]; exact hQ _, fun e => hQ _⟩)
  change l ∈ fnLoops Tryz.prog 209 at hl
  rw [fnLoops_209] at hl
  simp only [List.mem_cons, List.not_mem_nil, or_false] at hl
  subst hl
  exact loop209 s Q a σ k

theorem H154_ok : HOk1 (EV B w0 G) (H154 (EV B w0 G)) := hnd_ok (EV_mixed B w0 G) (contracts_cons (c209_ok hG) contracts_nil)

theorem c154_ok {s : ByteArray} {σ : State} {Q : AV → State → Prop} (hQ : Q (.bool (nameB s)) σ.untok) : ACalls (EV B w0 G) 154 [.str s] σ Q := by
  refine pure_of hG (noIdL_ok [.str s] rfl).1 (.bool _) (fun Q hQ => ?_) hQ
  refine bodyC_ok (EV_mixed B w0 G) (H154_ok hG) (fun l hl _ Q a σ k => ?_) ((vc154 B w0 G s Q).mpr ?_)
  · change l ∈ fnLoops Tryz.prog 154 at hl
    rw [show fnLoops Tryz.prog 154 = [] by kernel_rfl] at hl
    cases hl
  · unfold nameB at hQ
    refine bcase_of (fun h1 => bcase_of (fun h2 => ⟨s, rfl, ?_⟩) (fun h2 => ?_)) (fun h1 => ?_)
    · rw [h1, h2] at hQ; exact hQ _
    · rw [h1, h2] at hQ; exact hQ _
    · rw [h1] at hQ; exact hQ _
end
end Go.V
