/- Copies of terms. -/
import Derived.Test.YtgnjidopnplbbaaGreatDoorK4
set_option maxRecDepth 1000000
set_option linter.unusedVariables false
set_option linter.unusedSimpArgs false
set_option linter.unusedSectionVars false
namespace Go.V
open Go Go.Proofs

theorem tcellL_sz (l : List T) : ∀ x ∈ tcellL l, x.cells.length = 4 := by
  intro x hx
  rw [tcellL_eq, List.mem_map] at hx
  obtain ⟨t, _, rfl⟩ := hx
  rw [tcell_eq]; rfl
theorem flat_tcellL_length (l : List T) : (flat (tcellL l)).length = l.length * 4 := by
  rw [flat_length (tcellL_sz l), tcellL_length]
theorem tc_at {l : List T} {i : Nat} (h : i < l.length) : ((flat (tcellL l)).drop (i * 4)).take 4 = tc l[i] := by
  have hx : (tcellL l)[i]? = some (tcell l[i]) := by rw [tcellL_eq, List.getElem?_map, List.getElem?_eq_getElem h]; rfl
  rw [← flat_get (tcellL_sz l) hx, tcell_eq]; rfl
theorem asplice_same {cs vs : List AV} {off : Nat} (h : (cs.drop off).take vs.length = vs) : asplice cs off vs = cs := by
  unfold asplice
  have : vs ++ cs.drop (off + vs.length) = cs.drop off := by
    have e := List.take_append_drop vs.length (cs.drop off)
    rw [h, List.drop_drop] at e
    exact e
  rw [List.append_assoc, this, List.take_append_drop]

mutual
theorem deep_tcell (P : Program) (σ : State) : ∀ (t : T) (n : Nat), 2 * SizeOf.sizeOf t < n → deep P σ n (tcell t) = some (tcell t)
  | .mk k m s l, 0, h => by omega
  | .mk k m s l, 1, h => by simp at h; omega
  | .mk k m s l, n + 2, h => by
    have hl : (tcellL l).mapM (deep P σ n) = some (tcellL l) := deep_tcellL P σ l n (by simp at h; omega)
    rw [tcell]
    simp only [deep, List.mapM_cons, List.mapM_nil, Option.pure_def, Option.bind_eq_bind, Option.bind_some, hl, Option.map_some, nnCap]
theorem deep_tcellL (P : Program) (σ : State) : ∀ (l : List T) (n : Nat), 2 * SizeOf.sizeOf l < n → (tcellL l).mapM (deep P σ n) = some (tcellL l)
  | [], n, h => by simp [tcellL]
  | t :: l, n, h => by
    rw [tcellL, List.mapM_cons, deep_tcell P σ t n (by simp at h; omega), deep_tcellL P σ l n (by simp at h; omega)]
    rfl
end

/-- The last cell of a struct: nil, or not. -/
theorem ACalls.last_nil {E : Env} {f sz : Nat} {a b c : AV} {xs : List AV} {σ : State} {Q : AV → State → Prop} (h1 : xs = [] → ACalls E f [.agg [a, b, c, .nilslice]] σ Q) (h2 : ACalls E f [.agg [a, b, c, .slice sz xs .nn]] σ Q) :
    ACalls E f [.agg [a, b, c, .slice sz xs .any]] σ Q := by
  refine ⟨fun g w vs hG hS hv => ?_⟩
  obtain ⟨v, vs', hvs, hv1, hv2⟩ := hv.cons_inv
  obtain ⟨us, rfl, hu⟩ := hv1.agg_inv
  obtain ⟨u1, us1, e1, k1, hu⟩ := hu.cons_inv
  obtain ⟨u2, us2, e2, k2, hu⟩ := hu.cons_inv
  obtain ⟨u3, us3, e3, k3, hu⟩ := hu.cons_inv
  obtain ⟨u4, us4, e4, k4, hu⟩ := hu.cons_inv
  have put : ∀ x, RV g x u4 → RVL g [.agg [a, b, c, x]] vs.toList := by
    intro x hx
    rw [hvs]
    refine .cons (.agg' ?_) hv2
    rw [e1, e2, e3, e4]
    exact .cons k1 (.cons k2 (.cons k3 (.cons hx hu)))
  rcases k4.nil_or with ⟨e, h⟩ | h
  · exact (h1 e).run g w vs hG hS (put _ h)
  · exact h2.run g w vs hG hS (put _ h)

theorem tc_eq (t : T) : tc t = [.int .i64 t.k, .int .i64 t.n, .str t.s, .slice 4 (tcellL t.l) .any] := rfl
theorem tcellL_nil {l : List T} (h : tcellL l = []) : l = [] := by
  cases l with
  | nil => rfl
  | cons x l => simp [tcellL] at h

section
variable {B : Nat} {w0 : World} {G : Nat → AV}
theorem loop68 {N : Nat} {t : T} (hH : HOk1 (EV B w0 G) (H68 (EV B w0 G) N)) (hN : ∀ z ∈ t.l, z.small ∧ SizeOf.sizeOf z < N) (h64 : t.l.length ≤ 64) (Q : Post) (a : AAct) (σ : State) (h : L68 t (.loop (lbody Tryz.prog 68 0)) Q a σ) :
    AWp (EV B w0 G) none (fnTmps Tryz.prog 68) (.loop (lbody Tryz.prog 68 0)) Q a σ := by
  refine awp_loopE (li68 t) (x0 := 0) (fun i hI => body_wp (EV_mixed B w0 G) hH (by kernel_rfl) (by kernel_rfl) ((vc68l B w0 G N t i).mpr ?_)) (fun z hI e a σ hne k => ?_) (Nat.zero_le _) h.1
  · rw [tcellL_length]
    refine bcase_of (fun hb => ?_) (fun hb => ⟨rfl, rfl, rfl, rfl, rfl, rfl, trivial⟩)
    have hb : i < t.l.length := by simpa using hb
    have hm := hN _ (List.getElem_mem hb)
    have hfl := flat_tcellL_length t.l
    have e0 : (0 + Int.toNat (i : Int)) * 4 = i * 4 := by simp
    rw [e0, hfl]
    refine ⟨⟨by omega, by omega⟩, by omega, t.l[i], by rw [tc_at hb]; rfl, t.l[i], rfl, hm, ⟨by omega, by omega⟩, rfl, rfl, rfl, by omega, i + 1, ⟨hb, show t.l.length - (i + 1) < t.l.length - i by omega⟩, rfl, rfl, rfl, rfl, by
          have : IntKind.wrap .i64 ((i : Int) + 1) = ((i + 1 : Nat) : Int) := by rw [wr_small (by omega) (by omega)]; omega
          rw [this], rfl, rfl, rfl, ?_, trivial⟩
    have := asplice_same (cs := flat (tcellL t.l)) (vs := tc t.l[i]) (off := i * 4) (tc_at hb)
    rw [tc_eq] at this
    rw [this]
  · cases e with
    | exit id =>
      cases id with
      | zero => exact exit_at (F := [(1, .l 1 0), (2, .l 2 0)]) (FL := [(1, own68 t), (2, none68)]) (L := [row68 t]) (m := 1) k h.2
      | succ id => exact k.elim
    | normal => exact absurd rfl hne
    | _ => exact k.elim

variable (hG : ∀ i, NoId (G i))
include hG
theorem c68_ok : ∀ N, ContractOk (EV B w0 G) 68 (C68 N)
  | 0 => by
    rintro args σ Q ⟨x, rfl, hN, hQ⟩
    omega
  | N + 1 => by
    rintro args σ Q ⟨t, rfl, ⟨hs, hN⟩, hQ⟩
    have hH : HOk1 (EV B w0 G) (H68 (EV B w0 G) N) := hnd_ok (EV_mixed B w0 G) (contracts_cons (c68_ok N) contracts_nil)
    have key : ACalls (EV B w0 G) 68 [.agg (tc t)] noObj (fun v σ' => ∃ v', deep Tryz.prog σ' (2 * SizeOf.sizeOf t + 2) v = some v' ∧ Wk v' (.agg (tc t))) := by
      rw [tc_eq]
      have hd3 : ∀ x n, (x = AV.int .i64 t.k ∨ x = AV.int .i64 t.n ∨ x = AV.str t.s) → ∀ σ', deep Tryz.prog σ' (n + 1) x = some x := by
        rintro x n (rfl | rfl | rfl) σ' <;> rfl
      refine ACalls.last_nil (fun he => ?_) ?_
      · refine bodyC_ok (EV_mixed B w0 G) hH (fun l _ hc Q a σ k => loopC_ok hH (EV_mixed B w0 G) 68 5 l hc Q a σ k) ((vc68nil B w0 G N t _).mpr ⟨_, rfl, ?_⟩)
        rw [he]
        exact Wk.agg (.cons (.refl _) (.cons (.refl _) (.cons (.refl _) (.cons (Wk.nil 4) .nil))))
      · cases he : tcellL t.l with
        | nil =>
          refine bodyC_ok (EV_mixed B w0 G) hH (fun l _ hc Q a σ k => loopC_ok hH (EV_mixed B w0 G) 68 5 l hc Q a σ k) ((vc68emp B w0 G N t _).mpr ⟨_, rfl, ?_⟩)
          exact Wk.agg (.cons (.refl _) (.cons (.refl _) (.cons (.refl _) (.cons (Wk.slice 4 [] .full) .nil))))
        | cons y ys =>
          rw [← he]
          refine bodyC_ok (EV_mixed B w0 G) hH (fun l hl _ Q a σ k => ?_) ((vc68 B w0 G N t _).mpr (bcase_of (fun h => by rw [he] at h; cases h) (fun _ => ⟨?_, ⟨rfl, rfl, rfl, rfl, rfl, rfl, rfl, rfl, rfl, trivial⟩, ?_⟩)))
          · change l ∈ fnLoops Tryz.prog 68 at hl
            rw [fnLoops_68] at hl
            simp only [List.mem_cons, List.not_mem_nil, or_false] at hl
            subst hl
            exact loop68 hH (fun z hz => ⟨T.small_mem hs hz, by have := T.sizeOf_mem hz; omega⟩) (T.small_len hs) Q a σ k
          · rw [tcellL_length]
            have := T.small_len hs
            exact ⟨by omega, by omega⟩
          · refine ⟨.agg [.int .i64 t.k, .int .i64 t.n, .str t.s, .slice 4 (tcellL t.l) .nn], ?_, Wk.agg (.cons (.refl _) (.cons (.refl _) (.cons (.refl _) (.cons (Wk.slice 4 _ .nn) .nil))))⟩
            have hsz := T.sizeOf_l t
            have hm : (tcellL t.l).mapM (deep Tryz.prog (lst [row68 t] 1) (2 * SizeOf.sizeOf t)) = some (tcellL t.l) := deep_tcellL _ _ _ _ (by omega)
            have hrow : (lst [row68 t] 1).objs 0 = .cells (flat (tcellL t.l)) 37 4 true := rfl
            have hk : kindT Tryz.prog 37 = some (some 4) := by kernel_rfl
            have hch : chunk (some 4) (((flat (tcellL t.l)).drop (0 * 4)).take ((tcellL t.l).length * 4)) (tcellL t.l).length = tcellL t.l := by
              rw [Nat.zero_mul, List.drop_zero, List.take_of_length_le (by rw [flat_tcellL_length, tcellL_length]; omega)]
              have : ∀ l : List T, chunk (some 4) (flat (tcellL l)) (tcellL l).length = tcellL l := by
                intro l
                induction l with
                | nil => rfl
                | cons x l ih =>
                  rw [tcellL, flat_cons, List.length_cons, tcell_eq]
                  show AV.agg (((tc x) ++ flat (tcellL l)).take 4) :: chunk (some 4) (((tc x) ++ flat (tcellL l)).drop 4) _ = _
                  rw [List.take_left' (by rfl), List.drop_left' (by rfl), ih]
              exact this t.l
            have hle : Nat.ble ((0 + (tcellL t.l).length) * 4) (flat (tcellL t.l)).length = true := by
              rw [Nat.ble_eq, flat_tcellL_length, tcellL_length]; omega
            have hds : deep Tryz.prog (lst [row68 t] 1) (2 * SizeOf.sizeOf t + 1) (.rslice 0 0 (tcellL t.l).length) = some (.slice 4 (tcellL t.l) .nn) := by
              simp only [deep, hrow, hk, Option.getD_some, hle, hch, hm, Option.map_some]
              rfl
            have : deep Tryz.prog (lst [row68 t] 1) (2 * SizeOf.sizeOf t + 2) (.agg [.int .i64 t.k, .int .i64 t.n, .str t.s, .rslice 0 0 (tcellL t.l).length]) =
                (([.int .i64 t.k, .int .i64 t.n, .str t.s, .rslice 0 0 (tcellL t.l).length] : List AV).mapM (deep Tryz.prog (lst [row68 t] 1) (2 * SizeOf.sizeOf t + 1))).map .agg := rfl
            rw [this]
            simp only [List.mapM_cons, List.mapM_nil, hds, hd3 _ _ (.inl rfl), hd3 _ _ (.inr (.inl rfl)), hd3 _ _ (.inr (.inr rfl)), Option.bind_eq_bind, Option.bind_some, Option.pure_def, Option.map_some]
    refine ACalls.pureD (2 * SizeOf.sizeOf t + 2) hG (fun v hv => ?_) key fun v σ' ⟨v', h1, h2⟩ => ⟨v', _, h1, h2, agg_tc_noId t, hQ⟩
    simp only [List.mem_cons, List.not_mem_nil, or_false] at hv
    subst hv
    exact agg_tc_noId t
end
end Go.V
