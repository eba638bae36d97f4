/- Buffers: Put. -/
import Derived.Test.YtgnjidopnplbbaaGreatDoorB2
set_option maxRecDepth 1000000
set_option linter.unusedVariables false
set_option linter.unusedSimpArgs false
set_option linter.unusedSectionVars false
namespace Go.V
open Go Go.Proofs

theorem formB_len {t : T} (h : formB t = true) : t.l.length ≤ 64 := by
  unfold formB at h
  split at h
  · simp only [Bool.and_eq_true, decide_eq_true_eq] at h; omega
  · split at h
    · simp only [Bool.and_eq_true, decide_eq_true_eq] at h; omega
    · split at h
      · simp only [Bool.and_eq_true, decide_eq_true_eq] at h; omega
      · split at h
        · simp only [Bool.and_eq_true, decide_eq_true_eq] at h; omega
        · split at h
          · simp only [Bool.and_eq_true, decide_eq_true_eq] at h; omega
          · split at h
            · simp only [Bool.and_eq_true, decide_eq_true_eq] at h; omega
            · cases h

theorem wr_id {n : Int} (h1 : -1000000 ≤ n) (h2 : n ≤ 1000000) : wr n = n := wr_small (by omega) (by omega)

mutual
theorem count_small : ∀ (t : T) (left deep : Int), 0 ≤ left → left ≤ 4000 → (1 ≤ count t left deep ∧ count t left deep ≤ left + 1) ∧ (count t left deep ≤ left → t.small)
  | .mk k n s l, left, deep, h0, h1 => by
    rw [count]
    split
    · rename_i hb
      have hl : 1 ≤ left := by
        unfold nodeB at hb
        simp at hb; omega
      have hf : formB (.mk k n s l) = true := by
        unfold nodeB at hb
        simp at hb; exact hb.2.2
      have h2 := countL_small l 1 left deep (by omega) hl h1
      exact ⟨h2.1, fun h => by rw [T.small]; exact ⟨formB_len hf, h2.2 h⟩⟩
    · rw [wr_id (by omega) (by omega)]
      exact ⟨⟨by omega, by omega⟩, fun h => by omega⟩
theorem countL_small : ∀ (l : List T) (n left deep : Int), 1 ≤ n → n ≤ left → left ≤ 4000 → (1 ≤ countL l n left deep ∧ countL l n left deep ≤ left + 1) ∧ (countL l n left deep ≤ left → smallL l)
  | [], n, left, deep, h0, h1, h2 => by
    rw [countL]
    exact ⟨⟨by omega, by omega⟩, fun _ => by rw [smallL]; trivial⟩
  | x :: l, n, left, deep, h0, h1, h2 => by
    rw [countL, wr_id (n := left - n) (by omega) (by omega)]
    have hx := count_small x (left - n) (wr (deep - 1)) (by omega) (by omega)
    generalize count x (left - n) (wr (deep - 1)) = c at hx
    rw [wr_id (n := n + c) (by omega) (by omega)]
    split
    · rw [wr_id (by omega) (by omega)]
      exact ⟨⟨by omega, by omega⟩, fun h => by omega⟩
    · rename_i hc
      have hl := countL_small l (n + c) left deep (by omega) (by omega) h2
      exact ⟨hl.1, fun h => by rw [smallL]; exact ⟨hx.2 (by omega), hl.2 h⟩⟩
end

theorem chk_small {t : T} (h : chkT t = 0) : t.small := by
  unfold chkT at h
  split at h
  · cases h
  · exact (count_small t 4000 600 (by omega) (by omega)).2 (by omega)

theorem row_push (pre : List AV) (l : List T) (t : T) {n : Nat} (hn : (pre ++ flat (tcellL l)).length = n) : asplice ((pre ++ flat (tcellL l)) ++ none68) n (tc t) = pre ++ flat (tcellL (l ++ [t])) := by
  unfold asplice
  rw [List.take_left' hn, List.drop_of_length_le (by rw [List.length_append, hn]; simp [none68, tc]), List.append_nil, List.append_assoc]
  congr 1
  have : tcellL (l ++ [t]) = tcellL l ++ [tcell t] := by simp [tcellL_eq]
  rw [this, flat_append, tcell_eq]
  simp [flat, AV.cells]

/-- The queue, when its first item is taken; its row lies anywhere. -/
theorem popped_at' {σ : State} {s : BS} {p : List T} {pre : List AV} {fr r : Nat} (hr0 : r ≠ 0) (h0 : r < σ.next) (ho : σ.objs 0 = bufO s (.rslice r 0 (fr + (p.length + 1))) (fr + 1)) (hr : σ.objs r = .cells ((pre ++ none68) ++ flat (tcellL p)) 37 4 true)
    (hs : s.pend = p) (hp : pre.length = fr * 4) (hl : fr + (p.length + 1) ≤ s.came) (hn : ∀ x ∈ pre, NoId x) (h1 : pre.all AV.one = true) : BufAt σ 0 (some r) s := by
  subst hs
  refine ⟨by omega, _, _, ho, ?_⟩
  have e : fr + (s.pend.length + 1) = (fr + 1) + s.pend.length := by omega
  rw [e]
  refine .row r (pre ++ none68) (fr + 1) hr0 h0 hr (by simp [none68]; omega) (by omega) (fun x hx => ?_) (by rw [List.all_append, h1]; rfl)
  rcases List.mem_append.1 hx with hx | hx
  · exact hn x hx
  · exact none68_noId x hx
theorem same_at' {σ : State} {s : BS} {pre : List AV} {fr r n : Nat} (hr0 : r ≠ 0) (h0 : r < σ.next) (ho : σ.objs 0 = bufO s (.rslice r 0 n) fr) (hr : σ.objs r = rowO pre s.pend)
    (hp : pre.length = fr * 4) (hl : fr + s.pend.length ≤ s.came) (hln : n = fr + s.pend.length) (hn : ∀ x ∈ pre, NoId x) (h1 : pre.all AV.one = true) : BufAt σ 0 (some r) s := by
  subst hln
  exact ⟨by omega, _, _, ho, .row r pre fr hr0 h0 hr hp hl hn h1⟩

section
variable {B : Nat} {w0 : World} {G : Nat → AV} (hG : ∀ i, NoId (G i))
include hG
theorem put_b {s : BS} {t : T} (hs : s.wf) {pre : List AV} {fr : Nat} (hpl : pre.length = fr * 4) (hlen : fr + s.pend.length ≤ s.came) (hn : ∀ x ∈ pre, NoId x) (h1 : pre.all AV.one = true) :
    ACalls (EV B w0 G) 24 [.ptr 0 0, .agg (tc t)] (aloneR s pre fr) (fun v σ' => ∃ s' r', (v, s') = s.put t ∧ NoId v ∧ BufAt σ' 0 r' s') := by
  have hc := hs.came
  have ha := hs.asked
  have hdd := hs.deal
  have hpd := hs.pend
  have w1 := wr_nat (n := s.came) (by omega)
  have w2 := wr_back (n := s.came) (by omega)
  have w3 := wr_nat (n := s.deal) (by omega)
  have w4 := wr_back (n := s.deal) (by omega)
  have w5 := wr_nat (n := fr) (by omega)
  have w6 := wr_two (n := fr) (by omega)
  refine bodyC_ok (EV_mixed B w0 G) (hnd_ok (EV_mixed B w0 G) (contracts_cons (c66_ok hG) (contracts_cons (c68_ok hG (SizeOf.sizeOf t + 1)) contracts_nil))) (fun l hl _ Q a σ k => k.elim) ((vc24b B w0 G (SizeOf.sizeOf t + 1) t s pre fr _).mpr ⟨t, rfl, ?_⟩)
  refine bcase_of (fun h => ?_) (fun h => bcase_of (fun h2 => ?_) (fun h2 => ?_))
  · have h : chkT t ≠ 0 := by simpa using h
    exact ⟨s, some 1, by rw [BS.put, if_pos h]; rfl, retV_noId .nilslice, same_at (show 1 < 2 by decide) rfl rfl hpl hlen hn h1⟩
  · have h : ¬ chkT t ≠ 0 := by simpa using h
    have h2 : 20000 ≤ s.came := by have := of_decide_eq_true h2; omega
    exact ⟨s, some 1, by rw [BS.put, if_neg h, if_pos h2]; rfl, retV_noId .nilslice, same_at (show 1 < 2 by decide) rfl rfl hpl hlen hn h1⟩
  · have h : ¬ chkT t ≠ 0 := by simpa using h
    have h2 : ¬ 20000 ≤ s.came := by have := of_decide_eq_false h2; omega
    have hsm := chk_small (t := t) (by simpa using h)
    refine ⟨t, rfl, ⟨hsm, Nat.lt_succ_self _⟩, ?_⟩
    have hput : s.put t = (retV s.came (BS.dealt { s with came := s.came + 1, pend := s.pend ++ [t] }).1 0, (BS.dealt { s with came := s.came + 1, pend := s.pend ++ [t] }).2) := by
      rw [BS.put, if_neg h, if_neg h2]
    have hrl : (pre ++ flat (tcellL s.pend)).length = (fr + s.pend.length) * 4 := by rw [List.length_append, hpl, flat_tcellL_length]; omega
    have e1 : List.take ((fr + s.pend.length) * 4) (pre ++ flat (tcellL s.pend)) = pre ++ flat (tcellL s.pend) := List.take_of_length_le (by omega)
    have e2 : asplice (pre ++ flat (tcellL s.pend) ++ [AV.int IntKind.i64 0, AV.int IntKind.i64 0, AV.str ⟨⟨[]⟩⟩, AV.nilslice]) ((fr + s.pend.length) * 4) [AV.int IntKind.i64 t.k, AV.int IntKind.i64 t.n, AV.str t.s, AV.slice 4 (tcellL t.l) Cap.any] = pre ++ flat (tcellL (s.pend ++ [t])) :=
      row_push pre s.pend t hrl
    obtain ⟨x, p, hxp⟩ : ∃ x p, s.pend ++ [t] = x :: p := by
      cases hq : s.pend with
      | nil => exact ⟨t, [], rfl⟩
      | cons x p => exact ⟨x, p ++ [t], rfl⟩
    have hpl2 : s.pend.length = p.length := by have := congrArg List.length hxp; simp at this; omega
    rw [hput, w1, w2, w3, w4, w5, w6]
    simp only [Int.toNat_natCast, Nat.zero_add]
    rw [e1, e2, hxp, hrl]
    have hsp' : asplice (pre ++ flat (tcellL (x :: p))) (fr * 4) [(AV.int IntKind.i64 0), (AV.int IntKind.i64 0), (AV.str ⟨⟨[]⟩⟩), AV.nilslice] = (pre ++ none68) ++ flat (tcellL p) := row_splice pre x p hpl
    rw [hsp', row_first pre x p hpl, hpl2]
    have hsub : fr + p.length + 1 - (fr + 1) = p.length := by omega
    rw [hsub, row_rest pre p (by omega) rfl, chunk_tcellL]
    have hrl1 : (pre ++ flat (tcellL (x :: p))).length = fr * 4 + (p.length + 1) * 4 := by rw [List.length_append, hpl, flat_tcellL_length]; rfl
    have hrl2 : (pre ++ none68 ++ flat (tcellL p)).length = (fr + 1) * 4 + p.length * 4 := by rw [List.length_append, List.length_append, hpl, flat_tcellL_length]; simp [none68]; omega
    rw [hrl1, hrl2, tcellL_length]
    have hdn : NoId (.slice 6 [dealV s.deal x] .full) := .slice (by simp) fun y hy => by
      simp only [flat, List.flatMap_cons, List.flatMap_nil, List.append_nil] at hy
      exact (dealV_noId _ _).2 y hy
    have hrl3 : (pre ++ flat (tcellL s.pend) ++ [AV.int IntKind.i64 0, AV.int IntKind.i64 0, AV.str ⟨⟨[]⟩⟩, AV.nilslice]).length = (fr + p.length) * 4 + 4 := by
      rw [List.length_append, hrl, hpl2]; rfl
    rw [hrl3]
    repeat refine ⟨trivial, ?_⟩
    refine ⟨⟨trivial, ⟨by omega, by omega⟩, by omega⟩, ⟨by omega, by omega⟩, ⟨by omega, ?_⟩, ?_⟩
    · repeat refine ⟨trivial, ?_⟩
      refine bcase_of (fun h' => absurd h' (by simp; omega)) (fun _ => bcase_of (fun h3 => ?_) (fun h3 => ?_))
      · have h3 : s.deal = s.asked := by
          have : (s.deal : Int) = s.asked := by simpa using h3
          omega
        have hd : BS.dealt { s with came := s.came + 1, pend := x :: p } = (.nilslice, { s with came := s.came + 1, pend := x :: p }) := by
          simp only [BS.dealt]; rw [if_neg (show ¬ s.deal < s.asked by omega)]
        rw [hd]
        repeat refine ⟨trivial, ?_⟩
        exact ⟨_, some 2, rfl, retV_noId .nilslice, same_at' (show 2 ≠ 0 by decide) (show 2 < 3 by decide) rfl rfl hpl (show fr + (p.length + 1) ≤ s.came + 1 by omega) (show fr + p.length + 1 = fr + (p.length + 1) by omega) hn h1⟩
      · have h3 : s.deal ≠ s.asked := by
          intro e; simp [e] at h3
        have hd : BS.dealt { s with came := s.came + 1, pend := x :: p } = (.slice 6 [dealV s.deal x] .full, { s with came := s.came + 1, deal := s.deal + 1, pend := p }) := by
          simp only [BS.dealt]; rw [if_pos (show s.deal < s.asked by omega)]
        rw [hd]
        refine ⟨⟨by omega, by omega⟩, by omega, x, rfl, ?_⟩
        repeat refine ⟨trivial, ?_⟩
        refine ⟨⟨⟨by omega, by omega⟩, trivial⟩, ⟨by omega, x, rfl, rfl⟩, ⟨by omega, by omega⟩, by omega, ?_⟩
        refine bcase_of (fun _ => bcase_of (fun _ => ⟨⟨by omega, by omega⟩, ⟨by omega, by omega⟩, ⟨by omega, by omega⟩, by omega, bcase_of (fun he => ?_) (fun he => ⟨⟨by omega, by omega⟩, ?_⟩)⟩) (fun _ => ?_)) (fun _ => ?_)
        · have hpn : p = [] := tcellL_nil (by simpa using he)
          repeat refine ⟨trivial, ?_⟩
          exact ⟨_, none, rfl, retV_noId hdn, nil_at (show 0 < 3 by decide) rfl hpn⟩
        · repeat refine ⟨trivial, ?_⟩
          exact ⟨_, some 3, rfl, retV_noId hdn, fresh_at (show 3 < 4 by decide) (by decide) rfl rfl (show p.length ≤ s.came + 1 by omega)⟩
        · repeat refine ⟨trivial, ?_⟩
          exact ⟨_, some 2, rfl, retV_noId hdn, popped_at' (show 2 ≠ 0 by decide) (show 2 < 3 by decide) rfl rfl rfl hpl (show fr + (p.length + 1) ≤ s.came + 1 by omega) hn h1⟩
        · repeat refine ⟨trivial, ?_⟩
          exact ⟨_, some 2, rfl, retV_noId hdn, popped_at' (show 2 ≠ 0 by decide) (show 2 < 3 by decide) rfl rfl rfl hpl (show fr + (p.length + 1) ≤ s.came + 1 by omega) hn h1⟩
    · repeat refine ⟨trivial, ?_⟩
      refine ⟨⟨⟨by omega, by omega⟩, trivial⟩, by omega, ?_⟩
      repeat refine ⟨trivial, ?_⟩
      refine bcase_of (fun h' => absurd h' (by simp; omega)) (fun _ => bcase_of (fun h3 => ?_) (fun h3 => ?_))
      · have h3 : s.deal = s.asked := by
          have : (s.deal : Int) = s.asked := by simpa using h3
          omega
        have hd : BS.dealt { s with came := s.came + 1, pend := x :: p } = (.nilslice, { s with came := s.came + 1, pend := x :: p }) := by
          simp only [BS.dealt]; rw [if_neg (show ¬ s.deal < s.asked by omega)]
        rw [hd]
        repeat refine ⟨trivial, ?_⟩
        exact ⟨_, some 2, rfl, retV_noId .nilslice, same_at' (show 2 ≠ 0 by decide) (show 2 < 3 by decide) rfl rfl hpl (show fr + (p.length + 1) ≤ s.came + 1 by omega) (show fr + p.length + 1 = fr + (p.length + 1) by omega) hn h1⟩
      · have h3 : s.deal ≠ s.asked := by
          intro e; simp [e] at h3
        have hd : BS.dealt { s with came := s.came + 1, pend := x :: p } = (.slice 6 [dealV s.deal x] .full, { s with came := s.came + 1, deal := s.deal + 1, pend := p }) := by
          simp only [BS.dealt]; rw [if_pos (show s.deal < s.asked by omega)]
        rw [hd]
        refine ⟨⟨by omega, by omega⟩, by omega, x, rfl, ?_⟩
        repeat refine ⟨trivial, ?_⟩
        refine ⟨⟨⟨by omega, by omega⟩, trivial⟩, ⟨by omega, x, rfl, rfl⟩, ⟨by omega, by omega⟩, by omega, ?_⟩
        refine bcase_of (fun _ => bcase_of (fun _ => ⟨⟨by omega, by omega⟩, ⟨by omega, by omega⟩, ⟨by omega, by omega⟩, by omega, bcase_of (fun he => ?_) (fun he => ⟨⟨by omega, by omega⟩, ?_⟩)⟩) (fun _ => ?_)) (fun _ => ?_)
        · have hpn : p = [] := tcellL_nil (by simpa using he)
          repeat refine ⟨trivial, ?_⟩
          exact ⟨_, none, rfl, retV_noId hdn, nil_at (show 0 < 3 by decide) rfl hpn⟩
        · repeat refine ⟨trivial, ?_⟩
          exact ⟨_, some 3, rfl, retV_noId hdn, fresh_at (show 3 < 4 by decide) (by decide) rfl rfl (show p.length ≤ s.came + 1 by omega)⟩
        · repeat refine ⟨trivial, ?_⟩
          exact ⟨_, some 2, rfl, retV_noId hdn, popped_at' (show 2 ≠ 0 by decide) (show 2 < 3 by decide) rfl rfl rfl hpl (show fr + (p.length + 1) ≤ s.came + 1 by omega) hn h1⟩
        · repeat refine ⟨trivial, ?_⟩
          exact ⟨_, some 2, rfl, retV_noId hdn, popped_at' (show 2 ≠ 0 by decide) (show 2 < 3 by decide) rfl rfl rfl hpl (show fr + (p.length + 1) ≤ s.came + 1 by omega) hn h1⟩

theorem put_a {s : BS} {t : T} (hs : s.wf) (hp : s.pend = []) : ACalls (EV B w0 G) 24 [.ptr 0 0, .agg (tc t)] (aloneN s) (fun v σ' => ∃ s' r', (v, s') = s.put t ∧ NoId v ∧ BufAt σ' 0 r' s') := by
  have hc := hs.came
  have ha := hs.asked
  have hdd := hs.deal
  have hpd := hs.pend
  have hdc : s.deal = s.came := by rw [hp] at hpd; simpa using hpd
  have w1 := wr_nat (n := s.came) (by omega)
  have w2 := wr_back (n := s.came) (by omega)
  have w3 := wr_nat (n := s.deal) (by omega)
  have w4 := wr_back (n := s.deal) (by omega)
  refine bodyC_ok (EV_mixed B w0 G) (hnd_ok (EV_mixed B w0 G) (contracts_cons (c66_ok hG) (contracts_cons (c68_ok hG (SizeOf.sizeOf t + 1)) contracts_nil))) (fun l hl _ Q a σ k => k.elim) ((vc24a B w0 G (SizeOf.sizeOf t + 1) t s _).mpr ⟨t, rfl, ?_⟩)
  refine bcase_of (fun h => ?_) (fun h => bcase_of (fun h2 => ?_) (fun h2 => ?_))
  · have h : chkT t ≠ 0 := by simpa using h
    exact ⟨s, none, by rw [BS.put, if_pos h]; rfl, retV_noId .nilslice, nil_at (show 0 < 1 by decide) rfl hp⟩
  · have h : ¬ chkT t ≠ 0 := by simpa using h
    have h2 : 20000 ≤ s.came := by have := of_decide_eq_true h2; omega
    exact ⟨s, none, by rw [BS.put, if_neg h, if_pos h2]; rfl, retV_noId .nilslice, nil_at (show 0 < 1 by decide) rfl hp⟩
  · have h : ¬ chkT t ≠ 0 := by simpa using h
    have h2 : ¬ 20000 ≤ s.came := by have := of_decide_eq_false h2; omega
    have hsm := chk_small (t := t) (by simpa using h)
    refine ⟨t, rfl, ⟨hsm, Nat.lt_succ_self _⟩, ?_⟩
    have hput : s.put t = (retV s.came (BS.dealt { s with came := s.came + 1, pend := [t] }).1 0, (BS.dealt { s with came := s.came + 1, pend := [t] }).2) := by
      rw [BS.put, if_neg h, if_neg h2, hp]; rfl
    rw [hput, w1, w2, w3, w4]
    simp only [Int.toNat_natCast, Nat.zero_add]
    have hdn : NoId (.slice 6 [dealV s.deal t] .full) := .slice (by simp) fun y hy => by
      simp only [flat, List.flatMap_cons, List.flatMap_nil, List.append_nil] at hy
      exact (dealV_noId _ _).2 y hy
    repeat refine ⟨trivial, ?_⟩
    refine ⟨⟨by omega, by omega⟩, ⟨by omega, by omega⟩, ⟨by omega, ?_⟩, ?_⟩
    · repeat refine ⟨trivial, ?_⟩
      refine bcase_of (fun h' => absurd h' (by simp; omega)) (fun _ => bcase_of (fun h3 => ?_) (fun h3 => ?_))
      · have h3 : s.deal = s.asked := by
          have : (s.deal : Int) = s.asked := by simpa using h3
          omega
        have hd : BS.dealt { s with came := s.came + 1, pend := [t] } = (.nilslice, { s with came := s.came + 1, pend := [t] }) := by
          simp only [BS.dealt]; rw [if_neg (show ¬ s.deal < s.asked by omega)]
        rw [hd]
        repeat refine ⟨trivial, ?_⟩
        exact ⟨_, some 1, rfl, retV_noId .nilslice, same_at' (pre := []) (fr := 0) (n := 1) (show 1 ≠ 0 by decide) (show 1 < 2 by decide) rfl (by rw [rowO, tcellL, tcellL, tcell_eq]; rfl) rfl (show 0 + 1 ≤ s.came + 1 by omega) rfl (by simp) rfl⟩
      · have h3 : s.deal ≠ s.asked := by
          intro e; simp [e] at h3
        have hd : BS.dealt { s with came := s.came + 1, pend := [t] } = (.slice 6 [dealV s.deal t] .full, { s with came := s.came + 1, deal := s.deal + 1, pend := [] }) := by
          simp only [BS.dealt]; rw [if_pos (show s.deal < s.asked by omega)]
        rw [hd]
        refine ⟨⟨by omega, by omega⟩, by omega, t, rfl, ?_⟩
        repeat refine ⟨trivial, ?_⟩
        refine ⟨⟨⟨by omega, by omega⟩, trivial⟩, ⟨by omega, t, rfl, rfl⟩, ⟨by omega, by omega⟩, by omega, ?_⟩
        repeat refine ⟨trivial, ?_⟩
        exact ⟨_, some 1, rfl, retV_noId hdn, popped_at' (pre := []) (fr := 0) (p := []) (show 1 ≠ 0 by decide) (show 1 < 2 by decide) rfl rfl rfl rfl (show 0 + (0 + 1) ≤ s.came + 1 by omega) (by simp) rfl⟩
    · repeat refine ⟨trivial, ?_⟩
      refine ⟨⟨⟨by omega, by omega⟩, trivial⟩, by omega, ?_⟩
      repeat refine ⟨trivial, ?_⟩
      refine bcase_of (fun h' => absurd h' (by simp; omega)) (fun _ => bcase_of (fun h3 => ?_) (fun h3 => ?_))
      · have h3 : s.deal = s.asked := by
          have : (s.deal : Int) = s.asked := by simpa using h3
          omega
        have hd : BS.dealt { s with came := s.came + 1, pend := [t] } = (.nilslice, { s with came := s.came + 1, pend := [t] }) := by
          simp only [BS.dealt]; rw [if_neg (show ¬ s.deal < s.asked by omega)]
        rw [hd]
        repeat refine ⟨trivial, ?_⟩
        exact ⟨_, some 1, rfl, retV_noId .nilslice, same_at' (pre := []) (fr := 0) (n := 1) (show 1 ≠ 0 by decide) (show 1 < 2 by decide) rfl (by rw [rowO, tcellL, tcellL, tcell_eq]; rfl) rfl (show 0 + 1 ≤ s.came + 1 by omega) rfl (by simp) rfl⟩
      · have h3 : s.deal ≠ s.asked := by
          intro e; simp [e] at h3
        have hd : BS.dealt { s with came := s.came + 1, pend := [t] } = (.slice 6 [dealV s.deal t] .full, { s with came := s.came + 1, deal := s.deal + 1, pend := [] }) := by
          simp only [BS.dealt]; rw [if_pos (show s.deal < s.asked by omega)]
        rw [hd]
        refine ⟨⟨by omega, by omega⟩, by omega, t, rfl, ?_⟩
        repeat refine ⟨trivial, ?_⟩
        refine ⟨⟨⟨by omega, by omega⟩, trivial⟩, ⟨by omega, t, rfl, rfl⟩, ⟨by omega, by omega⟩, by omega, ?_⟩
        repeat refine ⟨trivial, ?_⟩
        exact ⟨_, some 1, rfl, retV_noId hdn, popped_at' (pre := []) (fr := 0) (p := []) (show 1 ≠ 0 by decide) (show 1 < 2 by decide) rfl rfl rfl rfl (show 0 + (0 + 1) ≤ s.came + 1 by omega) (by simp) rfl⟩
end
end Go.V
