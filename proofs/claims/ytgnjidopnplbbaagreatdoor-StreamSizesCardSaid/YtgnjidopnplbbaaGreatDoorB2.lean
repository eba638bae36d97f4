/- Buffers: Ask and Put. -/
import Derived.Test.YtgnjidopnplbbaaGreatDoorK5
set_option maxRecDepth 1000000
set_option linter.unusedVariables false
set_option linter.unusedSimpArgs false
set_option linter.unusedSectionVars false
namespace Go.V
open Go Go.Proofs

/-- A delivery, as a value. -/
def dealV (k : Nat) (t : T) : AV := .agg (.int .i64 k :: .int .i64 k :: tc t)
def BS.dealt (s : BS) : AV × BS :=
  match s.pend with
  | x :: p => if s.deal < s.asked then (.slice 6 [dealV s.deal x] .full, { s with deal := s.deal + 1, pend := p }) else (.nilslice, s)
  | [] => (.nilslice, s)
def retV (k : Nat) (d : AV) (e : Int) : AV := .tuple [.int .i64 k, d, .int .i64 e]
def BS.ask (s : BS) : AV × BS :=
  if 20000 ≤ s.asked then (retV 0 .nilslice 91, s) else (retV s.asked (BS.dealt { s with asked := s.asked + 1 }).1 0, (BS.dealt { s with asked := s.asked + 1 }).2)
def BS.put (s : BS) (t : T) : AV × BS :=
  if chkT t ≠ 0 then (retV 0 .nilslice 3, s) else if 20000 ≤ s.came then (retV 0 .nilslice 91, s) else
    (retV s.came (BS.dealt { s with came := s.came + 1, pend := s.pend ++ [t] }).1 0, (BS.dealt { s with came := s.came + 1, pend := s.pend ++ [t] }).2)

theorem dealV_noId (k : Nat) (t : T) : NoId (dealV k t) ∧ ∀ x ∈ (dealV k t).cells, NoId x := by
  have h : ∀ x ∈ (AV.int .i64 k :: AV.int .i64 k :: tc t), NoId x := by
    intro x hx
    rcases List.mem_cons.1 hx with rfl | hx
    · exact .int _ _
    · rcases List.mem_cons.1 hx with rfl | hx
      · exact .int _ _
      · exact tc_noId t x hx
  exact ⟨.agg h, h⟩
theorem deals_noId (s : BS) : NoId s.dealt.1 := by
  unfold BS.dealt
  split
  · split
    · refine .slice (by simp) fun x hx => ?_
      simp only [flat, List.flatMap_cons, List.flatMap_nil, List.append_nil] at hx
      exact (dealV_noId _ _).2 x hx
    · exact .nilslice
  · exact .nilslice
theorem retV_noId {k : Nat} {d : AV} {e : Int} (h : NoId d) : NoId (retV k d e) := .tuple fun x hx => by
  simp only [List.mem_cons, List.not_mem_nil, or_false] at hx
  rcases hx with rfl | rfl | rfl
  · exact .int _ _
  · exact h
  · exact .int _ _

theorem wr_nat {n : Nat} (h : n ≤ 1000000) : IntKind.wrap .i64 ((n : Int) + 1) = ((n + 1 : Nat) : Int) := by rw [wr_small (by omega) (by omega)]; omega
theorem wr_back {n : Nat} (h : n ≤ 1000000) : IntKind.wrap .i64 (((n + 1 : Nat) : Int) - 1) = (n : Int) := by rw [wr_small (by omega) (by omega)]; omega
theorem wr_two {n : Nat} (h : n ≤ 1000000) : IntKind.wrap .i64 (2 * ((n + 1 : Nat) : Int)) = ((2 * (n + 1) : Nat) : Int) := by rw [wr_small (by omega) (by omega)]; omega

theorem none68_noId : ∀ x ∈ none68, NoId x := fun x hx => by
  simp only [none68, List.mem_cons, List.not_mem_nil, or_false] at hx
  rcases hx with rfl | rfl | rfl | rfl
  · exact .int _ _
  · exact .int _ _
  · exact .str _
  · exact .nilslice

theorem row_splice (pre : List AV) (x : T) (p : List T) {n : Nat} (hp : pre.length = n) : asplice (pre ++ flat (tcellL (x :: p))) n none68 = (pre ++ none68) ++ flat (tcellL p) := by
  subst hp
  unfold asplice
  rw [List.take_left, tcellL, flat_cons, tcell_eq]
  congr 1
  show List.drop (pre.length + 4) (pre ++ (tc x ++ flat (tcellL p))) = _
  rw [← List.append_assoc, List.drop_left']
  simp [tc]

theorem chunk_tcellL : ∀ l : List T, chunk (some 4) (flat (tcellL l)) l.length = tcellL l
  | [] => rfl
  | x :: l => by
    rw [tcellL, flat_cons, List.length_cons, tcell_eq]
    show AV.agg (((tc x) ++ flat (tcellL l)).take 4) :: chunk (some 4) (((tc x) ++ flat (tcellL l)).drop 4) _ = _
    rw [List.take_left' (by rfl), List.drop_left' (by rfl), chunk_tcellL l]

theorem row_rest (pre : List AV) (p : List T) {n m : Nat} (hp : pre.length + 4 = n) (hm : p.length * 4 = m) : (((pre ++ none68) ++ flat (tcellL p)).drop n).take m = flat (tcellL p) := by
  rw [List.drop_left' (by simp [none68]; omega), List.take_of_length_le (by rw [flat_tcellL_length]; omega)]

theorem row_first (pre : List AV) (x : T) (p : List T) {n : Nat} (hp : pre.length = n) : ((pre ++ flat (tcellL (x :: p))).drop n).take 4 = tc x := by
  rw [List.drop_left' hp, tcellL, flat_cons, tcell_eq]
  exact List.take_left' rfl

/-- The queue, when its first item is taken. -/
theorem popped_at {σ : State} {s : BS} {p : List T} {pre : List AV} {fr : Nat} (h0 : 1 < σ.next) (ho : σ.objs 0 = bufO s (.rslice 1 0 (fr + (p.length + 1))) (fr + 1)) (hr : σ.objs 1 = .cells ((pre ++ none68) ++ flat (tcellL p)) 37 4 true)
    (hs : s.pend = p) (hp : pre.length = fr * 4) (hl : fr + (p.length + 1) ≤ s.came) (hn : ∀ x ∈ pre, NoId x) (h1 : pre.all AV.one = true) : BufAt σ 0 (some 1) s := by
  subst hs
  refine ⟨by omega, _, _, ho, ?_⟩
  have e : fr + (s.pend.length + 1) = (fr + 1) + s.pend.length := by omega
  rw [e]
  refine .row 1 (pre ++ none68) (fr + 1) (by omega) h0 hr (by simp [none68]; omega) (by omega) (fun x hx => ?_) (by rw [List.all_append, h1]; rfl)
  rcases List.mem_append.1 hx with hx | hx
  · exact hn x hx
  · exact none68_noId x hx
theorem fresh_at {σ : State} {s : BS} {r : Nat} (h0 : r < σ.next) (hr0 : r ≠ 0) (ho : σ.objs 0 = bufO s (.rslice r 0 s.pend.length) 0) (hr : σ.objs r = .cells (flat (tcellL s.pend)) 37 4 true) (hl : s.pend.length ≤ s.came) : BufAt σ 0 (some r) s := by
  refine ⟨by omega, _, _, ho, ?_⟩
  have := QAt.row (σ := σ) (b := 0) (s := s) r [] 0 hr0 h0 (by rw [hr]; rfl) rfl (by omega) (by simp) rfl
  rwa [Nat.zero_add] at this
theorem nil_at {σ : State} {s : BS} (h0 : 0 < σ.next) (ho : σ.objs 0 = bufO s .nilslice 0) (hp : s.pend = []) : BufAt σ 0 none s := ⟨h0, _, _, ho, .nil hp⟩
theorem same_at {σ : State} {s : BS} {pre : List AV} {fr : Nat} (h0 : 1 < σ.next) (ho : σ.objs 0 = bufO s (.rslice 1 0 (fr + s.pend.length)) fr) (hr : σ.objs 1 = rowO pre s.pend)
    (hp : pre.length = fr * 4) (hl : fr + s.pend.length ≤ s.came) (hn : ∀ x ∈ pre, NoId x) (h1 : pre.all AV.one = true) : BufAt σ 0 (some 1) s :=
  ⟨by omega, _, _, ho, .row 1 pre fr (by omega) h0 hr hp hl hn h1⟩

section
variable {B : Nat} {w0 : World} {G : Nat → AV}

theorem ask_a {s : BS} (hs : s.wf) (hp : s.pend = []) : ACalls (EV B w0 G) 22 [.ptr 0 0] (aloneN s) (fun v σ' => ∃ s' r', (v, s') = s.ask ∧ NoId v ∧ BufAt σ' 0 r' s') := by
  have hd : s.deal = s.came := by have := hs.pend; rw [hp] at this; simpa using this
  have ha := hs.asked
  have w1 := wr_nat (n := s.asked) (by omega)
  have w2 := wr_back (n := s.asked) (by omega)
  refine bodyC_ok (EV_mixed B w0 G) (hnd_ok (EV_mixed B w0 G) contracts_nil) (fun l hl _ Q a σ k => k.elim) ((vc22a B w0 G s _).mpr ?_)
  refine bcase_of (fun h => ?_) (fun h => ?_)
  · have h : 20000 ≤ s.asked := by have := of_decide_eq_true h; omega
    exact ⟨s, none, by rw [BS.ask, if_pos h]; rfl, retV_noId .nilslice, nil_at (show 0 < 1 by decide) rfl hp⟩
  · have h : ¬ 20000 ≤ s.asked := by have := of_decide_eq_false h; omega
    rw [w1, w2]
    refine bcase_of (fun h' => ?_) (fun h' => by simp [hd] at h')
    have he : s.ask = (retV s.asked .nilslice 0, { s with asked := s.asked + 1 }) := by rw [BS.ask, if_neg h]; simp [BS.dealt, hp]
    rw [he]
    exact ⟨rfl, rfl, rfl, rfl, rfl, _, none, rfl, retV_noId .nilslice, nil_at (show 0 < 1 by decide) rfl hp⟩

theorem ask_b {s : BS} (hs : s.wf) {pre : List AV} {fr : Nat} (hpl : pre.length = fr * 4) (hlen : fr + s.pend.length ≤ s.came) (hn : ∀ x ∈ pre, NoId x) (h1 : pre.all AV.one = true) :
    ACalls (EV B w0 G) 22 [.ptr 0 0] (aloneR s pre fr) (fun v σ' => ∃ s' r', (v, s') = s.ask ∧ NoId v ∧ BufAt σ' 0 r' s') := by
  have ha := hs.asked
  have hdd := hs.deal
  have hpd := hs.pend
  have hcm := hs.came
  have w1 := wr_nat (n := s.asked) (by omega)
  have w2 := wr_back (n := s.asked) (by omega)
  have w3 := wr_nat (n := s.deal) (by omega)
  have w4 := wr_back (n := s.deal) (by omega)
  have w5 := wr_nat (n := fr) (by omega)
  have w6 := wr_two (n := fr) (by omega)
  refine bodyC_ok (EV_mixed B w0 G) (hnd_ok (EV_mixed B w0 G) contracts_nil) (fun l hl _ Q a σ k => k.elim) ((vc22b B w0 G s pre fr _).mpr ?_)
  refine bcase_of (fun h => ?_) (fun h => ?_)
  · have h : 20000 ≤ s.asked := by have := of_decide_eq_true h; omega
    exact ⟨s, some 1, by rw [BS.ask, if_pos h]; rfl, retV_noId .nilslice, same_at (show 1 < 2 by decide) rfl rfl hpl hlen hn h1⟩
  · have h : ¬ 20000 ≤ s.asked := by have := of_decide_eq_false h; omega
    rw [w1, w2, w3, w4, w5, w6]
    simp only [Int.toNat_natCast, Nat.zero_add]
    refine bcase_of (fun h' => ?_) (fun h' => bcase_of (fun h2 => ?_) (fun h2 => ?_))
    · have hd : s.deal = s.came := by
        have : (s.deal : Int) = s.came := by simpa using h'
        omega
      have hp : s.pend = [] := List.length_eq_zero_iff.1 (by omega)
      have he : s.ask = (retV s.asked .nilslice 0, { s with asked := s.asked + 1 }) := by rw [BS.ask, if_neg h]; simp [BS.dealt, hp]
      rw [he]
      repeat refine ⟨trivial, ?_⟩
      exact ⟨_, some 1, rfl, retV_noId .nilslice, same_at (show 1 < 2 by decide) rfl rfl hpl hlen hn h1⟩
    · have hd : s.deal = s.asked + 1 := by
        have : (s.deal : Int) = ((s.asked + 1 : Nat) : Int) := by simpa using h2
        omega
      omega
    · have hd : s.deal ≠ s.came := by
        intro e; simp [e] at h'
      obtain ⟨x, p, hxp⟩ : ∃ x p, s.pend = x :: p := by
        cases hq : s.pend with
        | nil => rw [hq] at hpd; simp at hpd; exact absurd hpd hd
        | cons x p => exact ⟨x, p, rfl⟩
      have hpl2 : s.pend.length = p.length + 1 := by rw [hxp]; rfl
      have he : s.ask = (retV s.asked (.slice 6 [dealV s.deal x] .full) 0, { s with asked := s.asked + 1, deal := s.deal + 1, pend := p }) := by
        rw [BS.ask, if_neg h]; simp only [BS.dealt, hxp]; rw [if_pos (show s.deal < s.asked + 1 by omega)]
      have hdn : NoId (.slice 6 [dealV s.deal x] .full) := .slice (by simp) fun y hy => by
        simp only [flat, List.flatMap_cons, List.flatMap_nil, List.append_nil] at hy
        exact (dealV_noId _ _).2 y hy
      rw [he, hxp]
      have hsp := row_splice pre x p hpl
      have hsp' : asplice (pre ++ flat (tcellL (x :: p))) (fr * 4) [(AV.int IntKind.i64 0), (AV.int IntKind.i64 0), (AV.str ⟨⟨[]⟩⟩), AV.nilslice] = (pre ++ none68) ++ flat (tcellL p) := hsp
      rw [hsp', show List.length (x :: p) = p.length + 1 from rfl]
      have hfst := row_first pre x p hpl
      rw [hfst]
      have hsub : fr + (p.length + 1) - (fr + 1) = p.length := by omega
      rw [hsub, row_rest pre p (by omega) rfl, chunk_tcellL]
      have hrl : (pre ++ flat (tcellL (x :: p))).length = fr * 4 + (p.length + 1) * 4 := by rw [List.length_append, hpl, flat_tcellL_length]; rfl
      have hrl2 : (pre ++ none68 ++ flat (tcellL p)).length = (fr + 1) * 4 + p.length * 4 := by rw [List.length_append, List.length_append, hpl, flat_tcellL_length]; simp [none68]; omega
      rw [hrl, hrl2, tcellL_length]
      refine ⟨⟨by omega, by omega⟩, by omega, x, rfl, trivial, trivial, trivial, trivial, trivial, trivial, trivial, trivial, ⟨⟨by omega, by omega⟩, trivial⟩, ⟨by omega, x, rfl, rfl⟩, ⟨by omega, by omega⟩, by omega, ?_⟩
      refine bcase_of (fun _ => bcase_of (fun _ => ⟨⟨by omega, by omega⟩, ⟨by omega, by omega⟩, ⟨by omega, by omega⟩, by omega, bcase_of (fun he => ?_) (fun he => ⟨⟨by omega, by omega⟩, ?_⟩)⟩) (fun _ => ?_)) (fun _ => ?_)
      · have hpn : p = [] := tcellL_nil (by simpa using he)
        repeat refine ⟨trivial, ?_⟩
        exact ⟨_, none, rfl, retV_noId hdn, nil_at (show 0 < 2 by decide) rfl hpn⟩
      · repeat refine ⟨trivial, ?_⟩
        exact ⟨_, some 2, rfl, retV_noId hdn, fresh_at (show 2 < 3 by decide) (by decide) rfl rfl (show p.length ≤ s.came by omega)⟩
      · repeat refine ⟨trivial, ?_⟩
        exact ⟨_, some 1, rfl, retV_noId hdn, popped_at (show 1 < 2 by decide) rfl rfl rfl hpl (show fr + (p.length + 1) ≤ s.came by omega) hn h1⟩
      · repeat refine ⟨trivial, ?_⟩
        exact ⟨_, some 1, rfl, retV_noId hdn, popped_at (show 1 < 2 by decide) rfl rfl rfl hpl (show fr + (p.length + 1) ≤ s.came by omega) hn h1⟩
end
end Go.V
