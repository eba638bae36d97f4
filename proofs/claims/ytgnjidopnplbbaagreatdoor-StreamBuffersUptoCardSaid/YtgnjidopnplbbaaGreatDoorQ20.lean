import Derived.Test.YtgnjidopnplbbaaGreatDoorQ19
import Derived.Test.YtgnjidopnplbbaaGreatDoorQ18
/- The reference's buffers: contracts. -/
set_option maxRecDepth 1000000
set_option linter.unusedVariables false
set_option linter.unusedSimpArgs false
set_option linter.unusedSectionVars false
namespace Go.V
open Go Go.Proofs

/-- Arguments of which less is told. -/
theorem ACalls.args_wk {E : Env} {f : Nat} {xs ys : List AV} {σ : State} {Q : AV → State → Prop} (h : ACalls E f ys σ Q) (hw : WkL xs ys) : ACalls E f xs σ Q :=
  ⟨fun g w vs hRG hS hv => h.run g w vs hRG hS (by
    have key : ∀ {xs ys : List AV} {us : List Value}, WkL xs ys → RVL g xs us → RVL g ys us := by
      intro xs ys us hw
      induction hw generalizing us with
      | nil => exact fun h => h
      | cons h hs ih =>
        intro k
        obtain ⟨u, us', rfl, h1, h2⟩ := k.cons_inv
        exact .cons (h _ _ h1) (ih h2)
    exact key hw hv)⟩

theorem rbc_noId (n : Int) (l : List T) (a : Int) : NoId (.agg (rbc n l a)) := .agg (by
  intro x hx
  simp only [rbc, List.mem_cons, List.not_mem_nil, or_false] at hx
  rcases hx with rfl | rfl | rfl
  · exact .int _ _
  · exact .slice (by simp) (tcellL_noId l).2
  · exact .int _ _)
theorem dealsV_noId (l : List (Nat × T)) : NoId (dealsV l) := by
  cases l with
  | nil => exact .nilslice
  | cons x l =>
    refine .slice (by simp) fun y hy => ?_
    have : ∀ (l : List (Nat × T)), ∀ y ∈ flat (l.map fun x => dealV x.1 x.2), NoId y := by
      intro l
      induction l with
      | nil => intro y hy; simp [flat] at hy
      | cons x l ih =>
        intro y hy
        simp only [List.map_cons, flat_cons] at hy
        rcases List.mem_append.1 hy with hy | hy
        · exact (dealV_noId _ _).2 y hy
        · exact ih y hy
    exact this (x :: l) y hy

section
variable {B : Nat} {w0 : World} {G : Nat → AV}
variable (hG : ∀ i, NoId (G i))
include hG

theorem c27_ok : ContractOk (EV B w0 G) 27 C27 := by
  rintro args σ Q ⟨n, rfl, hQ1, hQ2⟩
  have wk : ∀ m : Int, Wk (.agg [.int .i64 m, .nilslice, .int .i64 0]) (.agg (rbc m [] 0)) := fun m => Wk.agg (.cons (.refl _) (.cons (Wk.nil 4) (.cons (.refl _) .nil)))
  refine .pure (Q0 := fun v _ => if 0 ≤ n ∧ n ≤ 1000 then v = .tuple [.agg [.int .i64 n, .nilslice, .int .i64 0], .int .i64 0] else v = .tuple [.agg [.int .i64 0, .nilslice, .int .i64 0], .int .i64 1]) hG (by simp; exact .int _ _) ?_ fun v σ' h => ?_
  · refine bodyC_ok (EV_mixed B w0 G) H0_ok (fun l hl _ Q a σ k => k.elim) ((vc27 B w0 G n _).mpr (bcase_of (fun h => ?_) (fun h => bcase_of (fun h2 => ?_) (fun h2 => ?_))))
    · have h := of_decide_eq_true h
      rw [if_neg (by omega)]
    · have h2 := of_decide_eq_true h2
      rw [if_neg (by omega)]
    · have h := of_decide_eq_false h
      have h2 := of_decide_eq_false h2
      rw [if_pos (by omega)]
  · by_cases hn : 0 ≤ n ∧ n ≤ 1000
    · rw [if_pos hn] at h
      subst h
      exact ⟨_, Wk.tuple (.cons (wk n) (.cons (.refl _) .nil)), .tuple (by
        intro x hx
        simp only [List.mem_cons, List.not_mem_nil, or_false] at hx
        rcases hx with rfl | rfl
        · exact rbc_noId _ _ _
        · exact .int _ _), hQ1 hn⟩
    · rw [if_neg hn] at h
      subst h
      exact ⟨_, Wk.tuple (.cons (wk 0) (.cons (.refl _) .nil)), .tuple (by
        intro x hx
        simp only [List.mem_cons, List.not_mem_nil, or_false] at hx
        rcases hx with rfl | rfl
        · exact rbc_noId _ _ _
        · exact .int _ _), hQ2 hn⟩

theorem c71_ok : ContractOk (EV B w0 G) 71 C71 := by
  rintro args σ Q ⟨n, l, m, a, k, rfl, hk, hQ⟩
  refine .args_wk (ys := [.agg (rbc n l a), .int .i64 k]) ?_ (.cons (Wk.agg (.cons (.refl _) (.cons (Wk.slice 4 _ m) (.cons (.refl _) .nil)))) (.cons (.refl _) .nil))
  refine pure_of hG (fun v hv => ?_) (dealsV_noId [(k, l[k])]) (fun Q hQ => ?_) (hQ l[k] (List.getElem?_eq_getElem hk))
  · simp only [List.mem_cons, List.not_mem_nil, or_false] at hv
    rcases hv with rfl | rfl
    · exact rbc_noId _ _ _
    · exact .int _ _
  refine bodyC_ok (EV_mixed B w0 G) H0_ok (fun l hl _ Q a σ k => k.elim) ((vc71 B w0 G n l a k Q).mpr ⟨⟨by omega, by rw [tcellL_length]; omega⟩, l[k], by rw [Int.toNat_natCast]; exact tcellL_get hk, hQ _⟩)

theorem c28_ok : ContractOk (EV B w0 G) 28 C28 := by
  rintro args σ Q ⟨n, l, a, rfl, ⟨ha, hl⟩, hQ⟩
  have hH : HOk1 (EV B w0 G) (H28 (EV B w0 G)) := hnd_ok (EV_mixed B w0 G) (contracts_cons (c71_ok hG) contracts_nil)
  have hw : IntKind.wrap .i64 ((a : Int) + 1) = ((a + 1 : Nat) : Int) := wr_nat (by omega)
  refine pure_of hG (fun v hv => ?_) (.tuple (by
      intro x hx
      simp only [List.mem_cons, List.not_mem_nil, or_false] at hx
      rcases hx with rfl | rfl | rfl | rfl
      · exact rbc_noId _ _ _
      · exact .int _ _
      · exact dealsV_noId _
      · exact .int _ _)) (fun Q hQ => ?_) hQ
  · simp only [List.mem_cons, List.not_mem_nil, or_false] at hv
    subst hv
    exact rbc_noId _ _ _
  refine bodyC_ok (EV_mixed B w0 G) hH (fun l hl _ Q a σ k => k.elim) ((vc28 B w0 G n l a Q).mpr ?_)
  rw [tcellL_length, hw]
  refine bcase_of (fun h => ?_) (fun _ => bcase_of (fun h => ?_) (fun h => ?_))
  · have h := of_decide_eq_true h; omega
  · have h : a < l.length := by simpa using h
    refine ⟨n, l, .any, ((a + 1 : Nat) : Int), a, rfl, h, fun x hx => ⟨rfl, rfl, rfl, ?_⟩⟩
    have e : askR l a = [(a, x)] := by unfold askR; rw [hx]
    have := hQ (State.untok noObj)
    rw [e] at this
    exact this
  · have h : ¬ a < l.length := by simpa using h
    have e : askR l a = [] := by unfold askR; rw [List.getElem?_eq_none (by omega)]
    have := hQ noObj
    rw [e] at this
    exact this

theorem c31_ok : ContractOk (EV B w0 G) 31 C31 := by
  rintro args σ Q ⟨n, l, a, rfl, ⟨h1, h2, h3, h4⟩, hQ⟩
  have w1 : IntKind.wrap .i64 ((l.length : Int) - (a : Int)) = (l.length : Int) - a := wr_small (by omega) (by omega)
  have w2 : IntKind.wrap .i64 ((a : Int) - (l.length : Int)) = (a : Int) - l.length := wr_small (by omega) (by omega)
  have e1 : (if Bool.true = Bool.true then if (l.length : Int) - (a : Int) > 0 then (l.length : Int) - (a : Int) else 0 else if (l.length : Int) - (a : Int) < 0 then (l.length : Int) - (a : Int) else 0) = max 0 ((l.length : Int) - a) := by
    rw [if_pos rfl]; split <;> omega
  have e2 : (if Bool.true = Bool.true then if (a : Int) - (l.length : Int) > 0 then (a : Int) - (l.length : Int) else 0 else if (a : Int) - (l.length : Int) < 0 then (a : Int) - (l.length : Int) else 0) = max 0 ((a : Int) - l.length) := by
    rw [if_pos rfl]; split <;> omega
  have e3 : (if Bool.false = Bool.true then if n > max 0 ((l.length : Int) - a) then n else max 0 ((l.length : Int) - a) else if n < max 0 ((l.length : Int) - a) then n else max 0 ((l.length : Int) - a)) = min (max 0 ((l.length : Int) - a)) n := by
    rw [if_neg (by simp)]; split <;> omega
  have w3 : IntKind.wrap .i64 (max 0 ((l.length : Int) - a) - min (max 0 ((l.length : Int) - a)) n) = max 0 ((l.length : Int) - a) - min (max 0 ((l.length : Int) - a)) n := wr_small (by omega) (by omega)
  refine pure_of hG (fun v hv => ?_) (.tuple (by
      intro x hx
      simp only [List.mem_cons, List.not_mem_nil, or_false] at hx
      rcases hx with rfl | rfl | rfl <;> exact .int _ _)) (fun Q hQ => ?_) (hQ _ _ _ ⟨rfl, rfl, rfl⟩)
  · simp only [List.mem_cons, List.not_mem_nil, or_false] at hv
    subst hv
    exact rbc_noId _ _ _
  refine bodyC_ok (EV_mixed B w0 G) H0_ok (fun l hl _ Q a σ k => k.elim) ((vc31 B w0 G n l a Q).mpr ?_)
  rw [tcellL_length, w1, w2, e1, e2, e3, w3]
  exact hQ _

omit hG in
theorem rep_len (k : Nat) : (List.replicate k none4).flatten.length = k * 4 := by
  induction k with
  | zero => rfl
  | succ k ih => rw [List.replicate_succ, List.flatten_cons, List.length_append, ih]; show 4 + k * 4 = _; omega
omit hG in
theorem rowI_step {l : List T} {i : Nat} (h : i < l.length) : asplice (flat (tcellL (l.take i)) ++ (List.replicate (l.length - i) none4).flatten) ((0 + Int.toNat (i : Int)) * 4) (tc l[i]) = flat (tcellL (l.take (i + 1))) ++ (List.replicate (l.length - (i + 1)) none4).flatten := by
  have hlen : (flat (tcellL (l.take i))).length = i * 4 := by rw [flat_tcl, List.length_take, Nat.min_eq_left (by omega)]
  unfold asplice
  rw [Int.toNat_natCast, Nat.zero_add, List.take_left' hlen]
  have e1 : l.length - i = (l.length - (i + 1)) + 1 := by omega
  rw [e1, List.replicate_succ, List.flatten_cons]
  have e2 : List.drop (i * 4 + (tc l[i]).length) (flat (tcellL (l.take i)) ++ (none4 ++ (List.replicate (l.length - (i + 1)) none4).flatten)) = (List.replicate (l.length - (i + 1)) none4).flatten := by
    rw [← List.append_assoc, List.drop_left' (by rw [List.length_append, hlen]; rfl)]
  rw [e2, List.take_add_one, List.getElem?_eq_getElem h]
  have : tcellL (l.take i ++ [l[i]]) = tcellL (l.take i) ++ [tcell l[i]] := by rw [tcellL_eq, tcellL_eq, List.map_append]; rfl
  simp only [Option.toList_some]
  rw [this, flat_append, tcell_eq]
  simp [flat, AV.cells]

omit hG in
theorem loop29 {n : Int} {l : List T} {a : Int} {t : T} (hl : l.length ≤ 20000) (hH : HOk1 (EV B w0 G) (H29 (EV B w0 G))) (Q : Post) (b : AAct) (σ : State) (h : L29 n l a t (.loop (lbody Tryz.prog 29 0)) Q b σ) :
    AWp (EV B w0 G) none (fnTmps Tryz.prog 29) (.loop (lbody Tryz.prog 29 0)) Q b σ := by
  obtain ⟨h1, h2⟩ := h
  refine awp_loopE (li29 n l a t) (x0 := 0) (fun i hI => body_wp (EV_mixed B w0 G) hH (by kernel_rfl) (by kernel_rfl) ((vc29l B w0 G n l a t i).mpr ?_)) (fun z hI e b σ hne k => ?_) (Nat.zero_le _) h1
  · have hI : i ≤ l.length := hI
    rw [tcellL_length]
    refine bcase_of (fun hb => ?_) (fun hb => ?_)
    · have hb : i < l.length := by simpa using hb
      refine ⟨⟨by omega, by omega⟩, l[i], by rw [Int.toNat_natCast]; exact tcellL_get hb, ⟨by omega, by omega⟩, ?_, i + 1, ⟨hb, show l.length - (i + 1) < l.length - i by omega⟩, rfl, rfl, rfl, rfl, rfl, ?_, rfl, rfl, rfl, rfl, ?_, trivial⟩
      · rw [List.length_append, rep_len, flat_tcl, List.length_take, Nat.min_eq_left (by omega), Int.toNat_natCast]; omega
      · have : IntKind.wrap .i64 ((i : Int) + 1) = ((i + 1 : Nat) : Int) := wr_nat (by omega)
        rw [this]
      · have := rowI_step hb
        show AObj.cells (asplice _ _ (tc l[i])) 37 4 false = _
        rw [this]
    · have hb : ¬ i < l.length := by simpa using hb
      have e : i = l.length := by omega
      subst e
      refine ⟨rfl, rfl, rfl, rfl, rfl, rfl, rfl, rfl, rfl, ?_, trivial⟩
      rw [List.take_length, Nat.sub_self]
      simp
  · cases e with
    | exit id =>
      cases id with
      | zero => exact exit_at (F := [(2, .l 2 0), (3, .l 3 0), (4, .l 4 0), (8, .v (.int .i64 l.length)), (9, .v (.rslice 0 0 l.length))]) (FL := [(2, rbc n l a), (3, tc t), (4, [.int .i64 0, .nilslice, .int .i64 0])]) (L := [.cells (flat (tcellL l)) 37 4 false]) (m := 1) k h2
      | succ id => exact k.elim
    | normal => exact absurd rfl hne
    | _ => exact k.elim

theorem c29_ok : ContractOk (EV B w0 G) 29 C29 := by
  rintro args σ Q ⟨n, l, a, t, rfl, ⟨hb, hl⟩, hQ⟩
  have hH : HOk1 (EV B w0 G) (H29 (EV B w0 G)) := hnd_ok (EV_mixed B w0 G) (contracts_cons (c32_ok hG) (contracts_cons (c71_ok hG) contracts_nil))
  refine .pure (Q0 := fun v _ => ∃ m : Cap, v = .tuple [.agg [.int .i64 n, .slice 4 (tcellL (comeL l t)) m, .int .i64 a], .int .i64 (if chkT t ≠ 0 then 0 else (l.length : Int)), dealsV (comeD l a t), .int .i64 (if chkT t ≠ 0 then 3 else 0)]) hG ?_ ?_ fun v σ' h => ?_
  · intro v hv
    simp only [List.mem_cons, List.not_mem_nil, or_false] at hv
    rcases hv with rfl | rfl
    · exact rbc_noId _ _ _
    · exact agg_tc_noId t
  · refine bodyC_ok (EV_mixed B w0 G) hH (fun lp hl' _ Q a σ k => ?_) ((vc29 B w0 G n l a t _).mpr ?_)
    · change lp ∈ fnLoops Tryz.prog 29 at hl'
      rw [fnLoops_29] at hl'
      simp only [List.mem_cons, List.not_mem_nil, or_false] at hl'
      subst hl'
      exact loop29 (by omega) hH Q a σ k
    · rw [tcellL_length]
      refine ⟨t, rfl, hb, bcase_of (fun hc => ?_) (fun hc => bcase_of (fun h2 => ?_) (fun h2 => ?_))⟩
      · have hc : chkT t ≠ 0 := by simpa using hc
        have e1 : comeL l t = l := if_pos hc
        have e2 : comeD l a t = [] := if_pos hc
        rw [e1, e2, if_pos hc, if_pos hc]
        exact ⟨.any, rfl⟩
      · have := of_decide_eq_true h2; omega
      · have hc : ¬ chkT t ≠ 0 := by simpa using hc
        have e1 : comeL l t = l ++ [t] := if_neg hc
        have e2 : comeD l a t = if l.length < a then [(l.length, t)] else [] := if_neg hc
        have hpush : List.take (l.length * 4) (flat (tcellL l)) ++ [AV.int IntKind.i64 t.k, AV.int IntKind.i64 t.n, AV.str t.s, AV.slice 4 (tcellL t.l) Cap.any] = flat (tcellL (l ++ [t])) := flat_push l t
        have hch : chunk (some 4) (flat (tcellL (l ++ [t]))) (l.length + 1) = tcellL (l ++ [t]) := by
          have := chunk_tcellL (l ++ [t])
          simpa using this
        refine ⟨⟨by omega, by omega, by omega, by omega⟩, ⟨rfl, rfl, rfl, rfl, rfl, rfl, rfl, rfl, rfl, rfl, ?_, trivial⟩, ⟨rfl, ⟨by omega, by omega⟩, by rw [flat_tcl]; omega⟩, ?_⟩
        · rw [Int.toNat_natCast]; rfl
        · rw [hpush, hch, e1, e2, if_neg hc, if_neg hc, flat_tcl]
          refine ⟨by simp, l ++ [t], rfl, bcase_of (fun h => ?_) (fun h => ?_)⟩
          · have h : l.length < a := by simpa using h
            rw [if_pos h]
            refine ⟨n, l ++ [t], .tok 1, a, l.length, rfl, by simp, fun x hx => ⟨rfl, rfl, rfl, ?_⟩⟩
            have : x = t := by simpa using hx.symm
            subst this
            exact ⟨.tok 1, rfl⟩
          · have h : ¬ l.length < a := by simpa using h
            rw [if_neg h]
            exact ⟨.tok 1, rfl⟩
  · obtain ⟨m, rfl⟩ := h
    refine ⟨_, Wk.tuple (.cons (Wk.agg (.cons (.refl _) (.cons (Wk.slice 4 _ m) (.cons (.refl _) .nil)))) (.cons (.refl _) (.cons (.refl _) (.cons (.refl _) .nil)))), .tuple (by
        intro x hx
        simp only [List.mem_cons, List.not_mem_nil, or_false] at hx
        rcases hx with rfl | rfl | rfl | rfl
        · exact rbc_noId _ _ _
        · exact .int _ _
        · exact dealsV_noId _
        · exact .int _ _), hQ⟩
end
end Go.V
/- The law StreamBuffers: its loop. -/
set_option maxRecDepth 1000000
set_option linter.unusedVariables false
set_option linter.unusedSimpArgs false
set_option linter.unusedSectionVars false
namespace Go.V
open Go Go.Proofs

theorem askR_eq {s : BS} {l : List T} (hw : s.wf) (hf : s.deal = min s.asked s.came) (ha : s.asked < 20000) (hl : l.length = s.came) (hp : s.pend = l.drop s.deal) : s.askL = askR l s.asked := by
  have hpl := hw.pend
  unfold BS.askL BS.dealL askR
  rw [if_neg (by omega)]
  dsimp only
  cases hc : s.pend with
  | nil =>
    rw [hc] at hp hpl
    simp only [List.length_nil] at hpl
    rw [List.getElem?_eq_none (by omega)]
  | cons x p =>
    rw [hc] at hp hpl
    simp only [List.length_cons] at hpl
    have hd : s.deal = s.asked := by omega
    have hdl : s.asked < l.length := by omega
    rw [hd, List.drop_eq_getElem_cons hdl] at hp
    have h1 := (List.cons.inj hp).1
    rw [List.getElem?_eq_getElem hdl]
    dsimp only
    rw [if_pos (by omega), ← h1, hd]

theorem buf_put {s : BS} {l : List T} (t : T) (hw : s.wf) (hf : s.deal = min s.asked s.came) (hc0 : s.came < 20000) (hl : l.length = s.came) (hp : s.pend = l.drop s.deal) :
    ((s.putN t : Int) = (if chkT t ≠ 0 then 0 else (l.length : Int)) ∧ s.putE t = (if chkT t ≠ 0 then 3 else 0) ∧ s.putL t = comeD l s.asked t) ∧ ((s.put t).2.asked = s.asked ∧ (s.put t).2.came ≤ s.came + 1 ∧ (s.put t).2.room = s.room) ∧
      (s.put t).2.deal = min (s.put t).2.asked (s.put t).2.came ∧ (comeL l t).length = (s.put t).2.came ∧ (s.put t).2.pend = (comeL l t).drop (s.put t).2.deal := by
  by_cases ht : chkT t ≠ 0
  · have e : (s.put t).2 = s := by unfold BS.put; rw [if_pos ht]
    rw [e]
    unfold BS.putN BS.putE BS.putL comeD comeL
    simp only [if_pos ht]
    exact ⟨⟨rfl, trivial, trivial⟩, ⟨trivial, by omega, trivial⟩, hf, hl, hp⟩
  · have ht0 : chkT t = 0 := by simpa using ht
    obtain ⟨⟨g1, g2⟩, ⟨f1, f2, f3⟩, f4, f5, _⟩ := fifo_put (t := t) hw hf hc0 ht0 hl hp
    have e : comeL l t = l ++ [t] := if_neg ht
    refine ⟨⟨by rw [g2, if_neg ht, hl], by rw [g1, if_neg ht], ?_⟩, ⟨f1, by omega, f3⟩, f4, by rw [e, f2]; simp [hl], by rw [e]; exact f5⟩
    have hpl := hw.pend
    unfold BS.putL BS.dealL comeD
    rw [if_neg ht, if_neg (by omega), if_neg ht]
    dsimp only
    by_cases hd : s.deal < s.asked
    · have hlen : s.pend.length = 0 := by omega
      have hnil : s.pend = [] := List.length_eq_zero_iff.1 hlen
      rw [hnil, if_pos (by omega)]
      have : s.deal = l.length := by omega
      simp only [List.nil_append, this]
      rw [if_pos (by omega)]
    · rw [if_neg (by omega)]
      cases hq : s.pend ++ [t] with
      | nil => rfl
      | cons x p => simp only; rw [if_neg hd]

section
variable {B : Nat} {w0 : World}
theorem H6_ok : HOk1 (EV B w0 G1) (H6 (EV B w0 G1)) := hnd_ok (EV_mixed B w0 G1) (contracts_cons c16_ok (contracts_cons (c22_ok G1_noId) (contracts_cons (c24_ok G1_noId) (contracts_cons c23_ok (contracts_cons (c30_ok G1_noId) (contracts_cons (c27_ok G1_noId) (contracts_cons (c28_ok G1_noId) (contracts_cons (c29_ok G1_noId) (contracts_cons (c31_ok G1_noId) contracts_nil)))))))))

theorem tail6 {n : Int} {l : List Came} (Q : Post) (a : AAct) (σ : State) (h : T6 n l (subPart [21] (fnPart Tryz.prog [21] 6 0) 0) Q a σ) :
    AWp (EV B w0 G1) none (fnTmps Tryz.prog 6) (subPart [21] (fnPart Tryz.prog [21] 6 0) 0) Q a σ := by
  obtain ⟨x, hx, h1, h2⟩ := h
  refine awp_cut (cs6 n l x) (wpX_ok H6_ok (EV_mixed B w0 G1) (L := fun _ _ _ _ => False) _ _ _ _ (fun l hl _ Q a σ k => k.elim) (by kernel_rfl) ((vc6t B w0 G1 n l x).mpr ?_)) h1 h2
  have e1 := hx.wf.came
  have e2 := hx.wf.asked
  have e3 := hx.wf.deal
  have e4 := hx.wf.pend
  have e5 := hx.full
  have e6 := hx.came
  have e7 := hx.room
  have e8 := hx.rn
  have e9 := hx.i
  have e10 := hx.asked
  have e11 := hx.came2
  have hlie : x.s.lie = if x.s.room < (x.s.came : Int) - (x.s.deal : Int) then x.s.room else (x.s.came : Int) - (x.s.deal : Int) := rfl
  refine ⟨0, x.r, x.s, rfl, ⟨hx.a, hx.wf, by omega, by omega⟩, fun r' σ' ⟨a1, k1⟩ => ⟨n, x.l, x.s.asked, rfl, ⟨by omega, by omega, by omega, by omega⟩, fun u v w ⟨hu, hv, hw⟩ => ?_⟩⟩
  have q1 : max 0 ((x.l.length : Int) - (x.s.asked : Int)) = (x.s.came : Int) - x.s.deal := by omega
  rw [q1] at hu hv
  have q2 : x.s.lie = u := by rw [hlie, hu]; split <;> omega
  have q3 : (x.s.came : Int) - (x.s.deal : Int) - x.s.lie = v := by rw [q2, hv, hu]
  have q4 : (x.s.asked : Int) - (x.s.deal : Int) = w := by omega
  rw [q3, q2, q4]
  refine bcase_of (fun h => by simp at h) (fun _ => bcase_of (fun h => by simp at h) (fun _ => bcase_of (fun h => by simp at h) (fun _ => ?_)))
  exact ⟨⟨r', σ'.untok⟩, untok_at a1, rfl, rfl, rfl, rfl, rfl, rfl, .refl _⟩

theorem loop6 {n : Int} {l : List Came} (hb : ∀ c ∈ l, c.t.bulk ≤ 1099511627776) (Q : Post) (a : AAct) (σ : State) (h : L6 n l (.loop (lbody Tryz.prog 6 0)) Q a σ) :
    AWp (EV B w0 G1) none (fnTmps Tryz.prog 6) (.loop (bodyOf (fnPart Tryz.prog [21] 6 0))) Q a σ := by
  rcases h with ⟨hn, x0, h0, h1, h2⟩ | ⟨_, h1, h2⟩
  · refine awp_loopS (ls6 n l) (x0 := x0) (fun x hI => ?_) (fun z hI e a σ hne k => ?_) h0 h1
    · have hI : x.Inv n := hI
      refine wpX_ok H6_ok (EV_mixed B w0 G1) _ _ _ _ (fun p hp hc Q a σ k => ?_) (by kernel_rfl) ((vc6l B w0 G1 n l x).mpr ?_)
      · rw [subParts_6] at hp
        simp only [List.mem_cons, List.not_mem_nil, or_false] at hp
        subst hp
        exact tail6 _ _ _ k
      have hlen : (cameL l).length = l.length := List.length_map _
      have i1 := hI.asked
      have i2 := hI.came2
      have i3 := hI.came
      rw [hlen]
      refine bcase_of (fun hb1 => bcase_of (fun hb2 => ?_) (fun _ => trivial)) (fun _ => trivial)
      have hb1 : x.i < l.length := by simpa using hb1
      have hb2 : x.i < 150 := by have := of_decide_eq_true hb2; omega
      have hg : (AV.vptr (AV.cells (List.getD (cameL l) (Int.toNat (x.i : Int)) AV.undef))) = AV.vptr (cc l[x.i]) := by rw [Int.toNat_natCast]; exact cameL_get hb1
      have hwr : IntKind.wrap .i64 ((x.i : Int) + 1) = ((x.i + 1 : Nat) : Int) := wr_nat (by omega)
      have hmem : l[x.i] ∈ l := List.getElem_mem hb1
      -- the end of a round
      have fin : ∀ (z : X6), z.Mid n → z.i = x.i → ∀ y : Y7, BufAt y.σ 0 y.r z.s → X6.Inv ⟨x.i + 1, y.σ, y.r, z.s, z.l⟩ n := fun z hz e y hy =>
        { i := hb2, wf := hz.wf, room := hz.room, a := hy, came := hz.came, pend := hz.pend, asked := by have := hz.asked; rw [e] at this; exact this, came2 := by have := hz.came2; rw [e] at this; exact this, full := hz.full }
      refine ⟨⟨by omega, by omega⟩, l[x.i], hg, bcase_of (fun _ => ?_) (fun _ => ?_)⟩
      · obtain ⟨⟨g1, g2⟩, ⟨f1, f2, f3⟩, f4, f5, _⟩ := fifo_ask hI.wf hI.full (by omega) hI.came hI.pend
        refine ⟨0, x.r, x.s, rfl, ⟨hI.a, hI.wf⟩, fun r' σ' ⟨a1, k1⟩ => ⟨n, x.l, x.s.asked, rfl, ⟨by omega, by omega⟩, bcase_of (fun h => ?_) (fun _ => ⟨x.s.askL, by rw [askR_eq hI.wf hI.full (by omega) hI.came hI.pend], ⟨askL_len _, askL_small hI.wf⟩, bcase_of (fun h => ?_) (fun _ => ?_)⟩)⟩⟩
        · rw [g2] at h; simp at h
        · rw [g1] at h; simp at h
        · have hz : X6.Mid ⟨x.i, σ'.untok.untok, r', x.s.ask.2, x.l⟩ n :=
            { i := hb2, wf := ask_wf hI.wf, room := f3.trans hI.room, rn := hn, a := untok_at (untok_at a1), came := hI.came.trans f2.symm, pend := f5, asked := by show x.s.ask.2.asked ≤ x.i + 1; omega, came2 := by show x.s.ask.2.came ≤ x.i + 1; omega, full := f4 }
          refine ⟨_, hz, ⟨rfl, rfl, rfl, rfl, rfl, by rw [f1], .refl _⟩, fun y hy => ⟨_, ⟨fin _ hz rfl y hy, show 150 - (x.i + 1) < 150 - x.i by omega⟩, rfl, rfl, rfl, rfl, by rw [hwr], rfl, .refl _⟩⟩
      · obtain ⟨⟨g1, g2, g3⟩, ⟨f1, f2, f3⟩, f4, f5, f6⟩ := buf_put l[x.i].t hI.wf hI.full (by omega) hI.came hI.pend
        refine ⟨⟨by omega, by omega⟩, l[x.i], hg, 0, x.r, x.s, l[x.i].t, rfl, ⟨hI.a, hI.wf⟩, fun r' σ' ⟨a1, k1⟩ => ⟨⟨by omega, by omega⟩, l[x.i], hg, ?_⟩⟩
        have hz : X6.Mid ⟨x.i, σ'.untok.untok, r', (x.s.put l[x.i].t).2, comeL x.l l[x.i].t⟩ n :=
          { i := hb2, wf := put_wf hI.wf _, room := f3.trans hI.room, rn := hn, a := untok_at (untok_at a1), came := f5, pend := f6, asked := by show (x.s.put l[x.i].t).2.asked ≤ x.i + 1; omega, came2 := by show (x.s.put l[x.i].t).2.came ≤ x.i + 1; omega, full := f4 }
        refine ⟨⟨n, x.l, x.s.asked, l[x.i].t, rfl, ⟨hb _ hmem, by omega⟩, rfl, rfl, rfl, rfl, rfl, rfl, rfl, rfl, bcase_of (fun h => ?_) (fun _ => ⟨x.s.putL l[x.i].t, by rw [g3], ⟨putL_len _ _, putL_small hI.wf _⟩, bcase_of (fun h => ?_) (fun _ => ?_)⟩)⟩, rfl, rfl, rfl, ⟨⟨by omega, by omega⟩, l[x.i], hg, rfl⟩, rfl, rfl, n, x.l, x.s.asked, l[x.i].t, rfl, ⟨hb _ hmem, by omega⟩, rfl, rfl, rfl, bcase_of (fun h => ?_) (fun _ => ⟨x.s.putL l[x.i].t, by rw [g3], ⟨putL_len _ _, putL_small hI.wf _⟩, bcase_of (fun h => ?_) (fun _ => ?_)⟩)⟩
        · rw [g1] at h; simp at h
        · rw [g2] at h; simp at h
        · exact ⟨_, hz, ⟨rfl, rfl, rfl, rfl, rfl, by rw [f1], .refl _⟩, fun y hy => ⟨_, ⟨fin _ hz rfl y hy, show 150 - (x.i + 1) < 150 - x.i by omega⟩, rfl, rfl, rfl, rfl, by rw [hwr], rfl, .refl _⟩⟩
        · rw [g1] at h; simp at h
        · rw [g2] at h; simp at h
        · exact ⟨_, hz, ⟨rfl, rfl, rfl, rfl, rfl, by rw [f1], .refl _⟩, fun y hy => ⟨_, ⟨fin _ hz rfl y hy, show 150 - (x.i + 1) < 150 - x.i by omega⟩, rfl, rfl, rfl, rfl, by rw [hwr], rfl, .refl _⟩⟩
    · cases e with
      | exit id =>
        cases id with
        | zero => exact ⟨frm [] [], σ, ⟨fun t => .inl rfl⟩, .refl _, h2 σ⟩
        | succ id => exact k.elim
      | normal => exact absurd rfl hne
      | _ => exact k.elim
  · refine awp_loopS (ls6e l) (x0 := ()) (fun x hI => ?_) (fun z hI e a σ hne k => ?_) trivial h1
    · refine wpX_ok H6_ok (EV_mixed B w0 G1) _ _ _ _ (fun p hp hc Q a σ k => k.elim) (by kernel_rfl) ((vc6e B w0 G1 l).mpr (bcase_of (fun _ => trivial) (fun _ => trivial)))
    · cases e with
      | exit id =>
        cases id with
        | zero => exact ⟨frm [] [], σ, ⟨fun t => .inl rfl⟩, .refl _, h2 σ⟩
        | succ id => exact k.elim
      | normal => exact absurd rfl hne
      | _ => exact k.elim

/-- StreamBuffers returns true. -/
theorem buffers_ok (n : Int) (l : List Came) (hb : ∀ c ∈ l, c.t.bulk ≤ 1099511627776) : ACalls (EV B w0 G1) 6 [.int .i64 n, .slice 5 (cameL l) .any] noObj (fun v _ => v = .bool true) := by
  refine bodyC_ok (EV_mixed B w0 G1) H6_ok (fun lp hl _ Q a σ k => ?_) ((vc6 B w0 G1 n l _).mpr ⟨rfl, bcase_of (fun h1 => ?_) (fun h1 => bcase_of (fun h2 => ?_) (fun h2 => ?_))⟩)
  · have e : fnLoops Tryz.prog 6 = [.loop (bodyOf (fnPart Tryz.prog [21] 6 0))] := by kernel_rfl
    change lp ∈ fnLoops Tryz.prog 6 at hl
    rw [e] at hl
    simp only [List.mem_cons, List.not_mem_nil, or_false] at hl
    subst hl
    exact loop6 hb Q a σ k
  · have h1 := of_decide_eq_true h1
    exact ⟨n, rfl, fun h => by omega, fun _ => .inr ⟨.inl h1, ⟨rfl, rfl, rfl, .refl _⟩, fun _ => rfl⟩⟩
  · have h2 := of_decide_eq_true h2
    exact ⟨n, rfl, fun h => by omega, fun _ => .inr ⟨.inr h2, ⟨rfl, rfl, rfl, .refl _⟩, fun _ => rfl⟩⟩
  · have h1 := of_decide_eq_false h1
    have h2 := of_decide_eq_false h2
    have wf0 : BS.wf ⟨n, 0, 0, 0, []⟩ := ⟨by show 0 ≤ 20000; omega, by show 0 ≤ 20000; omega, Nat.le_refl _, rfl, by simp⟩
    refine ⟨n, rfl, fun _ => .inl ⟨⟨by omega, by omega⟩, ⟨0, _, none, ⟨n, 0, 0, 0, []⟩, []⟩, ⟨Nat.zero_le _, wf0, rfl, ⟨show 0 < 1 by decide, _, 0, rfl, .nil rfl⟩, rfl, rfl, Nat.le_refl _, Nat.le_refl _, rfl⟩, ⟨rfl, rfl, rfl, rfl, rfl, rfl, .refl _⟩, fun _ => rfl⟩, fun h => absurd ⟨by omega, by omega⟩ h⟩
end
end Go.V
