/- The V-model, part 4: the operations are what part 3 says of them (loads, stores, new objects, arithmetic). -/
import Derived.Test.YtgnjidopnplbbaaGreatDoorV3
set_option linter.unusedSimpArgs false
set_option linter.unusedVariables false
namespace Go.V
open Go.RowKit

theorem add_at (b o j : Nat) : (⟨b, o, none⟩ : Addr).add j = ⟨b, o + j, none⟩ := by
  unfold Addr.add
  split
  · rename_i h; subst h; rfl
  · rfl

theorem av1_ok (g : Ghost) (v : Value) : RV g (av1 v) v := by
  cases v with
  | bool b => exact .bool b
  | int k n => exact .int k n
  | string s => exact .str s
  | pointer a =>
    cases a with
    | none => exact .nilptr
    | some a => exact .undef _
  | slice a l c =>
    cases a with
    | some a => exact .undef _
    | none =>
      cases l with
      | succ l => exact .undef _
      | zero => cases c with
        | zero => exact .nilslice
        | succ c => exact .undef _
  | map r =>
    cases r with
    | none => exact .nilmap
    | some r => exact .undef _
  | func fn fs cs =>
    simp only [av1]
    split
    · rename_i h
      obtain ⟨h1, h2⟩ := h
      have e1 : fs = #[] := Array.eq_empty_of_size_eq_zero h1
      have e2 : cs = #[] := Array.eq_empty_of_size_eq_zero h2
      subst e1; subst e2
      exact .func fn [] [] #[] #[] rfl rfl (fun i h => by simp at h) (fun i h => by simp at h)
    · exact .undef _
  | nilFunc => exact .nilfunc
  | nilIface => exact .niliface
  | _ => exact .undef _

theorem RVL.map_av1 (g : Ghost) (vs : List Value) : RVL g (vs.map av1) vs := ⟨by simp, fun i h1 h2 => by simp only [List.getElem_map]; exact av1_ok g _⟩

theorem RV.agg' {g : Ghost} {cs : List AV} {vs : Array Value} (h : RVL g cs vs.toList) : RV g (.agg cs) (.agg vs) :=
  .agg cs vs (by simpa using h.1) (fun i h1 h2 => by have := h.2 i h1 (by simpa using h2); simpa using this)
theorem RV.tuple' {g : Ghost} {cs : List AV} {vs : Array Value} (h : RVL g cs vs.toList) : RV g (.tuple cs) (.tuple vs) :=
  .tuple cs vs (by simpa using h.1) (fun i h1 h2 => by have := h.2 i h1 (by simpa using h2); simpa using this)
theorem RV.agg_inv {g : Ghost} {cs : List AV} {v : Value} (h : RV g (.agg cs) v) : ∃ vs : Array Value, v = .agg vs ∧ RVL g cs vs.toList := by
  cases h with
  | agg _ vs hl hr => exact ⟨vs, rfl, by simpa using hl, fun i h1 h2 => by simpa using hr i h1 (by simpa using h2)⟩
theorem RV.tuple_inv {g : Ghost} {cs : List AV} {v : Value} (h : RV g (.tuple cs) v) : ∃ vs : Array Value, v = .tuple vs ∧ RVL g cs vs.toList := by
  cases h with
  | tuple _ vs hl hr => exact ⟨vs, rfl, by simpa using hl, fun i h1 h2 => by simpa using hr i h1 (by simpa using h2)⟩
theorem RV.func_inv {g : Ghost} {fn : Fn} {a b : List AV} {v : Value} (h : RV g (.func fn a b) v) : ∃ fs cs : Array Value, v = .func fn fs cs ∧ RVL g a fs.toList ∧ RVL g b cs.toList := by
  cases h with
  | func _ _ _ fs cs h1 h2 h3 h4 => exact ⟨fs, cs, rfl, ⟨by simpa using h1, fun i a b => by simpa using h3 i a (by simpa using b)⟩, ⟨by simpa using h2, fun i a b => by simpa using h4 i a (by simpa using b)⟩⟩
theorem RV.func' {g : Ghost} {fn : Fn} {a b : List AV} {fs cs : Array Value} (h1 : RVL g a fs.toList) (h2 : RVL g b cs.toList) : RV g (.func fn a b) (.func fn fs cs) :=
  .func fn a b fs cs (by simpa using h1.1) (by simpa using h2.1) (fun i x y => by have := h1.2 i x (by simpa using y); simpa using this) (fun i x y => by have := h2.2 i x (by simpa using y); simpa using this)

theorem av_ok (g : Ghost) (v : Value) : RV g (av v) v := by
  cases v with
  | agg cs => exact .agg' (RVL.map_av1 g _)
  | tuple cs => exact .tuple' (RVL.map_av1 g _)
  | iface t v => exact .iface t _ v (av1_ok g v)
  | bool b => exact av1_ok g (.bool b)
  | int k n => exact av1_ok g (.int k n)
  | float k n => exact av1_ok g (.float k n)
  | complex k a b => exact av1_ok g (.complex k a b)
  | string s => exact av1_ok g (.string s)
  | pointer a => exact av1_ok g (.pointer a)
  | slice a l c => exact av1_ok g (.slice a l c)
  | map r => exact av1_ok g (.map r)
  | chan r => exact av1_ok g (.chan r)
  | func fn a b => exact av1_ok g (.func fn a b)
  | nilFunc => exact av1_ok g (.nilFunc)
  | nilIface => exact av1_ok g (.nilIface)

def RelG (g : Ghost) (G : Nat → AV) : Prop := ∀ k, RV g (G k) (.pointer (some ⟨k, 0, none⟩))
structure RelT (n : Nat) (g : Ghost) (a : Nat → AV) (act : Act) : Prop where
  size : act.tmps.size = n
  tmp : ∀ t, RV g (a t) (act.tmps.getD t undef)

theorem RelG.mono {g g' : Ghost} (h : g.Le g') {G : Nat → AV} (k : RelG g G) : RelG g' G := fun i => (k i).mono h
theorem RelT.mono {g g' : Ghost} (h : g.Le g') {n : Nat} {a : Nat → AV} {act : Act} (k : RelT n g a act) : RelT n g' a act := ⟨k.size, fun t => (k.tmp t).mono h⟩

def upd (a : Nat → AV) (t : Nat) (v : AV) : Nat → AV := fun j => if j = t then v else a j

theorem RelT.put {n : Nat} {g : Ghost} {a : Nat → AV} {act : Act} (h : RelT n g a act) {t : Nat} (ht : t < n) {v : AV} {u : Value} (hv : RV g v u) : RelT n g (upd a t v) (act.put (some t) u) := by
  refine ⟨by simp [Act.put, h.size], fun j => ?_⟩
  show RV g (if j = t then v else a j) ((act.tmps.setIfInBounds t u).getD j undef)
  by_cases e : j = t
  · subst e
    have hlt : j < act.tmps.size := by rw [h.size]; exact ht
    simp [Array.getD_eq_getD_getElem?, hlt, hv]
  · rw [if_neg e]
    have := h.tmp j
    simpa [Array.getD_eq_getD_getElem?, Array.getElem?_setIfInBounds_ne (Ne.symm e)] using this

theorem aval_ok {n : Nat} {g : Ghost} {G : Nat → AV} {a : Nat → AV} {act : Act} (hG : RelG g G) (h : RelT n g a act) (x : Operand) : RV g (aval G a x) (act.eval x) := by
  cases x with
  | tmp t => exact h.tmp t
  | const v => exact av_ok g v
  | global k => exact hG k
  | func f => exact .func' (.nil g) (.nil g)

section
variable {P : Program} {B : Nat} {w0 : World} {g : Ghost} {σ : State} {w : World}

theorem kindT_agg {t n : Nat} (h : kindT P t = some (some n)) (w : World) : (isAgg t).run P w = .ok true w ∧ (sizeOf t).run P w = .ok n w := by
  unfold kindT at h
  split at h
  · rename_i u hu
    simp only [szT] at h
    cases hi : P.info? t with
    | none => simp [hi] at h
    | some i =>
      simp [hi] at h
      exact ⟨by simp [isAgg, run_underlying hu], by simp [sizeOf, typeInfo, hi, h]⟩
  · rename_i u1 u2 hu
    simp only [szT] at h
    cases hi : P.info? t with
    | none => simp [hi] at h
    | some i =>
      simp [hi] at h
      exact ⟨by simp [isAgg, run_underlying hu], by simp [sizeOf, typeInfo, hi, h]⟩
  · cases h
  · cases h

theorem kindT_one {t : Nat} (h : kindT P t = some none) (w : World) : (isAgg t).run P w = .ok false w := by
  unfold kindT at h
  split at h
  · simp only [szT] at h; cases hi : P.info? t <;> simp [hi] at h
  · simp only [szT] at h; cases hi : P.info? t <;> simp [hi] at h
  · rename_i d h1 h2 hu
    simp only [isAgg, Sem.run_bind, run_underlying hu, Result.andThen_ok]
    cases d <;> first | rfl | (exact absurd rfl (h1 _)) | (exact absurd rfl (h2 _ _))
  · cases h

theorem szT_run {t n : Nat} (h : szT P t = some n) (w : World) : (sizeOf t).run P w = .ok n w := by
  unfold szT at h
  cases hi : P.info? t with
  | none => simp [hi] at h
  | some i => simp [hi] at h; simp [sizeOf, typeInfo, hi, h]

theorem elT_run {t e : Nat} (h : elT P t = some e) : P.underlying t = some (.slice e) := by
  unfold elT at h
  split at h
  · rename_i e' hu; cases h; exact hu
  · cases h

theorem apart_load {t off : Nat} {cs : List AV} {v : AV} (h : apart P t cs off = some v) {b o : Nat} {vs : List Value} (hr : RVL g cs vs)
    (hc : ∀ j (h : j < vs.length), w.cell? ⟨b, o + j, none⟩ = some vs[j]) : ∃ u, (loadVar t ⟨b, o + off, none⟩).run P w = .ok u w ∧ RV g v u := by
  unfold apart at h
  split at h
  · rename_i n hk
    obtain ⟨h1, h2⟩ := kindT_agg hk w
    split at h
    · rename_i hle
      cases h
      have hlen : ((vs.drop off).take n).length = n := by rw [List.length_take, List.length_drop, ← hr.1]; omega
      have hl := run_loadCells_list (P := P) w ⟨b, o + off, none⟩ ((vs.drop off).take n) (fun j v hj => by
        rw [List.getElem?_take] at hj
        split at hj
        · rw [List.getElem?_drop] at hj
          obtain ⟨hlt, hv⟩ := List.getElem?_eq_some_iff.1 hj
          rw [add_at, Nat.add_assoc, hc (off + j) hlt, hv]
        · cases hj)
      rw [hlen] at hl
      refine ⟨.agg ((vs.drop off).take n).toArray, ?_, ?_⟩
      · simp [loadVar, h1, h2, hl]
      · exact .agg' ((hr.drop off).take n)
    · cases h
  · rename_i hk
    obtain ⟨u, hu, hru⟩ := hr.get h
    obtain ⟨hlt, hv⟩ := List.getElem?_eq_some_iff.1 hu
    refine ⟨u, ?_, hru⟩
    have := hc off hlt
    simp [loadVar, kindT_one hk w, this, hv]
  · cases h

theorem apart_part {t off : Nat} {cs : List AV} {v : AV} (h : apart P t cs off = some v) {vs : Array Value} (hr : RVL g cs vs.toList) (w : World) :
    ∃ u, (part t vs off).run P w = .ok u w ∧ RV g v u := by
  unfold apart at h
  split at h
  · rename_i n hk
    obtain ⟨h1, h2⟩ := kindT_agg hk w
    split at h
    · rename_i hle
      cases h
      refine ⟨.agg (vs.extract off (off + n)), by simp [part, h1, h2], .agg' ?_⟩
      have := (hr.drop off).take n
      rw [Array.toList_extract]
      rw [List.extract_eq_take_drop]
      simpa using this
    · cases h
  · rename_i hk
    obtain ⟨u, hu, hru⟩ := hr.get h
    refine ⟨u, ?_, hru⟩
    have hu' : vs[off]? = some u := by simpa using hu
    simp [part, kindT_one hk w, hu']
  · cases h

/-- The cells of a live object. -/
theorem Sim.cells (h : Sim B w0 g σ w) {id e sz : Nat} {cs : List AV} {grow : Bool} (ho : σ.objs id = .cells cs e sz grow) :
    ∃ i c, g.info id = some i ∧ i.sz = sz ∧ B ≤ i.blk ∧ w.heap[i.blk]? = some (.cells c e (0, 0)) ∧ cs.length ≤ c.size ∧ (grow = false → cs.length = c.size) ∧ c.size = i.tot * i.sz ∧ i.tot ≤ maxLen ∧
      RVL g cs (c.toList.take cs.length) ∧ cs.all AV.one = true ∧ ∀ o, g.F i.blk o = none := by
  have := h.objs id
  rw [ho] at this
  exact this

theorem cell_take {c : Array Value} {e b n : Nat} (hh : w.heap[b]? = some (.cells c e (0, 0))) (j : Nat) (hj : j < (c.toList.take n).length) : w.cell? ⟨b, 0 + j, none⟩ = some (c.toList.take n)[j] := by
  have h1 : j < c.size := by have := hj; simp at this; omega
  simp [World.cell?, hh, h1]

theorem load_ok (h : Sim B w0 g σ w) {t : Nat} {x v : AV} {u : Value} (hx : RV g x u) (ha : aload P σ t x = some v) :
    ∃ u', (Instr.loadAt t u).run P w = .ok u' w ∧ RV g v u' := by
  unfold aload at ha
  split at ha
  · rename_i cs
    cases hx with
    | vptr _ b o vs hl hF hr =>
      obtain ⟨u', h1, h2⟩ := apart_load ha (b := b) (o := o) ⟨hl, hr⟩ (fun j hj => h.froz _ _ _ (hF j hj))
      refine ⟨u', ?_, h2⟩
      simpa [Instr.loadAt, Instr.sureAddr] using h1
  · rename_i id off
    split at ha
    · rename_i cs e sz gr ho
      obtain ⟨i, c, h1, _, _, hh, _, _, _, _, hr, _, _⟩ := h.cells ho
      cases hx with
      | ptr _ _ i' hi' =>
        rw [h1] at hi'; cases hi'
        obtain ⟨u', h3, h4⟩ := apart_load ha hr (b := i.blk) (o := 0) (fun j hj => cell_take hh j hj)
        refine ⟨u', ?_, h4⟩
        rw [Nat.zero_add] at h3
        simpa [Instr.loadAt, Instr.sureAddr] using h3
    · cases ha
  · cases ha

theorem RVL.splice {cs vs : List AV} {us ws : List Value} (h : RVL g cs us) (k : RVL g vs ws) (off : Nat) : RVL g (asplice cs off vs) (us.take off ++ ws ++ us.drop (off + ws.length)) := by
  unfold asplice
  rw [k.1]
  exact ((h.take off).append k).append (h.drop _)

theorem take_splice {α : Type} (l vs : List α) (off n : Nat) (h1 : off + vs.length ≤ n) (h2 : n ≤ l.length) :
    (l.take off ++ vs ++ l.drop (off + vs.length)).take n = (l.take n).take off ++ vs ++ (l.take n).drop (off + vs.length) := by
  have e1 : (l.take n).take off = l.take off := by rw [List.take_take, Nat.min_eq_left (by omega)]
  rw [e1, List.drop_take]
  have hl : (l.take off ++ vs).length = off + vs.length := by rw [List.length_append, List.length_take, Nat.min_eq_left (by omega)]
  rw [List.take_append]
  rw [List.take_of_length_le (by omega), hl]

theorem store_ok (h : Sim B w0 g σ w) {t : Nat} {x v r : AV} {σ' : State} {u y : Value} (hx : RV g x u) (hy : RV g v y) (ha : astore P σ t x v = .ok r σ') :
    ∃ w', (Instr.storeAt t u y).run P w = .ok () w' ∧ Sim B w0 g σ' w' ∧ r = .undef := by
  unfold astore at ha
  split at ha
  · rename_i id off
    split at ha
    · rename_i cs e sz gr ho
      split at ha
      · rename_i hcond
        obtain ⟨hv, hsz, hone, hle⟩ := hcond
        cases ha
        have hne : v ≠ .undef := by rintro rfl; simp [AV.isUndef] at hv
        have hcv := hy.cells hne
        obtain ⟨i, c, h1, hs, hB, hh, hlc, hg, hct, hmx, hr, h1c, hF⟩ := h.cells ho
        cases hx with
        | ptr _ _ i' hi' =>
          rw [h1] at hi'; cases hi'
          have hlen : y.cells.toList.length = v.cells.length := hcv.1.symm
          have hst := run_storeCells_at P i.blk off e y.cells.toList 0 c w hh (by omega) (hcv.one hone)
          simp only [Nat.add_zero] at hst
          have hszr : (sizeOf t).run P w = .ok y.cells.size w := by
            have := szT_run hsz w
            rw [this]; congr 1; simpa using hlen.symm
          refine ⟨w.setRow i.blk (c.toList.take off ++ y.cells.toList ++ c.toList.drop (off + y.cells.toList.length)).toArray, ?_, ?_, rfl⟩
          · simp only [Instr.storeAt, Instr.sureAddr, storeVar, Sem.run_bind, Sem.run_pure, Result.andThen_ok, hszr, ne_eq, not_true_eq_false, if_false]
            exact hst
          have hd : σ.objs id ≠ .dead := by rw [ho]; simp
          have hsize : (c.toList.take off ++ y.cells.toList ++ c.toList.drop (off + y.cells.toList.length)).length = c.size := by
            simp only [List.length_append, List.length_take, List.length_drop, Array.length_toList]
            have : y.cells.size = v.cells.length := by simpa using hlen
            omega
          have hal : (asplice cs off v.cells).length = cs.length := by
            simp only [asplice, List.length_append, List.length_take, List.length_drop]; omega
          have htk : ((c.toList.take off ++ y.cells.toList ++ c.toList.drop (off + y.cells.toList.length)).toArray.toList.take (asplice cs off v.cells).length) =
              (c.toList.take cs.length).take off ++ y.cells.toList ++ (c.toList.take cs.length).drop (off + y.cells.toList.length) := by
            rw [hal]
            exact take_splice _ _ _ _ (by rw [hlen]; exact hle) (by simpa using hlc)
          refine h.write (w' := w.setRow i.blk (c.toList.take off ++ y.cells.toList ++ c.toList.drop (off + y.cells.toList.length)).toArray) h1 hd hF rfl rfl rfl (by simp [World.setRow]) (fun b hb => setRow_other w _ _ _ hb) _ ?_
          refine ⟨i, _, h1, hs, hB, setRow_heap w _ _ _ _ _ hh, ?_, ?_, ?_, hmx, ?_, ?_, hF⟩
          · rw [hal]; simp only [List.size_toArray]; rw [hsize]; exact hlc
          · intro hgf; rw [hal, hg hgf]; simp only [List.size_toArray]; rw [hsize]
          · simp only [List.size_toArray]; rw [hsize]; exact hct
          · rw [htk]; exact hr.splice hcv off
          · unfold asplice
            rw [List.all_append, List.all_append, hone]
            rw [List.all_eq_true] at h1c
            simp only [Bool.and_true, Bool.and_eq_true, List.all_eq_true]
            exact ⟨fun z hz => h1c z (List.mem_of_mem_take hz), fun z hz => h1c z (List.mem_of_mem_drop hz)⟩
      · cases ha
    · cases ha
  · cases ha

theorem new_ok (h : Sim B w0 g σ w) {e : Nat} {cs : List AV} {c : Array Value} (hr : RVL g cs c.toList) {r : AV} {σ' : State} (ha : anew σ e cs = .ok r σ') :
    g.Le (g.add σ.next ⟨w.heap.size, 1, cs.length⟩) ∧ Sim B w0 (g.add σ.next ⟨w.heap.size, 1, cs.length⟩) σ' (w.alloc (.cells c e)) ∧ RV (g.add σ.next ⟨w.heap.size, 1, cs.length⟩) r (.pointer (some ⟨w.heap.size, 0, none⟩)) := by
  unfold anew at ha
  split at ha
  · rename_i hc
    cases ha
    have hsz : c.size = cs.length := by have := hr.1; simpa using this.symm
    have hle : g.Le (g.add σ.next ⟨w.heap.size, 1, cs.length⟩) := Ghost.le_add (h.next _ (Nat.le_refl _)).1 _
    have htk : c.toList.take cs.length = c.toList := List.take_of_length_le (by simp [hsz])
    have hn := h.new (.cells cs e cs.length false) (.cells c e) 1 cs.length ⟨⟨w.heap.size, 1, cs.length⟩, c, by simp, rfl, h.size, heap_new w _, by omega, fun _ => hsz.symm, by simp [hsz], (by decide : (1 : Nat) ≤ 2 ^ 63 - 1), by rw [htk]; exact hr.mono hle, hc.1, fun o => by rw [Ghost.add_F]; exact h.F_new o⟩
    exact ⟨hn.1, hn.2, .ptr _ _ ⟨w.heap.size, 1, cs.length⟩ (by simp)⟩
  · cases ha

end
end Go.V
