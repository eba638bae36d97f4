/- A part of the proof of the statement S8 (texts brought together and shortened by a program of this work). -/
import Derived.Test.YtgnjidopnplbbaaGreatDoorQ39
import Derived.Test.YtgnjidopnplbbaaGreatDoorQ21
import Derived.Test.YtgnjidopnplbbaaGreatDoorQ40
import Derived.Test.YtgnjidopnplbbaaGreatDoorCards
import Derived.Test.YtgnjidopnplbbaaGreatDoorTie
import Derived.SevenTiedAt
import Derived.WitnessAt
import Derived.Deep.DeepHandedRow
/- The statement StreamPrograms, in its second form. -/
set_option maxRecDepth 100000
namespace Go.Proofs.YtgnjidopnplbbaaGreatDoor
open Go Go.V Go.ChangeShapes Go.WideShapes Go.RowKit

theorem params8 : Tryz.f8.params = #[3, 22, 26] := by kernel_rfl
theorem sum_memP {α : Type} (f : α → Nat) : ∀ {l : List α} {x : α}, x ∈ l → f x ≤ (l.map f).sum
  | y :: l, x, h => by
    simp only [List.map_cons, List.sum_cons]
    rcases List.mem_cons.1 h with rfl | h
    · omega
    · have := sum_memP f h; omega
theorem ones_len (l : List Int) : (l.map fun _ => 1).sum = l.length := by
  induction l with
  | nil => rfl
  | cons x l ih => rw [List.map_cons, List.sum_cons, ih, List.length_cons]; omega

theorem programs_lifted (os : Os) (started : os.Started) (H : Type) (enc : TypeId × Value → H) (F : Stop.Interp) :
    ReturnsInHanded {} Tryz.checked os 8 .any ((Rows.OpenSpec.upto Rows.streamProgramsSpec).preRow enc Tryz.prog Tryz.f8 [] false zOU) (((Rows.OpenSpec.upto Rows.streamProgramsSpec).at F).post enc Tryz.prog Tryz.f8 false true false false) := by
  refine liftedU zeW c8_inits c8_res rfl (fun H ds hd => ?_) (fun t ht => ?_) (fun H enc W base args ds p hval hbulk hA => ?_) os started H enc F #[.int .i64 0, .slice none 0 0, .slice none 0 0]
    (by kernel_rfl) (by kernel_rfl) (by kernel_rfl) ?_
  · rw [params8] at hd
    match ds, hd with
    | [d1, d2, d3], _ => rfl
  · rw [params8] at ht
    simp at ht
    rcases ht with rfl | rfl | rfl
    · exact sh_ty3
    · exact sh_ty22
    · exact sh_ty26
  · rw [params8] at hA hval
    obtain ⟨v0, v1, v2, d0, d1, d2, p0, p1, p2, rfl, rfl, rfl, h0, h1, h2⟩ := trodAll_three hA
    obtain ⟨n, hn⟩ := arg_int un3 (hval 0 3 v0 rfl rfl) h0
    obtain ⟨ls, hls, hw1⟩ := zP0 un22 pull_22 (hval 1 22 v1 rfl rfl) h1
    obtain ⟨o, hno, hw2⟩ := zP0 un26 pull_26 (hval 2 26 v2 rfl rfl) h2
    have e : Rows.uptoBulkAll [d0, d1, d2] = Rows.uptoBulk d0 + (Rows.uptoBulk d1 + (Rows.uptoBulk d2 + 0)) := by rw [Rows.uptoBulkAll, Rows.uptoBulkAll, Rows.uptoBulkAll, Rows.uptoBulkAll]
    rw [e] at hbulk
    rw [lsV_map] at hls
    have hs := zQS ls
    have ho := ones_len o
    exact ⟨_, .cons hn (.cons hls (.cons hno (.nil _))), zeT n ls o (by omega) (by omega) (fun l hl x hx => by
      have k1 := sum_memP T.bulk hx
      have k2 := sum_memP (fun l : List T => (l.map T.bulk).sum + 1) hl
      omega) (by omega)⟩
  · have hx : ∃ places, DataW.whole enc Tryz.checked.prog ((zOY os).forCall (fun _ _ => 0) ⟨#[], #[.int .i64 0, .slice none 0 0, .slice none 0 0], []⟩).memory Tryz.f8.params.toList Rows.streamProgramsSpec.vars false (#[.int .i64 0, .slice none 0 0, .slice none 0 0] : Array Value).toList 8 = some ([.lit (.int .i64 0), .nil, .nil], [], places) := ⟨[], by kernel_rfl⟩
    obtain ⟨places, hx⟩ := hx
    exact OpenSpec.preRow_of_cond 8 hx (by kernel_rfl) (fun k hk => by cases hk; kernel_rfl) (by kernel_rfl) (zOZ os _)

theorem programs_said : Rows.StreamProgramsUptoSaid :=
  OpenClaim.holds_of_cond 8 Tryz.f8 rfl rfl rfl rfl rfl rfl rfl ⟨rfl, rfl, rfl, rfl, rfl⟩ rfl rfl rfl rfl rfl zeV zeW zeU c8_inst c8_wrap
    (fun os started H enc _ F => by rw [OpenClaim.pre_eq_preRow]; exact programs_lifted os started H enc F)

theorem stream_programs : Rows.StreamProgramsUptoCardSaid :=
  Claim7.holds_tied_plain_at .later [] [.widerDeep] true (true, "66ee3c112570d5b17686b299e7ab907cfb9624d8e186bcd98f25cf8dcd7d4bef") false
    programs_said (fun _ h => by cases h) c8_text (fun _ h => by cases h) streamProgramsUpto_row_tie rfl ⟨rfl, rfl⟩ sh_main rfl
    (fun f fn hf hfn => by
      obtain rfl : f = 8 := Option.some.inj (zeV.symm.trans hf) |>.symm
      obtain rfl : fn = Tryz.f8 := (Option.some.inj (zeW.symm.trans hfn)).symm
      exact ⟨sh_looks, fun j t ht => by
        rw [params8] at ht
        match j, ht with
        | 0, ht => simp at ht; subst ht; exact sh_st3
        | 1, ht => simp at ht; subst ht; exact sh_st22
        | 2, ht => simp at ht; subst ht; exact sh_st26⟩)
    c8_goes
#print axioms stream_programs
end Go.Proofs.YtgnjidopnplbbaaGreatDoor
