import Derived.Test.YtgnjidopnplbbaaGreatDoorQ28
import Derived.Test.YtgnjidopnplbbaaGreatDoorQ27
import Derived.Test.YtgnjidopnplbbaaGreatDoorQ29
import Derived.Test.YtgnjidopnplbbaaGreatDoorCards
import Derived.Test.YtgnjidopnplbbaaGreatDoorTie
import Derived.SevenTiedAt
import Derived.WitnessAt
import Derived.Deep.DeepHandedRow
/- The statement StreamSplits, in its second form. -/
set_option maxRecDepth 100000
namespace Go.Proofs.YtgnjidopnplbbaaGreatDoor
open Go Go.V Go.ChangeShapes Go.WideShapes Go.RowKit

theorem params9 : Tryz.f9.params = #[3, 26, 23] := by kernel_rfl
theorem laidSame : Rows.streamSplitsUptoRow.laid = laidL := rfl

theorem splits_lifted (os : Os) (started : os.Started) (H : Type) (enc : TypeId × Value → H) (F : Stop.Interp) :
    ReturnsInHanded {} Tryz.checked os 9 .any ((Rows.OpenSpec.upto Rows.streamSplitsSpec).preRow enc Tryz.prog Tryz.f9 [] false laidL) (((Rows.OpenSpec.upto Rows.streamSplitsSpec).at F).post enc Tryz.prog Tryz.f9 false true false false) := by
  refine liftedU c9_func c9_inits c9_res rfl (fun H ds hd => ?_) (fun t ht => ?_) (fun H enc W base args ds p hval hbulk hA => ?_) os started H enc F #[.int .i64 0, .slice none 0 0, .slice none 0 0]
    (by kernel_rfl) (by kernel_rfl) (by kernel_rfl) ?_
  · rw [params9] at hd
    match ds, hd with
    | [d1, d2, d3], _ => rfl
  · rw [params9] at ht
    simp at ht
    rcases ht with rfl | rfl | rfl
    · exact sh_ty3
    · exact sh_ty26
    · exact sh_ty23
  · rw [params9] at hA hval
    obtain ⟨v0, v1, v2, d0, d1, d2, p0, p1, p2, rfl, rfl, rfl, h0, h1, h2⟩ := trodAll_three hA
    obtain ⟨n, hn⟩ := arg_int un3 (hval 0 3 v0 rfl rfl) h0
    obtain ⟨picks, hp, _⟩ := arg_slice un26 pull_26 (hval 1 26 v1 rfl rfl) h1
    obtain ⟨l, hl, hw⟩ := arg_slice un23 pull_23 (hval 2 23 v2 rfl rfl) h2
    have e : Rows.uptoBulkAll [d0, d1, d2] = Rows.uptoBulk d0 + (Rows.uptoBulk d1 + (Rows.uptoBulk d2 + 0)) := by rw [Rows.uptoBulkAll, Rows.uptoBulkAll, Rows.uptoBulkAll, Rows.uptoBulkAll]
    rw [e] at hbulk
    rw [← tcellL_eq] at hl
    exact ⟨_, .cons hn (.cons hp (.cons hl (.nil _))), splits_ok n picks l fun t ht => by
      have := sum_mem T.bulk ht
      omega⟩
  · have hx : ∃ places, DataW.whole enc Tryz.checked.prog ((laidWorld os).forCall (fun _ _ => 0) ⟨#[], #[.int .i64 0, .slice none 0 0, .slice none 0 0], []⟩).memory Tryz.f9.params.toList Rows.streamSplitsSpec.vars false (#[.int .i64 0, .slice none 0 0, .slice none 0 0] : Array Value).toList 8 = some ([.lit (.int .i64 0), .nil, .nil], [], places) := ⟨[], by kernel_rfl⟩
    obtain ⟨places, hx⟩ := hx
    exact OpenSpec.preRow_of_cond 8 hx (by kernel_rfl) (fun k hk => by cases hk; kernel_rfl) (by kernel_rfl) (laidWorld_met os _)

theorem splits_said : Rows.StreamSplitsUptoSaid :=
  OpenClaim.holds_of_cond 9 Tryz.f9 rfl rfl rfl rfl rfl rfl rfl ⟨rfl, rfl, rfl, rfl, rfl⟩ rfl rfl rfl rfl rfl c9_named c9_func c9_joined c9_inst c9_wrap
    (fun os started H enc _ F => by rw [OpenClaim.pre_eq_preRow]; exact splits_lifted os started H enc F)

theorem stream_splits : Rows.StreamSplitsUptoCardSaid :=
  Claim7.holds_tied_plain_at .later [] [.widerDeep] true (true, "66ee3c112570d5b17686b299e7ab907cfb9624d8e186bcd98f25cf8dcd7d4bef") false
    splits_said (fun _ h => by cases h) c9_text (fun _ h => by cases h) streamSplitsUpto_row_tie rfl ⟨rfl, rfl⟩ sh_main rfl
    (fun f fn hf hfn => by
      obtain rfl : f = 9 := Option.some.inj (c9_named.symm.trans hf) |>.symm
      obtain rfl : fn = Tryz.f9 := (Option.some.inj (c9_func.symm.trans hfn)).symm
      exact ⟨sh_looks, fun j t ht => by
        rw [params9] at ht
        match j, ht with
        | 0, ht => simp at ht; subst ht; exact sh_st3
        | 1, ht => simp at ht; subst ht; exact sh_st26
        | 2, ht => simp at ht; subst ht; exact sh_st23⟩)
    c9_goes
#print axioms stream_splits
end Go.Proofs.YtgnjidopnplbbaaGreatDoor
