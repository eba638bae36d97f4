import Derived.Test.YtgnjidopnplbbaaGreatDoorR36
import Derived.Test.YtgnjidopnplbbaaGreatDoorR27
import Derived.Test.YtgnjidopnplbbaaGreatDoorR37
import Derived.Test.YtgnjidopnplbbaaGreatDoorCards
import Derived.Test.YtgnjidopnplbbaaGreatDoorTie
import Derived.SevenTiedAt
import Derived.WitnessAt
import Derived.Deep.DeepHandedRow
/- The statement StreamMerges, in its second form. -/
set_option maxRecDepth 100000
namespace Go.Proofs.YtgnjidopnplbbaaGreatDoor
open Go Go.V Go.ChangeShapes Go.WideShapes Go.RowKit

theorem params15 : Tryz.f15.params = #[94] := by kernel_rfl

theorem merges_lifted (os : Os) (started : os.Started) (H : Type) (enc : TypeId × Value → H) (F : Stop.Interp) :
    ReturnsInHanded {} Tryz.checked os 15 .any ((Rows.OpenSpec.upto Rows.streamMergesSpec).preRow enc Tryz.prog Tryz.f15 [] false laidL) (((Rows.OpenSpec.upto Rows.streamMergesSpec).at F).post enc Tryz.prog Tryz.f15 false true false false) := by
  refine liftedU c15_func c15_inits c15_res rfl (fun H ds hd => ?_) (fun t ht => ?_) (fun H enc W base args ds p hval hbulk hA => ?_) os started H enc F #[.agg #[.int .i64 0, .slice none 0 0]]
    (by kernel_rfl) (by kernel_rfl) (by kernel_rfl) ?_
  · rw [params15] at hd
    match ds, hd with
    | [d1], _ => rfl
  · rw [params15] at ht
    simp at ht
    subst ht
    exact sh_ty94
  · rw [params15] at hA hval
    obtain ⟨v0, d0, rfl, rfl, h0⟩ := trodAll_one hA
    obtain ⟨⟨N, l⟩, hl, hw⟩ := arg_struct fo94 (by simp) pull_94 (hval 0 94 v0 rfl rfl) h0
    have e : Rows.uptoBulkAll [d0] = Rows.uptoBulk d0 + 0 := by rw [Rows.uptoBulkAll, Rows.uptoBulkAll]
    rw [e] at hbulk
    exact ⟨_, .cons hl (.nil _), merges_ok N l fun e he => by
      have := sum_mem (fun e : Ev => e.t.bulk) he
      dsimp only at this hw
      omega⟩
  · have hx : ∃ places, DataW.whole enc Tryz.checked.prog ((laidWorld os).forCall (fun _ _ => 0) ⟨#[], #[.agg #[.int .i64 0, .slice none 0 0]], []⟩).memory Tryz.f15.params.toList Rows.streamMergesSpec.vars false (#[.agg #[.int .i64 0, .slice none 0 0]] : Array Value).toList 8 = some ([.agg [.lit (.int .i64 0), .nil]], [], places) := ⟨[], by kernel_rfl⟩
    obtain ⟨places, hx⟩ := hx
    exact OpenSpec.preRow_of_cond 8 hx (by kernel_rfl) (fun k hk => by cases hk; kernel_rfl) (by kernel_rfl) (laidWorld_met os _)

theorem merges_said : Rows.StreamMergesUptoSaid :=
  OpenClaim.holds_of_cond 15 Tryz.f15 rfl rfl rfl rfl rfl rfl rfl ⟨rfl, rfl, rfl, rfl, rfl⟩ rfl rfl rfl rfl rfl c15_named c15_func c15_joined c15_inst c15_wrap
    (fun os started H enc _ F => by rw [OpenClaim.pre_eq_preRow]; exact merges_lifted os started H enc F)

theorem stream_merges : Rows.StreamMergesUptoCardSaid :=
  Claim7.holds_tied_plain_at .later [] [.widerDeep] true (true, "66ee3c112570d5b17686b299e7ab907cfb9624d8e186bcd98f25cf8dcd7d4bef") false
    merges_said (fun _ h => by cases h) c15_text (fun _ h => by cases h) streamMergesUpto_row_tie rfl ⟨rfl, rfl⟩ sh_main rfl
    (fun f fn hf hfn => by
      obtain rfl : f = 15 := Option.some.inj (c15_named.symm.trans hf) |>.symm
      obtain rfl : fn = Tryz.f15 := (Option.some.inj (c15_func.symm.trans hfn)).symm
      exact ⟨sh_looks, fun j t ht => by
        rw [params15] at ht
        match j, ht with
        | 0, ht => simp at ht; subst ht; exact sh_st94⟩)
    c15_goes
#print axioms stream_merges
end Go.Proofs.YtgnjidopnplbbaaGreatDoor
