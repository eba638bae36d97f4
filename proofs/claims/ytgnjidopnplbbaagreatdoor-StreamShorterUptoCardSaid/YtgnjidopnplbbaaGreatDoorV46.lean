import Derived.Test.YtgnjidopnplbbaaGreatDoorV43
import Derived.Test.YtgnjidopnplbbaaGreatDoorV44
import Derived.Test.YtgnjidopnplbbaaGreatDoorV45
import Derived.Test.YtgnjidopnplbbaaGreatDoorCards
import Derived.Test.YtgnjidopnplbbaaGreatDoorTie
import Derived.SevenTiedAt
import Derived.WitnessAt
import Derived.Deep.DeepHandedRow
/- The statement StreamShorter, in its second form. -/
set_option maxRecDepth 100000
namespace Go.Proofs.YtgnjidopnplbbaaGreatDoor
open Go Go.V Go.ChangeShapes Go.WideShapes Go.RowKit

theorem params5 : Tryz.f5.params = #[47] := by kernel_rfl

theorem shorter_lifted (os : Os) (started : os.Started) (H : Type) (enc : TypeId × Value → H) (F : Stop.Interp) :
    ReturnsInHanded {} Tryz.checked os 5 .any ((Rows.OpenSpec.upto Rows.streamShorterSpec).preRow enc Tryz.prog Tryz.f5 [] false laidL) (((Rows.OpenSpec.upto Rows.streamShorterSpec).at F).post enc Tryz.prog Tryz.f5 false true false false) := by
  refine liftedU c5_func c5_inits c5_res rfl (fun H ds hd => ?_) (fun t ht => ?_) (fun H enc W base args ds p hval hbulk hA => ?_) os started H enc F #[.agg #[.int .i64 0, .int .i64 0, .slice none 0 0, .slice none 0 0]]
    (by kernel_rfl) (by kernel_rfl) (by kernel_rfl) ?_
  · rw [params5] at hd
    match ds, hd with
    | [d1], _ => rfl
  · rw [params5] at ht
    simp at ht
    subst ht
    exact sh_ty47
  · rw [params5] at hA hval
    obtain ⟨v0, d0, rfl, rfl, h0⟩ := trodAll_one hA
    obtain ⟨⟨m, n, ls, out⟩, hl, hw⟩ := arg_struct fo47 (by simp) pull_47 (hval 0 47 v0 rfl rfl) h0
    have e : Rows.uptoBulkAll [d0] = Rows.uptoBulk d0 + 0 := by rw [Rows.uptoBulkAll, Rows.uptoBulkAll]
    rw [e] at hbulk
    dsimp only at hw
    exact ⟨_, .cons hl (.nil _), shorter_ok m n ls out (by omega) (by omega)⟩
  · have hx : ∃ places, DataW.whole enc Tryz.checked.prog ((laidWorld os).forCall (fun _ _ => 0) ⟨#[], #[.agg #[.int .i64 0, .int .i64 0, .slice none 0 0, .slice none 0 0]], []⟩).memory Tryz.f5.params.toList Rows.streamShorterSpec.vars false (#[.agg #[.int .i64 0, .int .i64 0, .slice none 0 0, .slice none 0 0]] : Array Value).toList 8 = some ([.agg [.lit (.int .i64 0), .lit (.int .i64 0), .nil, .nil]], [], places) := ⟨[], by kernel_rfl⟩
    obtain ⟨places, hx⟩ := hx
    exact OpenSpec.preRow_of_cond 8 hx (by kernel_rfl) (fun k hk => by cases hk; kernel_rfl) (by kernel_rfl) (laidWorld_met os _)

theorem shorter_said : Rows.StreamShorterUptoSaid :=
  OpenClaim.holds_of_cond 5 Tryz.f5 rfl rfl rfl rfl rfl rfl rfl ⟨rfl, rfl, rfl, rfl, rfl⟩ rfl rfl rfl rfl rfl c5_named c5_func c5_joined c5_inst c5_wrap
    (fun os started H enc _ F => by rw [OpenClaim.pre_eq_preRow]; exact shorter_lifted os started H enc F)

theorem stream_shorter : Rows.StreamShorterUptoCardSaid :=
  Claim7.holds_tied_plain_at .later [] [.widerDeep] true (true, "66ee3c112570d5b17686b299e7ab907cfb9624d8e186bcd98f25cf8dcd7d4bef") false
    shorter_said (fun _ h => by cases h) c5_text (fun _ h => by cases h) streamShorterUpto_row_tie rfl ⟨rfl, rfl⟩ sh_main rfl
    (fun f fn hf hfn => by
      obtain rfl : f = 5 := Option.some.inj (c5_named.symm.trans hf) |>.symm
      obtain rfl : fn = Tryz.f5 := (Option.some.inj (c5_func.symm.trans hfn)).symm
      exact ⟨sh_looks, fun j t ht => by
        rw [params5] at ht
        match j, ht with
        | 0, ht => simp at ht; subst ht; exact sh_st47⟩)
    c5_goes
#print axioms stream_shorter
end Go.Proofs.YtgnjidopnplbbaaGreatDoor
