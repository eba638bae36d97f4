import Derived.Test.YtgnjidopnplbbaaGreatDoorQ26
import Derived.Test.YtgnjidopnplbbaaGreatDoorQ25
import Derived.Test.YtgnjidopnplbbaaGreatDoorQ27
import Derived.Test.YtgnjidopnplbbaaGreatDoorCards
import Derived.Test.YtgnjidopnplbbaaGreatDoorTie
import Derived.SevenTiedAt
import Derived.WitnessAt
/- The statement StreamWork. -/
set_option maxRecDepth 100000
namespace Go.Proofs.YtgnjidopnplbbaaGreatDoor
open Go Go.V Go.ChangeShapes Go.WideShapes Go.RowKit

theorem params14 : Tryz.f14.params = #[94] := by kernel_rfl

theorem lifted14 (os : Os) (started : os.Started) (H : Type) (enc : TypeId × Value → H) :
    ReturnsInHanded {} Tryz.checked os 14 .any (fun w args => (Rows.streamWorkSpec.pre enc Tryz.prog Tryz.f14 [] false w args ∧ laidMetH Tryz.prog laidL w) ∧ sizedMet enc Tryz.prog Tryz.f14 (OpenSpec.ofChange Rows.streamWorkSpec) false w args)
      (Rows.streamWorkSpec.post enc Tryz.prog Tryz.f14 false true false false) := by
  refine lifted c14_func c14_inits c14_res rfl (fun H ds hd => ?_) (fun t ht => ?_) (fun H enc W base args ds p hval hA => ?_) os started H enc
    (ChangeSpec.witness_at (enc := enc) (C := Tryz.checked) (os := os) (X := fun w _ => laidMetH Tryz.prog laidL w) false (laidWorld os) #[.agg #[.int .i64 0, .slice none 0 0]] 8 rfl (by kernel_rfl) (by kernel_rfl) (by kernel_rfl) (by kernel_rfl) (by kernel_rfl) (laidWorld_met os _))
  · rw [params14] at hd
    match ds, hd with
    | [d1], _ => rfl
  · rw [params14] at ht
    simp at ht
    subst ht
    exact sh_ty94
  · rw [params14] at hA hval
    obtain ⟨v0, d0, rfl, rfl, h0⟩ := trodAll_one hA
    obtain ⟨⟨N, l⟩, hl, _⟩ := arg_struct fo94 (by simp) pull_94 (hval 0 94 v0 rfl rfl) h0
    exact ⟨_, .cons hl (.nil _), work_ok N l⟩

theorem said14 : Rows.StreamWorkSaid :=
  OpenClaim.holds_of_wide 14 Tryz.f14 rfl rfl rfl rfl rfl rfl rfl ⟨rfl, rfl, rfl, rfl, rfl⟩ rfl rfl rfl rfl rfl c14_named c14_func c14_joined c14_inst c14_wrap
    (fun os started H enc _ => lifted14 os started H enc)

theorem stream_work : Rows.StreamWorkCardSaid :=
  Claim7.holds_tied_plain_at .later [] [.widerDeep] true (true, "66ee3c112570d5b17686b299e7ab907cfb9624d8e186bcd98f25cf8dcd7d4bef") false
    said14 (fun _ h => by cases h) c14_text (fun _ h => by cases h) streamWork_row_tie rfl ⟨rfl, rfl⟩ sh_main rfl
    (fun f fn hf hfn => by
      obtain rfl : f = 14 := Option.some.inj (c14_named.symm.trans hf) |>.symm
      obtain rfl : fn = Tryz.f14 := (Option.some.inj (c14_func.symm.trans hfn)).symm
      exact ⟨sh_looks, fun j t ht => by
        rw [params14] at ht
        match j, ht with
        | 0, ht => simp at ht; subst ht; exact sh_st94⟩)
    c14_goes
#print axioms stream_work
end Go.Proofs.YtgnjidopnplbbaaGreatDoor
