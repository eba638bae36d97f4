import Derived.Test.YtgnjidopnplbbaaGreatDoorQ26
import Derived.Test.YtgnjidopnplbbaaGreatDoorQ25
import Derived.Test.YtgnjidopnplbbaaGreatDoorQ27
import Derived.Test.YtgnjidopnplbbaaGreatDoorCards
import Derived.Test.YtgnjidopnplbbaaGreatDoorTie
import Derived.SevenTiedAt
import Derived.WitnessAt
/- The statement StreamDone. -/
set_option maxRecDepth 100000
namespace Go.Proofs.YtgnjidopnplbbaaGreatDoor
open Go Go.V Go.ChangeShapes Go.WideShapes Go.RowKit

theorem params12 : Tryz.f12.params = #[94] := by kernel_rfl

theorem lifted12 (os : Os) (started : os.Started) (H : Type) (enc : TypeId × Value → H) :
    ReturnsInHanded {} Tryz.checked os 12 .any (fun w args => (Rows.streamDoneSpec.pre enc Tryz.prog Tryz.f12 [] false w args ∧ laidMetH Tryz.prog laidL w) ∧ sizedMet enc Tryz.prog Tryz.f12 (OpenSpec.ofChange Rows.streamDoneSpec) false w args)
      (Rows.streamDoneSpec.post enc Tryz.prog Tryz.f12 false true false false) := by
  refine lifted c12_func c12_inits c12_res rfl (fun H ds hd => ?_) (fun t ht => ?_) (fun H enc W base args ds p hval hA => ?_) os started H enc
    (ChangeSpec.witness_at (enc := enc) (C := Tryz.checked) (os := os) (X := fun w _ => laidMetH Tryz.prog laidL w) false (laidWorld os) #[.agg #[.int .i64 0, .slice none 0 0]] 8 rfl (by kernel_rfl) (by kernel_rfl) (by kernel_rfl) (by kernel_rfl) (by kernel_rfl) (laidWorld_met os _))
  · rw [params12] at hd
    match ds, hd with
    | [d1], _ => rfl
  · rw [params12] at ht
    simp at ht
    subst ht
    exact sh_ty94
  · rw [params12] at hA hval
    obtain ⟨v0, d0, rfl, rfl, h0⟩ := trodAll_one hA
    obtain ⟨⟨N, l⟩, hl, _⟩ := arg_struct fo94 (by simp) pull_94 (hval 0 94 v0 rfl rfl) h0
    exact ⟨_, .cons hl (.nil _), done_ok N l⟩

theorem said12 : Rows.StreamDoneSaid :=
  OpenClaim.holds_of_wide 12 Tryz.f12 rfl rfl rfl rfl rfl rfl rfl ⟨rfl, rfl, rfl, rfl, rfl⟩ rfl rfl rfl rfl rfl c12_named c12_func c12_joined c12_inst c12_wrap
    (fun os started H enc _ => lifted12 os started H enc)

theorem stream_done : Rows.StreamDoneCardSaid :=
  Claim7.holds_tied_plain_at .later [] [.widerDeep] true (true, "66ee3c112570d5b17686b299e7ab907cfb9624d8e186bcd98f25cf8dcd7d4bef") false
    said12 (fun _ h => by cases h) c12_text (fun _ h => by cases h) streamDone_row_tie rfl ⟨rfl, rfl⟩ sh_main rfl
    (fun f fn hf hfn => by
      obtain rfl : f = 12 := Option.some.inj (c12_named.symm.trans hf) |>.symm
      obtain rfl : fn = Tryz.f12 := (Option.some.inj (c12_func.symm.trans hfn)).symm
      exact ⟨sh_looks, fun j t ht => by
        rw [params12] at ht
        match j, ht with
        | 0, ht => simp at ht; subst ht; exact sh_st94⟩)
    c12_goes
#print axioms stream_done
end Go.Proofs.YtgnjidopnplbbaaGreatDoor
