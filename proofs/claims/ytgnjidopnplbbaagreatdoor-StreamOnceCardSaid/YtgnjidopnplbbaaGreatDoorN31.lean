import Derived.Test.YtgnjidopnplbbaaGreatDoorN29
import Derived.Test.YtgnjidopnplbbaaGreatDoorN26
import Derived.Test.YtgnjidopnplbbaaGreatDoorN30
import Derived.Test.YtgnjidopnplbbaaGreatDoorCards
import Derived.Test.YtgnjidopnplbbaaGreatDoorTie
import Derived.SevenTiedAt
import Derived.WitnessAt
/- The statement StreamOnce. -/
set_option maxRecDepth 100000
namespace Go.Proofs.YtgnjidopnplbbaaGreatDoor
open Go Go.V Go.ChangeShapes Go.WideShapes Go.RowKit

theorem params10 : Tryz.f10.params = #[94] := by kernel_rfl

theorem lifted10 (os : Os) (started : os.Started) (H : Type) (enc : TypeId × Value → H) :
    ReturnsInHanded {} Tryz.checked os 10 .any (fun w args => (Rows.streamOnceSpec.pre enc Tryz.prog Tryz.f10 [] false w args ∧ laidMetH Tryz.prog laidL w) ∧ sizedMet enc Tryz.prog Tryz.f10 (OpenSpec.ofChange Rows.streamOnceSpec) false w args)
      (Rows.streamOnceSpec.post enc Tryz.prog Tryz.f10 false true false false) := by
  refine lifted c10_func c10_inits c10_res rfl (fun H ds hd => ?_) (fun t ht => ?_) (fun H enc W base args ds p hval hA => ?_) os started H enc
    (ChangeSpec.witness_at (enc := enc) (C := Tryz.checked) (os := os) (X := fun w _ => laidMetH Tryz.prog laidL w) false (laidWorld os) #[.agg #[.int .i64 0, .slice none 0 0]] 8 rfl (by kernel_rfl) (by kernel_rfl) (by kernel_rfl) (by kernel_rfl) (by kernel_rfl) (laidWorld_met os _))
  · rw [params10] at hd
    match ds, hd with
    | [d1], _ => rfl
  · rw [params10] at ht
    simp at ht
    subst ht
    exact sh_ty94
  · rw [params10] at hA hval
    obtain ⟨v0, d0, rfl, rfl, h0⟩ := trodAll_one hA
    obtain ⟨⟨N, l⟩, hl, _⟩ := arg_struct fo94 (by simp) pull_94 (hval 0 94 v0 rfl rfl) h0
    exact ⟨_, .cons hl (.nil _), once_ok N l⟩

theorem said10 : Rows.StreamOnceSaid :=
  OpenClaim.holds_of_wide 10 Tryz.f10 rfl rfl rfl rfl rfl rfl rfl ⟨rfl, rfl, rfl, rfl, rfl⟩ rfl rfl rfl rfl rfl c10_named c10_func c10_joined c10_inst c10_wrap
    (fun os started H enc _ => lifted10 os started H enc)

theorem stream_once : Rows.StreamOnceCardSaid :=
  Claim7.holds_tied_plain_at .later [] [.widerDeep] true (true, "66ee3c112570d5b17686b299e7ab907cfb9624d8e186bcd98f25cf8dcd7d4bef") false
    said10 (fun _ h => by cases h) c10_text (fun _ h => by cases h) streamOnce_row_tie rfl ⟨rfl, rfl⟩ sh_main rfl
    (fun f fn hf hfn => by
      obtain rfl : f = 10 := Option.some.inj (c10_named.symm.trans hf) |>.symm
      obtain rfl : fn = Tryz.f10 := (Option.some.inj (c10_func.symm.trans hfn)).symm
      exact ⟨sh_looks, fun j t ht => by
        rw [params10] at ht
        match j, ht with
        | 0, ht => simp at ht; subst ht; exact sh_st94⟩)
    c10_goes
#print axioms stream_once
end Go.Proofs.YtgnjidopnplbbaaGreatDoor
