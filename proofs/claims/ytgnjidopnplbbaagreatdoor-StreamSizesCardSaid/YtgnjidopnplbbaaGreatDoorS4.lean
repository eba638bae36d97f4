/- The statement StreamSizes. -/
import Derived.Test.YtgnjidopnplbbaaGreatDoorB5
import Derived.Test.YtgnjidopnplbbaaGreatDoorL2
import Derived.Test.YtgnjidopnplbbaaGreatDoorC4
import Derived.Test.YtgnjidopnplbbaaGreatDoorCards
import Derived.Test.YtgnjidopnplbbaaGreatDoorTie
import Derived.SevenTiedAt
import Derived.WitnessAt
set_option maxRecDepth 100000
namespace Go.Proofs.YtgnjidopnplbbaaGreatDoor
open Go Go.V Go.ChangeShapes Go.WideShapes Go.RowKit

theorem pull_39 {H : Type} {enc : TypeId × Value → H} {W : World} {sp : Nat → Bool} {held : Bool} (n : Nat) : Pull enc Tryz.prog W sp held n 39 cc := by
  cases n with
  | zero => exact pull_zero
  | succ n => exact pull_map (pull_struct fo39 (by simp) co39 (pullF_cons co4 (pull_bool un4) (pullF_cons co37 (pull_37 n) pullF_nil))) (fun x => Came.mk x.1 x.2.1) fun x => by simp [cc]
theorem pull_32 {H : Type} {enc : TypeId × Value → H} {W : World} {sp : Nat → Bool} {held : Bool} (n : Nat) : Pull enc Tryz.prog W sp held n 32 (fun l : List Came => [.slice 5 (cameL l) .any]) := by
  cases n with
  | zero => exact pull_zero
  | succ n => exact pull_slice un32 co39 (by omega) (fun a => rfl) (fun a => rfl) (fun a => rfl) (pull_39 n)

theorem params4 : Tryz.f4.params = #[3, 3, 32] := by kernel_rfl

theorem sizes_lifted (os : Os) (started : os.Started) (H : Type) (enc : TypeId × Value → H) :
    ReturnsInHanded {} Tryz.checked os 4 .any (fun w args => (Rows.streamSizesSpec.pre enc Tryz.prog Tryz.f4 [] false w args ∧ laidMetH Tryz.prog laidL w) ∧ sizedMet enc Tryz.prog Tryz.f4 (OpenSpec.ofChange Rows.streamSizesSpec) false w args)
      (Rows.streamSizesSpec.post enc Tryz.prog Tryz.f4 false true false false) := by
  refine lifted c4_func c4_inits c4_res rfl (fun H ds hd => ?_) (fun t ht => ?_) (fun H enc W base args ds p hval hA => ?_) os started H enc
    (ChangeSpec.witness_at (enc := enc) (C := Tryz.checked) (os := os) (X := fun w _ => laidMetH Tryz.prog laidL w) false (laidWorld os) #[.int .i64 0, .int .i64 0, .slice none 0 0] 8 rfl (by kernel_rfl) (by kernel_rfl) (by kernel_rfl) (by kernel_rfl) (by kernel_rfl) (laidWorld_met os _))
  · rw [params4] at hd
    match ds, hd with
    | [d1, d2, d3], _ => rfl
  · rw [params4] at ht
    simp at ht
    rcases ht with rfl | rfl
    · exact sh_ty3
    · exact sh_ty32
  · rw [params4] at hA hval
    obtain ⟨v0, v1, v2, d0, d1, d2, p0, p1, p2, rfl, rfl, rfl, h0, h1, h2⟩ := trodAll_three hA
    obtain ⟨m, hm⟩ := arg_int un3 (hval 0 3 v0 rfl rfl) h0
    obtain ⟨n, hn⟩ := arg_int un3 (hval 1 3 v1 rfl rfl) h1
    obtain ⟨l, hl⟩ := arg_slice un32 pull_32 (hval 2 32 v2 rfl rfl) h2
    exact ⟨_, .cons hm (.cons hn (.cons hl (.nil _))), sizes_ok m n l⟩

theorem sizes_said : Rows.StreamSizesSaid :=
  OpenClaim.holds_of_wide 4 Tryz.f4 rfl rfl rfl rfl rfl rfl rfl ⟨rfl, rfl, rfl, rfl, rfl⟩ rfl rfl rfl rfl rfl c4_named c4_func c4_joined c4_inst c4_wrap
    (fun os started H enc _ => sizes_lifted os started H enc)

theorem stream_sizes : Rows.StreamSizesCardSaid :=
  Claim7.holds_tied_plain_at .later [] [.widerDeep] true (true, "66ee3c112570d5b17686b299e7ab907cfb9624d8e186bcd98f25cf8dcd7d4bef") false
    sizes_said (fun _ h => by cases h) c4_text (fun _ h => by cases h) streamSizes_row_tie rfl ⟨rfl, rfl⟩ sh_main rfl
    (fun f fn hf hfn => by
      obtain rfl : f = 4 := Option.some.inj (c4_named.symm.trans hf) |>.symm
      obtain rfl : fn = Tryz.f4 := (Option.some.inj (c4_func.symm.trans hfn)).symm
      exact ⟨sh_looks, fun j t ht => by
        rw [params4] at ht
        match j, ht with
        | 0, ht => simp at ht; subst ht; exact sh_st3
        | 1, ht => simp at ht; subst ht; exact sh_st3
        | 2, ht => simp at ht; subst ht; exact sh_st32⟩)
    c4_goes
#print axioms stream_sizes
end Go.Proofs.YtgnjidopnplbbaaGreatDoor
