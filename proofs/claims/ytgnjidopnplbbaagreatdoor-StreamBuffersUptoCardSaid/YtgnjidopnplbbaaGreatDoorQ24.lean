import Derived.Test.YtgnjidopnplbbaaGreatDoorQ20
import Derived.Test.YtgnjidopnplbbaaGreatDoorQ21
import Derived.Test.YtgnjidopnplbbaaGreatDoorQ23
import Derived.Test.YtgnjidopnplbbaaGreatDoorCards
import Derived.Test.YtgnjidopnplbbaaGreatDoorTie
import Derived.SevenTiedAt
import Derived.WitnessAt
import Derived.Deep.DeepHandedRow
/- The statement StreamBuffers, in its second form. -/
set_option maxRecDepth 100000
namespace Go.Proofs.YtgnjidopnplbbaaGreatDoor
open Go Go.V Go.ChangeShapes Go.WideShapes Go.RowKit

theorem params6 : Tryz.f6.params = #[3, 32] := by kernel_rfl
theorem laidSame : Rows.streamBuffersUptoRow.laid = laidL := rfl

theorem buffers_lifted (os : Os) (started : os.Started) (H : Type) (enc : TypeId × Value → H) (F : Stop.Interp) :
    ReturnsInHanded {} Tryz.checked os 6 .any ((Rows.OpenSpec.upto Rows.streamBuffersSpec).preRow enc Tryz.prog Tryz.f6 [] false laidL) (((Rows.OpenSpec.upto Rows.streamBuffersSpec).at F).post enc Tryz.prog Tryz.f6 false true false false) := by
  refine liftedU c6_func c6_inits c6_res rfl (fun H ds hd => ?_) (fun t ht => ?_) (fun H enc W base args ds p hval hbulk hA => ?_) os started H enc F #[.int .i64 0, .slice none 0 0]
    (by kernel_rfl) (by kernel_rfl) (by kernel_rfl) ?_
  · rw [params6] at hd
    match ds, hd with
    | [d1, d2], _ => rfl
  · rw [params6] at ht
    simp at ht
    rcases ht with rfl | rfl
    · exact sh_ty3
    · exact sh_ty32
  · rw [params6] at hA hval
    obtain ⟨v0, v1, d0, d1, p0, p1, rfl, rfl, rfl, h0, h1⟩ := trodAll_two hA
    obtain ⟨n, hn⟩ := arg_int un3 (hval 0 3 v0 rfl rfl) h0
    obtain ⟨l, hl, hw⟩ := arg_slice un32 pull_32 (hval 1 32 v1 rfl rfl) h1
    have e : Rows.uptoBulkAll [d0, d1] = Rows.uptoBulk d0 + (Rows.uptoBulk d1 + 0) := by rw [Rows.uptoBulkAll, Rows.uptoBulkAll, Rows.uptoBulkAll]
    rw [e] at hbulk
    exact ⟨_, .cons hn (.cons hl (.nil _)), buffers_ok n l fun c hc => by
      have := sum_mem (fun c : Came => c.t.bulk) hc
      omega⟩
  · have hx : ∃ places, DataW.whole enc Tryz.checked.prog ((laidWorld os).forCall (fun _ _ => 0) ⟨#[], #[.int .i64 0, .slice none 0 0], []⟩).memory Tryz.f6.params.toList Rows.streamBuffersSpec.vars false (#[.int .i64 0, .slice none 0 0] : Array Value).toList 8 = some ([.lit (.int .i64 0), .nil], [], places) := ⟨[], by kernel_rfl⟩
    obtain ⟨places, hx⟩ := hx
    exact OpenSpec.preRow_of_cond 8 hx (by kernel_rfl) (fun k hk => by cases hk; kernel_rfl) (by kernel_rfl) (laidWorld_met os _)

theorem buffers_said : Rows.StreamBuffersUptoSaid :=
  OpenClaim.holds_of_cond 6 Tryz.f6 rfl rfl rfl rfl rfl rfl rfl ⟨rfl, rfl, rfl, rfl, rfl⟩ rfl rfl rfl rfl rfl c6_named c6_func c6_joined c6_inst c6_wrap
    (fun os started H enc _ F => by rw [OpenClaim.pre_eq_preRow]; exact buffers_lifted os started H enc F)

theorem stream_buffers : Rows.StreamBuffersUptoCardSaid :=
  Claim7.holds_tied_plain_at .later [] [.widerDeep] true (true, "66ee3c112570d5b17686b299e7ab907cfb9624d8e186bcd98f25cf8dcd7d4bef") false
    buffers_said (fun _ h => by cases h) c6_text (fun _ h => by cases h) streamBuffersUpto_row_tie rfl ⟨rfl, rfl⟩ sh_main rfl
    (fun f fn hf hfn => by
      obtain rfl : f = 6 := Option.some.inj (c6_named.symm.trans hf) |>.symm
      obtain rfl : fn = Tryz.f6 := (Option.some.inj (c6_func.symm.trans hfn)).symm
      exact ⟨sh_looks, fun j t ht => by
        rw [params6] at ht
        match j, ht with
        | 0, ht => simp at ht; subst ht; exact sh_st3
        | 1, ht => simp at ht; subst ht; exact sh_st32⟩)
    c6_goes
#print axioms stream_buffers
end Go.Proofs.YtgnjidopnplbbaaGreatDoor
