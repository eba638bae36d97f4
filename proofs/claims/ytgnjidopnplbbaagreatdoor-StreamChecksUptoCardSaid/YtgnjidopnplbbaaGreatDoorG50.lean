import Derived.Test.YtgnjidopnplbbaaGreatDoorG48
import Derived.Test.YtgnjidopnplbbaaGreatDoorG41
import Derived.Test.YtgnjidopnplbbaaGreatDoorG49
import Derived.Test.YtgnjidopnplbbaaGreatDoorCards
import Derived.Test.YtgnjidopnplbbaaGreatDoorTie
import Derived.SevenTiedAt
import Derived.WitnessAt
import Derived.Deep.DeepHandedRow
/- The statement StreamChecks, in its second form. -/
set_option maxRecDepth 100000
namespace Go.Proofs.YtgnjidopnplbbaaGreatDoor
open Go Go.V Go.ChangeShapes Go.WideShapes Go.RowKit

theorem params3 : Tryz.f3.params = #[22, 23] := by kernel_rfl
theorem sum_memC {α : Type} (f : α → Nat) : ∀ {l : List α} {x : α}, x ∈ l → f x ≤ (l.map f).sum
  | y :: l, x, h => by
    simp only [List.map_cons, List.sum_cons]
    rcases List.mem_cons.1 h with rfl | h
    · omega
    · have := sum_memC f h; omega

theorem checks_lifted (os : Os) (started : os.Started) (H : Type) (enc : TypeId × Value → H) (F : Stop.Interp) :
    ReturnsInHanded {} Tryz.checked os 3 .any ((Rows.OpenSpec.upto Rows.streamChecksSpec).preRow enc Tryz.prog Tryz.f3 [] false laidL) (((Rows.OpenSpec.upto Rows.streamChecksSpec).at F).post enc Tryz.prog Tryz.f3 false true false false) := by
  refine liftedU c3_func c3_inits c3_res rfl (fun H ds hd => ?_) (fun t ht => ?_) (fun H enc W base args ds p hval hbulk hA => ?_) os started H enc F #[.slice none 0 0, .slice none 0 0]
    (by kernel_rfl) (by kernel_rfl) (by kernel_rfl) ?_
  · rw [params3] at hd
    match ds, hd with
    | [d1, d2], _ => rfl
  · rw [params3] at ht
    simp at ht
    rcases ht with rfl | rfl
    · exact sh_ty22
    · exact sh_ty23
  · rw [params3] at hA hval
    obtain ⟨v0, v1, d0, d1, p0, p1, rfl, rfl, rfl, h0, h1⟩ := trodAll_two hA
    obtain ⟨ls, hls, hw0⟩ := arg_slice un22 pull_22 (hval 0 22 v0 rfl rfl) h0
    obtain ⟨out, hout, hw1⟩ := arg_slice un23 pull_23 (hval 1 23 v1 rfl rfl) h1
    have e : Rows.uptoBulkAll [d0, d1] = Rows.uptoBulk d0 + (Rows.uptoBulk d1 + 0) := by rw [Rows.uptoBulkAll, Rows.uptoBulkAll, Rows.uptoBulkAll]
    rw [e] at hbulk
    rw [← tcellL_eq] at hout
    rw [lsV_map] at hls
    have hs := sumL_bulk ls
    exact ⟨_, .cons hls (.cons hout (.nil _)), checks_ok ls out (by omega) (by omega) (fun l hl x hx => by
      have k1 := sum_memC T.bulk hx
      have k2 := sum_memC (fun l : List T => (l.map T.bulk).sum + 1) hl
      omega) (fun x hx => by
      have k1 := sum_memC T.bulk hx
      omega)⟩
  · have hx : ∃ places, DataW.whole enc Tryz.checked.prog ((laidWorld os).forCall (fun _ _ => 0) ⟨#[], #[.slice none 0 0, .slice none 0 0], []⟩).memory Tryz.f3.params.toList Rows.streamChecksSpec.vars false (#[.slice none 0 0, .slice none 0 0] : Array Value).toList 8 = some ([.nil, .nil], [], places) := ⟨[], by kernel_rfl⟩
    obtain ⟨places, hx⟩ := hx
    exact OpenSpec.preRow_of_cond 8 hx (by kernel_rfl) (fun k hk => by cases hk; kernel_rfl) (by kernel_rfl) (laidWorld_met os _)

theorem checks_said : Rows.StreamChecksUptoSaid :=
  OpenClaim.holds_of_cond 3 Tryz.f3 rfl rfl rfl rfl rfl rfl rfl ⟨rfl, rfl, rfl, rfl, rfl⟩ rfl rfl rfl rfl rfl c3_named c3_func c3_joined c3_inst c3_wrap
    (fun os started H enc _ F => by rw [OpenClaim.pre_eq_preRow]; exact checks_lifted os started H enc F)

theorem stream_checks : Rows.StreamChecksUptoCardSaid :=
  Claim7.holds_tied_plain_at .later [] [.widerDeep] true (true, "66ee3c112570d5b17686b299e7ab907cfb9624d8e186bcd98f25cf8dcd7d4bef") false
    checks_said (fun _ h => by cases h) c3_text (fun _ h => by cases h) streamChecksUpto_row_tie rfl ⟨rfl, rfl⟩ sh_main rfl
    (fun f fn hf hfn => by
      obtain rfl : f = 3 := Option.some.inj (c3_named.symm.trans hf) |>.symm
      obtain rfl : fn = Tryz.f3 := (Option.some.inj (c3_func.symm.trans hfn)).symm
      exact ⟨sh_looks, fun j t ht => by
        rw [params3] at ht
        match j, ht with
        | 0, ht => simp at ht; subst ht; exact sh_st22
        | 1, ht => simp at ht; subst ht; exact sh_st23⟩)
    c3_goes
#print axioms stream_checks
end Go.Proofs.YtgnjidopnplbbaaGreatDoor
