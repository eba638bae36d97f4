import Derived.Test.YtgnjidopnplbbaaGreatDoorG10
/- The examples of the chapter hold. -/
set_option maxRecDepth 1000000
namespace Go.V
theorem args75_runs (B:Nat) (w0:World):callB (EV B w0 G1) annA T1 300 200 (.fn 75) args75 noObj (cameB query2) = true:=by kernel_rfl
theorem pure75 (B:Nat) (w0:World):HBOk (EV B w0 G1) (pureB 75 tab75):=pureB_ok G1_noId fun p hp => by
 simp only [tab75,List.mem_cons,List.not_mem_nil,or_false] at hp
 subst hp
 exact ⟨by kernel_rfl,by kernel_rfl,run_ok (T1_ok B w0) (args75_runs B w0)⟩
theorem T3_ok (B:Nat) (w0:World):∀ f h,T3 f = some h -> HBOk (EV B w0 G1) h:=fun f h e => luk_ok (fun p hp h e => by
 simp only [List.mem_cons,List.not_mem_nil,or_false] at hp
 rcases hp with rfl | rfl | rfl | rfl
 ·cases e; exact fixedB_ok
 ·cases e; exact pure75 B w0
 ·cases e; exact pure18 B w0
 ·cases e; exact pure66 B w0) e
theorem sane_runs (B:Nat) (w0:World):callB (EV B w0 G1) annA T3 300 200 (.fn 16) [] noObj (cameB (.bool true)) = true:=by kernel_rfl

theorem sane_ok (B:Nat) (w0:World) {σ:State} {Q:AV -> State -> Prop} (hQ:Q (.bool true) σ.untok):ACalls (EV B w0 G1) 16 [] σ Q:=by
 refine ACalls.pureD 60 G1_noId (by simp) (run_ok (T3_ok B w0) (sane_runs B w0)) fun v σ' k => ?_
 unfold cameB at k
 split at k
 ·rename_i v' hv'
  have:=AV.same_ok _ _ k
  subst this
  exact ⟨_,_,hv',.refl _,.bool true,hQ⟩
 ·cases k
end Go.V
