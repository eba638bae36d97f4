import Derived.Test.YtgnjidopnplbbaaGreatDoorG9
/- Entries of the tables: the clauses of the merging program. -/
set_option maxRecDepth 1000000
namespace Go.V
theorem clause0_runs (B:Nat) (w0:World):callB (EV B w0 G1) annA T0 300 200 (.fn 214) clause0 noObj (cameB (.bool true)) = true:=by kernel_rfl
theorem clause1_runs (B:Nat) (w0:World):callB (EV B w0 G1) annA T0 300 200 (.fn 214) clause1 noObj (cameB (.bool true)) = true:=by kernel_rfl
theorem clause2_runs (B:Nat) (w0:World):callB (EV B w0 G1) annA T0 300 200 (.fn 214) clause2 noObj (cameB (.bool true)) = true:=by kernel_rfl
theorem clause3_runs (B:Nat) (w0:World):callB (EV B w0 G1) annA T0 300 200 (.fn 214) clause3 noObj (cameB (.bool true)) = true:=by kernel_rfl
theorem clause4_runs (B:Nat) (w0:World):callB (EV B w0 G1) annA T0 300 200 (.fn 214) clause4 noObj (cameB (.bool true)) = true:=by kernel_rfl
theorem clause5_runs (B:Nat) (w0:World):callB (EV B w0 G1) annA T0 300 200 (.fn 214) clause5 noObj (cameB (.bool true)) = true:=by kernel_rfl
theorem clause6_runs (B:Nat) (w0:World):callB (EV B w0 G1) annA T0 300 200 (.fn 214) clause6 noObj (cameB (.bool true)) = true:=by kernel_rfl
theorem prog2_runs (B:Nat) (w0:World):callB (EV B w0 G1) annA T0 300 200 (.fn 69) [.int .i64 2] noObj (cameB prog2) = true:=by kernel_rfl
theorem args18_runs (B:Nat) (w0:World):callB (EV B w0 G1) annA T0 300 200 (.fn 18) args18 noObj (cameB res18) = true:=by kernel_rfl
theorem a66_runs (B:Nat) (w0:World):callB (EV B w0 G1) annA T0 300 200 (.fn 66) [at1 97] noObj (cameB (.int .i64 0)) = true:=by kernel_rfl
theorem b66_runs (B:Nat) (w0:World):callB (EV B w0 G1) annA T0 300 200 (.fn 66) [at1 98] noObj (cameB (.int .i64 0)) = true:=by kernel_rfl
theorem c66_runs (B:Nat) (w0:World):callB (EV B w0 G1) annA T0 300 200 (.fn 66) [at1 99] noObj (cameB (.int .i64 0)) = true:=by kernel_rfl

theorem pure214 (B:Nat) (w0:World):HBOk (EV B w0 G1) (pureB 214 tab214):=pureB_ok G1_noId fun p hp => by
 simp only [tab214,List.mem_cons,List.not_mem_nil,or_false] at hp
 rcases hp with rfl | rfl | rfl | rfl | rfl | rfl | rfl
 ·exact ⟨by kernel_rfl,rfl,run_ok (T0_ok B w0) (clause0_runs B w0)⟩
 ·exact ⟨by kernel_rfl,rfl,run_ok (T0_ok B w0) (clause1_runs B w0)⟩
 ·exact ⟨by kernel_rfl,rfl,run_ok (T0_ok B w0) (clause2_runs B w0)⟩
 ·exact ⟨by kernel_rfl,rfl,run_ok (T0_ok B w0) (clause3_runs B w0)⟩
 ·exact ⟨by kernel_rfl,rfl,run_ok (T0_ok B w0) (clause4_runs B w0)⟩
 ·exact ⟨by kernel_rfl,rfl,run_ok (T0_ok B w0) (clause5_runs B w0)⟩
 ·exact ⟨by kernel_rfl,rfl,run_ok (T0_ok B w0) (clause6_runs B w0)⟩
theorem pure69 (B:Nat) (w0:World):HBOk (EV B w0 G1) (pureB 69 tab69):=pureB_ok G1_noId fun p hp => by
 simp only [tab69,List.mem_cons,List.not_mem_nil,or_false] at hp
 subst hp
 exact ⟨by kernel_rfl,by kernel_rfl,run_ok (T0_ok B w0) (prog2_runs B w0)⟩
theorem pure18 (B:Nat) (w0:World):HBOk (EV B w0 G1) (pureB 18 tab18):=pureB_ok G1_noId fun p hp => by
 simp only [tab18,List.mem_cons,List.not_mem_nil,or_false] at hp
 subst hp
 exact ⟨by kernel_rfl,by kernel_rfl,run_ok (T0_ok B w0) (args18_runs B w0)⟩
theorem pure66 (B:Nat) (w0:World):HBOk (EV B w0 G1) (pureB 66 tab66):=pureB_ok G1_noId fun p hp => by
 simp only [tab66,List.mem_cons,List.not_mem_nil,or_false] at hp
 rcases hp with rfl | rfl | rfl
 ·exact ⟨by kernel_rfl,rfl,run_ok (T0_ok B w0) (a66_runs B w0)⟩
 ·exact ⟨by kernel_rfl,rfl,run_ok (T0_ok B w0) (b66_runs B w0)⟩
 ·exact ⟨by kernel_rfl,rfl,run_ok (T0_ok B w0) (c66_runs B w0)⟩
theorem T1_ok (B:Nat) (w0:World):∀ f h,T1 f = some h -> HBOk (EV B w0 G1) h:=fun f h e => luk_ok (fun p hp h e => by
 simp only [List.mem_cons,List.not_mem_nil,or_false] at hp
 rcases hp with rfl | rfl | rfl
 ·cases e; exact fixedB_ok
 ·cases e; exact pure214 B w0
 ·cases e; exact pure69 B w0) e
end Go.V
