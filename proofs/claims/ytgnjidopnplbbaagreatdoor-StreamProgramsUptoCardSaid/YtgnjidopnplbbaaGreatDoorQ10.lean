/- A part of the proof of the statement S8 (texts brought together and shortened by a program of this work). -/
import Derived.Test.YtgnjidopnplbbaaGreatDoorQ9
set_option maxRecDepth 1000000
namespace Go.V
theorem zM3 (B:Nat) (w0:World):zHD (EV B w0 G1) zHI T0 300 200 (.fn 214) zLS zJZ (zLP (.bool true))=true:=by kernel_rfl
theorem zM4 (B:Nat) (w0:World):zHD (EV B w0 G1) zHI T0 300 200 (.fn 214) zLT zJZ (zLP (.bool true))=true:=by kernel_rfl
theorem zM5 (B:Nat) (w0:World):zHD (EV B w0 G1) zHI T0 300 200 (.fn 214) zLU zJZ (zLP (.bool true))=true:=by kernel_rfl
theorem zM6 (B:Nat) (w0:World):zHD (EV B w0 G1) zHI T0 300 200 (.fn 214) zLV zJZ (zLP (.bool true))=true:=by kernel_rfl
theorem zM7 (B:Nat) (w0:World):zHD (EV B w0 G1) zHI T0 300 200 (.fn 214) zLW zJZ (zLP (.bool true))=true:=by kernel_rfl
theorem zM8 (B:Nat) (w0:World):zHD (EV B w0 G1) zHI T0 300 200 (.fn 214) zLX zJZ (zLP (.bool true))=true:=by kernel_rfl
theorem zM9 (B:Nat) (w0:World):zHD (EV B w0 G1) zHI T0 300 200 (.fn 214) zLY zJZ (zLP (.bool true))=true:=by kernel_rfl
theorem zMA (B:Nat) (w0:World):zHD (EV B w0 G1) zHI T0 300 200 (.fn 69) [.int .i64 2] zJZ (zLP prog2)=true:=by kernel_rfl
theorem zMB (B:Nat) (w0:World):zHD (EV B w0 G1) zHI T0 300 200 (.fn 18) args18 zJZ (zLP res18)=true:=by kernel_rfl
theorem a66_runs (B:Nat) (w0:World):zHD (EV B w0 G1) zHI T0 300 200 (.fn 66) [at1 97] zJZ (zLP (.int .i64 0))=true:=by kernel_rfl
theorem b66_runs (B:Nat) (w0:World):zHD (EV B w0 G1) zHI T0 300 200 (.fn 66) [at1 98] zJZ (zLP (.int .i64 0))=true:=by kernel_rfl
theorem c66_runs (B:Nat) (w0:World):zHD (EV B w0 G1) zHI T0 300 200 (.fn 66) [at1 99] zJZ (zLP (.int .i64 0))=true:=by kernel_rfl

theorem pure214 (B:Nat) (w0:World):zGR (EV B w0 G1) (zLO 214 zLZ):=zLQ zLR fun p hp=>by
 simp only [zLZ,List.mem_cons,List.not_mem_nil,or_false] at hp
 rcases hp with rfl | rfl | rfl | rfl | rfl | rfl | rfl
 ·exact ⟨by kernel_rfl,rfl,zM1 (zM2 B w0) (zM3 B w0)⟩
 ·exact ⟨by kernel_rfl,rfl,zM1 (zM2 B w0) (zM4 B w0)⟩
 ·exact ⟨by kernel_rfl,rfl,zM1 (zM2 B w0) (zM5 B w0)⟩
 ·exact ⟨by kernel_rfl,rfl,zM1 (zM2 B w0) (zM6 B w0)⟩
 ·exact ⟨by kernel_rfl,rfl,zM1 (zM2 B w0) (zM7 B w0)⟩
 ·exact ⟨by kernel_rfl,rfl,zM1 (zM2 B w0) (zM8 B w0)⟩
 ·exact ⟨by kernel_rfl,rfl,zM1 (zM2 B w0) (zM9 B w0)⟩
theorem pure69 (B:Nat) (w0:World):zGR (EV B w0 G1) (zLO 69 tab69):=zLQ zLR fun p hp=>by
 simp only [tab69,List.mem_cons,List.not_mem_nil,or_false] at hp
 subst hp
 exact ⟨by kernel_rfl,by kernel_rfl,zM1 (zM2 B w0) (zMA B w0)⟩
theorem pure18 (B:Nat) (w0:World):zGR (EV B w0 G1) (zLO 18 tab18):=zLQ zLR fun p hp=>by
 simp only [tab18,List.mem_cons,List.not_mem_nil,or_false] at hp
 subst hp
 exact ⟨by kernel_rfl,by kernel_rfl,zM1 (zM2 B w0) (zMB B w0)⟩
theorem pure66 (B:Nat) (w0:World):zGR (EV B w0 G1) (zLO 66 tab66):=zLQ zLR fun p hp=>by
 simp only [tab66,List.mem_cons,List.not_mem_nil,or_false] at hp
 rcases hp with rfl | rfl | rfl
 ·exact ⟨by kernel_rfl,rfl,zM1 (zM2 B w0) (a66_runs B w0)⟩
 ·exact ⟨by kernel_rfl,rfl,zM1 (zM2 B w0) (b66_runs B w0)⟩
 ·exact ⟨by kernel_rfl,rfl,zM1 (zM2 B w0) (c66_runs B w0)⟩
theorem T1_ok (B:Nat) (w0:World):∀ f h,T1 f=some h->zGR (EV B w0 G1) h:=fun f h e=>zM0 (fun p hp h e=>by
 simp only [List.mem_cons,List.not_mem_nil,or_false] at hp
 rcases hp with rfl | rfl | rfl
 ·cases e; exact zLN
 ·cases e; exact pure214 B w0
 ·cases e; exact pure69 B w0) e
end Go.V
