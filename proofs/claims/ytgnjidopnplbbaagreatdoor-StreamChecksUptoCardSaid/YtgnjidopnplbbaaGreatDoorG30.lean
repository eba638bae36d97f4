import Derived.Test.YtgnjidopnplbbaaGreatDoorG29
/- Conditions: the reference's New, Split, over values. -/
set_option maxRecDepth 1000000
set_option linter.unusedVariables false
namespace Go.V
open Go Go.Proofs

def z4:List AV:=[.nilslice,.nilslice,.int .i64 0,.int .i64 0]
end Go.V
/- The reference's New, Split, over values. -/
set_option linter.unusedSimpArgs false
set_option linter.unusedSectionVars false
namespace Go.V
open Go Go.Proofs

def OvAt (c:MH) (r:MRole) (v:AV) (l:List Nat):Prop:=(v = .slice 1 [] .full /\ l = []) \/ ∃ (id:Nat) (g:Bool),v = .rslice id 0 l.length /\ c r = some (id,.cells (intsV l) 3 1 g)
theorem OvAt.one {c:MH} {r:MRole} {v:AV} {l:List Nat} (h:OvAt c r v l):v.one = true:=by
 rcases h with ⟨rfl,_⟩ | ⟨id,g,rfl,_⟩ <;> rfl
theorem OvAt.congr {c c':MH} {r:MRole} {v:AV} {l:List Nat} (h:OvAt c r v l) (hc:c' r = c r):OvAt c' r v l:=by
 rcases h with h | ⟨id,g,h1,h2⟩
 ·exact .inl h
 ·exact .inr ⟨id,g,h1,hc.trans h2⟩
theorem OvAt.deep {c:MH} {σ:State} {r:MRole} {v:AV} {l:List Nat} (hA:At c σ) (h:OvAt c r v l) (n:Nat):∃ v',deep Tryz.prog σ (n + 2) v = some v' /\ Wk v' (.slice 1 (intsV l) .any):=by
 rcases h with ⟨rfl,rfl⟩ | ⟨id,g,rfl,h⟩
 ·exact ⟨.slice 1 [] .full,rfl,Wk.slice 1 _ _⟩
 ·exact deep_ints hA (.inr ⟨id,0,l.length,g,[],rfl,h,by simp,by rw [intsV_len]; omega⟩) n
section
variable {B:Nat} {w0:World} {G:Nat -> AV}
end
end Go.V
/- The reference's Split, over values. -/
namespace Go.V
open Go Go.Proofs

section
variable {B:Nat} {w0:World} {G:Nat -> AV}
end
end Go.V
