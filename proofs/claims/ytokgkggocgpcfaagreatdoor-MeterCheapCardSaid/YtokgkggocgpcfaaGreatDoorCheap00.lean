/- Short names of proofs by one tactic. -/
import Derived.KernelRfl
import GoSem.Step
theorem zE{P:Prop}(h:P:=by decide):P:=h
theorem zP{P:Prop}(h:P:=by omega):P:=h
theorem yW{P:Prop}(h:P:=by simp):P:=h
theorem xD{P:Prop}(h:P:=by kernel_rfl):P:=h
theorem xL{P:Prop}(h:P:=by simp;omega):P:=h
theorem xN{P:Prop}(h:P:=by intro e;cases e):P:=h
theorem xS{P:Prop}(h:P:=by simp[Region.wanted]):P:=h
theorem xT{P:Prop}(h:P:=by repeat first|exact trivial|refine⟨rfl,?_⟩):P:=h
