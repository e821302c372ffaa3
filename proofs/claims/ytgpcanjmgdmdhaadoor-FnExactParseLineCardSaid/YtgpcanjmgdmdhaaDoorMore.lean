/-
  FURTHER LAWS, OF MY OWN: a field out of a value. Over any program. No condition.
-/
import Derived.Test.YtgpcanjmgdmdhaaDoorNest
namespace Go.Eng
set_option linter.unusedVariables false
set_option linter.unusedSimpArgs false
section
variable {P : Program} {n : Nat} {k : List It} {Qf : Exit → Act → World → Prop} {ρ : Fr} {ds : List Deferred} {w : World}
variable {ops : Array Oper} {rest : List Oper} {d : Option Nat} {ty : TypeId} {pos : String} {af : Array Edge}
/-- A field of one cell, out of a value. -/
theorem fld {s : TypeId} {x : Operand} {j : Nat} {cs : Array Value} {v : Value} {fs : Array Field} {f : Field} {D : TypeDesc} (hs : P.underlying s = some (.struct fs)) (hf : fs[j]? = some f) (hu : P.underlying f.type = some D) (hD : aggD D = false) (hx : ev ρ x = .agg cs) (hc : cs[f.offset]? = some v) : Rn P ρ ⟨d, .field s x j, ty, pos, af, none⟩ w v := by
  refine ⟨rfl, fun w' _ => ?_⟩
  cases D <;> simp [aggD] at hD <;> simp [execOp, hx, Instr.field, run_underlying hs, hf, asAgg, part, isAgg, run_underlying hu, hc]
end
end Go.Eng
