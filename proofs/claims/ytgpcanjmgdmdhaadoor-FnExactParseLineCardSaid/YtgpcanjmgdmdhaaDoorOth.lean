/-
  OTHER LAWS, OF MY OWN: a number's minus, the text of a sliced row, structures compared. Over any program. No condition.
-/
import Derived.Test.YtgpcanjmgdmdhaaDoorDef
import Derived.Laws.StructEq
import Derived.ChangeKeysEq
namespace Go.Eng
set_option linter.unusedVariables false
set_option linter.unusedSimpArgs false
section
variable {P : Program} {n : Nat} {k : List It} {Qf : Exit → Act → World → Prop} {ρ : Fr} {ds : List Deferred} {w : World} {ops : Array Oper} {rest : List Oper} {d : Option Nat} {ty : TypeId} {pos : String} {af : Array Edge}
theorem ng {x : Operand} {t : TypeId} {kd : IntKind} {a : Int} (c : Int) (hx : ev ρ x = .int kd a) (hc : kd.wrap (-a) = c) : Rn P ρ ⟨d, .unOp .neg t x, ty, pos, af, none⟩ w (.int kd c) :=
  ⟨rfl, fun w' _ => by simp [execOp, hx, Op.unary, Op.intArith, hc]⟩
theorem cvbss (l u : Nat) {F : List Nat} {v : Value} {xs ys : List Int} {s t e : TypeId} {x : Operand} (hs : P.underlying s = some (.slice e)) (he : P.underlying e = some (.int .u8)) (ht : P.underlying t = some .string) (hR : (Kd.int .u8).R w F v xs) (hx : ev ρ x = slv v l u 1) (hl : l ≤ u) (hu : u ≤ xs.length) (hy : (xs.take u).drop l = ys) :
    Rn P ρ ⟨d, .convert s t x, ty, pos, af, none⟩ w (.string (mkS ys)) := by
  obtain ⟨F', _, h⟩ := Kd.R.sl hR l u hl hu
  rw [hy] at h
  exact cvbs hs he ht h hx
theorem sqe {t u : TypeId} {x y : Operand} {xs ys : Array Value} {b : Bool} (hn : P.eqGuardType P.depth t = false) (he : ∀ w, (Op.equalIn 10000 t (.agg xs) (.agg ys)).run P w = .ok b w) (hx : ev ρ x = .agg xs) (hy : ev ρ y = .agg ys) : Rn P ρ ⟨d, .binOp .eql t x y u, ty, pos, af, none⟩ w (.bool b) := by
  refine ⟨rfl, fun w' _ => ?_⟩
  simp only [execOp, hx, hy, Sem.run_bind, run_eqGuard_agg w' .eql t _ _ _ _ hn, Result.andThen_ok, run_eql_struct, he, Sem.run_pure]
theorem sqn {t u : TypeId} {x y : Operand} {xs ys : Array Value} {b : Bool} (hn : P.eqGuardType P.depth t = false) (he : ∀ w, (Op.equalIn 10000 t (.agg xs) (.agg ys)).run P w = .ok b w) (hx : ev ρ x = .agg xs) (hy : ev ρ y = .agg ys) : Rn P ρ ⟨d, .binOp .neq t x y u, ty, pos, af, none⟩ w (.bool (!b)) := by
  refine ⟨rfl, fun w' _ => ?_⟩
  simp only [execOp, hx, hy, Sem.run_bind, run_eqGuard_agg w' .neq t _ _ _ _ hn, Result.andThen_ok, run_neq_struct, he, Sem.run_pure]
theorem eqf {f : Field} {fs : List Field} {dd : Nat} {k k' : IntKind} {a b : Int} {xs ys : Array Value} (hn : (f.name == "_") = false) (hp : P.plainKey f.type = true) (hu : P.underlying f.type = some (.int k)) (hx : xs[f.offset]? = some (.int k' a)) (hy : ys[f.offset]? = some (.int k' b)) :
    (Op.eqFields (dd + 1) xs ys (f :: fs)).run P w = if a = b then (Op.eqFields (dd + 1) xs ys fs).run P w else .ok false w := by
  have hn' : f.name ≠ "_" := by simpa using hn
  have h1 := run_part_plain (P := P) (w := w) hp hx
  have h2 := run_part_plain (P := P) (w := w) hp hy
  simp only [Op.eqFields, hn', ne_eq, not_false_eq_true, if_true, Sem.run_bind, h1, h2, Result.andThen_ok, run_equalIn_int w dd f.type k' k a b hu]
  by_cases h : a = b
  · simp [h]
  · simp [h]
theorem nums8_app (a b : ByteArray) : nums8 (a ++ b) = nums8 a ++ nums8 b := by simp [nums8]
theorem mix_nums {xs ys : List Int} (hx : ok8 xs) (hy : ok8 ys) : nums8 (mkS xs ++ mkS ys) = xs ++ ys := by rw [nums8_app, nums8_mkS hx, nums8_mkS hy]
end
end Go.Eng
