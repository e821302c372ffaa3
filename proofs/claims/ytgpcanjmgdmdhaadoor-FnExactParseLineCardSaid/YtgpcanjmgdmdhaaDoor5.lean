/-
  CONTRACTS 5: geometries and places; the law on Layout. No condition.
-/
import Derived.Test.YtgpcanjmgdmdhaaDoor4
namespace Go.Proofs.YtgpcanjmgdmdhaaDoor
open Go Go.Eng
set_option maxRecDepth 100000
set_option linter.unusedVariables false
/-- A geometry that is good. -/
abbrev geo (s b : Int) : Prop := 4 ≤ s ∧ s ≤ 64 ∧ 2 ≤ b ∧ b ≤ 16
theorem l2Blocks {w : World} {n : Int} (hn : 0 ≤ n ∧ n ≤ 1000000000) : Ret Tryd.prog 39 #[.int .i64 n] w (fun r w' => r = .int .i64 ((n + 63) / 64) ∧ Ch [] w w') := by
  refine enter Tryd.func39 rfl Tryd.ntmps39 (by rfl) (by rfl) ?_
  refine sq (rg (r (sa rfl) (re (sq (rg (r (sa rfl) (re (sq (bl ?_)))))))))
  refine lp (α := Nat) (fun k ρ w' => ρ 0 = .int .i64 n ∧ ρ 3 = .int .i64 (k : Int) ∧ Ch [] w w' ∧ (k : Int) ≤ (n + 63) / 64) (fun k => (n + 64 - k).toNat) 0 ?_ ?_
  · exact ⟨rfl, rfl, (Ch.refl [] w), by omega⟩
  rintro k ρ w' ⟨y0, y3, hc, hk⟩
  refine sq (sq (rg (r (mv y0) (r (mv y3) (r (ml ((k : Int) * 64) rfl rfl (by omega)) (r (bi rfl rfl rfl) (re ?_)))))))
  refine cp rfl (fun h => ?_) (fun h => ?_)
  · refine sk (bl (rg (r (mv y3) (r (ad ((k : Int) + 1) rfl rfl (by omega)) (r (sa rfl) (re (be ?_)))))))
    exact ag (k + 1) ⟨y0, rfl, hc, by omega⟩ (by first | omega | (dsimp only; omega))
  · refine ex rfl (sq (rg (r (mv y3) (r (sa rfl) (re (rt ?_))))))
    exact fin1 (v := .int .i64 (k : Int)) Tryd.results39 rfl ⟨congrArg (Value.int .i64) (by omega), hc⟩
/-- The places of a geometry: payload, tables, log, blocks, cap. -/
def tabs (s b : Int) : Int := (2 * (s * b) + 63) / 64
def logs (s b : Int) : Int := 2 * (1 + tabs s b)
def lay (s b : Int) : List Int := if geo s b then [s * b, tabs s b, logs s b, logs s b + s * b, s * b - 2 * b] else [0, 0, 0, 0, 0]
theorem geo_mul {s b : Int} (h : geo s b) : 0 ≤ s * b ∧ s * b ≤ 1024 := by
  obtain ⟨h1, h2, h3, h4⟩ := h
  exact ⟨Int.mul_nonneg (by omega) (by omega), Int.le_trans (Int.mul_le_mul h2 h4 (by omega) (by omega)) (by omega)⟩
end Go.Proofs.YtgpcanjmgdmdhaaDoor
