/-
  CONTRACTS 22: the laws' helpers over tables, by what is owned. No condition.
-/
import Derived.Test.YtgpcanjmgdmdhaaDoor21
namespace Go.Proofs.YtgpcanjmgdmdhaaDoor
open Go Go.Eng
set_option maxRecDepth 100000
set_option maxHeartbeats 4000000
set_option linter.unusedVariables false
set_option linter.unusedSimpArgs false
section
variable {w : World} {F : List Nat} {v : Value} {k : Int} {e : TypeId}
theorem toByteS_H {xs : List Int} (hx : u8.R w F v xs) (lx : xs.length ≤ 1000000000) : Ret Tryd.prog 8 #[v] w (fun r w' => Hold w [] w' [rR u8 5 r xs]) := Ret.hold (d := u8) (toByteS hx lx)
theorem markByteS_H {xs : List Int} (h : Hs w [rR u8 e v xs] F) (n : F.Nodup) (hk : 0 ≤ k ∧ k ≤ 1000000000000) (lx : xs.length ≤ 1000000000) : Ret Tryd.prog 12 #[v, .int .i64 k] w (fun r w' => r = .int .i64 (k + xs.length) ∧ Hold w F w' [rR u8 e v (marks k xs.length)]) :=
  (markByteS (e := e) h.one' n hk lx).mono fun r w' ⟨e1, F', A⟩ => ⟨e1, hold_apd h.one' A⟩
theorem markInt64S_H {xs : List Int} (h : Hs w [rR i64 e v xs] F) (n : F.Nodup) (hk : 0 ≤ k ∧ k ≤ 1000000000000) (lx : xs.length ≤ 1000000000) : Ret Tryd.prog 82 #[v, .int .i64 k] w (fun r w' => r = .int .i64 (k + xs.length) ∧ Hold w F w' [rR i64 e v (marks8 k xs.length)]) :=
  (markInt64S (e := e) h.one' n hk lx).mono fun r w' ⟨e1, F', A⟩ => ⟨e1, hold_apd h.one' A⟩
end
/-- A table that is marked. -/
def mkE (k : Int) (i : Nat) : Int × Bool := (k + 2 * (i : Int), decide ((k + 2 * (i : Int) + 1).tmod 3 = 0))
def marksE (k : Int) (n : Nat) : List (Int × Bool) := (List.range n).map (mkE k)
theorem marksE_len (k : Int) (n : Nat) : (marksE k n).length = n := by simp [marksE]
theorem marksE_get (k : Int) (n i : Nat) (h : i < (marksE k n).length) : (marksE k n)[i] = mkE k i := by simp [marksE]
theorem marksE_set {xs : List (Int × Bool)} {k : Int} {i : Nat} (hi : i < xs.length) : (marksE k i ++ xs.drop i).set i (mkE k i) = marksE k (i + 1) ++ xs.drop (i + 1) := by
  rw [List.set_append_right _ _ (by rw [marksE_len]; exact Nat.le_refl _), marksE_len, Nat.sub_self, List.drop_eq_getElem_cons hi, List.set_cons_zero]
  simp [marksE, List.range_succ]

end Go.Proofs.YtgpcanjmgdmdhaaDoor
