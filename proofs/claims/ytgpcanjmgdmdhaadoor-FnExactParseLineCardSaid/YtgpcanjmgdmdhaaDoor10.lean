/-
  CONTRACTS 10: tables: the laws' helpers. No condition.
-/
import Derived.Test.YtgpcanjmgdmdhaaDoor9
namespace Go.Proofs.YtgpcanjmgdmdhaaDoor
open Go Go.Eng
set_option maxRecDepth 100000
set_option maxHeartbeats 4000000
set_option linter.unusedVariables false
/-- An entry of a table: the address, whether it is an inode's. -/
abbrev kE : Kd (Int × Bool) := i64.prod Kd.bool
theorem en_at {w : World} {F : List Nat} {x : Int × Bool} {ad : Addr} {cs : List Value} (h : Plc kE w F x ad cs) : ∀ m u, [Value.int .i64 x.1, Value.bool x.2][m]? = some u → w.cell? (ad.add m) = some u := by
  obtain ⟨Fi, hF, ⟨F1, F2, c1, c2, rfl, rfl, ⟨rfl, rfl⟩, ⟨rfl, rfl⟩⟩, hc⟩ := h
  exact hc
theorem set_rep' {α : Type} (xs : List α) (z : α) (k : Nat) (hk : k < xs.length) (y : α) (hy : y = xs[k]) : (xs.take k ++ List.replicate (xs.length - k) z).set k y = xs.take (k + 1) ++ List.replicate (xs.length - (k + 1)) z := by
  subst hy; exact set_rep xs z k hk
theorem entry_set0 {w : World} {Fi : List Nat} {ci : List Value} {x : Int × Bool} {y : Int} (h : kE.O w Fi x ci) : kE.O w Fi (y, x.2) (splice ci 0 [.int .i64 y]) := by
  obtain ⟨F1, F2, c1, c2, rfl, rfl, ⟨rfl, rfl⟩, ⟨rfl, rfl⟩⟩ := h
  exact ⟨[], [], [_], [_], rfl, rfl, ⟨rfl, rfl⟩, ⟨rfl, rfl⟩⟩
theorem entry_set1 {w : World} {Fi : List Nat} {ci : List Value} {x : Int × Bool} {y : Bool} (h : kE.O w Fi x ci) : kE.O w Fi (x.1, y) (splice ci 1 [.bool y]) := by
  obtain ⟨F1, F2, c1, c2, rfl, rfl, ⟨rfl, rfl⟩, ⟨rfl, rfl⟩⟩ := h
  exact ⟨[], [], [_], [_], rfl, rfl, ⟨rfl, rfl⟩, ⟨rfl, rfl⟩⟩
end Go.Proofs.YtgpcanjmgdmdhaaDoor
