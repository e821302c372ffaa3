/-
  CONTRACTS 8: disks as data: equal, marked, held; the law on NewDisk. No condition.
-/
import Derived.Test.YtgpcanjmgdmdhaaDoor7
import Derived.Test.YtgpcanjmgdmdhaaDoorNest
namespace Go.Proofs.YtgpcanjmgdmdhaaDoor
open Go Go.Eng
set_option maxRecDepth 100000
set_option maxHeartbeats 4000000
set_option linter.unusedVariables false
/-- A pending write: the block, the data. -/
abbrev kW : Kd (Int × List Int) := i64.prod (Kd.sl 5 u8)
theorem wr_at {w : World} {F : List Nat} {x : Int × List Int} {ad : Addr} {cs : List Value} (h : Plc kW w F x ad cs) : ∃ vd Fd, u8.R w Fd vd x.2 ∧ (∀ k, k ∈ Fd → k ∈ F) ∧ ∀ m u, [Value.int .i64 x.1, vd][m]? = some u → w.cell? (ad.add m) = some u := by
  obtain ⟨Fi, hF, ⟨F1, F2, c1, c2, rfl, rfl, ⟨rfl, rfl⟩, vd, rfl, hR⟩, hc⟩ := h
  exact ⟨vd, F2, hR, fun k hk => hF k (by simp [hk]), hc⟩
/-- The marks of writes; how many. -/
def mkW : Int → List (Int × List Int) → List (Int × List Int)
  | _, [] => []
  | k, x :: xs => (k, marks (k + 1) x.2.length) :: mkW (k + 1 + x.2.length) xs
def szW : List (Int × List Int) → Nat
  | [] => 0
  | x :: xs => 1 + x.2.length + szW xs
theorem szW_app (xs ys : List (Int × List Int)) : szW (xs ++ ys) = szW xs + szW ys := by
  induction xs with
  | nil => simp [szW]
  | cons x xs ih => simp only [List.cons_append, szW, ih]; omega
theorem szW_take {xs : List (Int × List Int)} {i : Nat} (hi : i < xs.length) : szW (xs.take (i + 1)) = szW (xs.take i) + 1 + xs[i].2.length := by
  rw [List.take_succ_eq_append_getElem hi, szW_app]
  simp [szW]; omega
theorem szW_le {xs : List (Int × List Int)} (i : Nat) : szW (xs.take i) ≤ szW xs := by
  have := szW_app (xs.take i) (xs.drop i)
  rw [List.take_append_drop] at this; omega
theorem szW_len {xs : List (Int × List Int)} : xs.length ≤ szW xs := by
  induction xs with
  | nil => simp [szW]
  | cons x xs ih => simp only [szW, List.length_cons]; omega
theorem szW_mem {xs : List (Int × List Int)} : ∀ x, x ∈ xs → x.2.length ≤ szW xs := by
  induction xs with
  | nil => simp
  | cons x xs ih =>
    intro y hy
    simp only [szW]
    rcases List.mem_cons.1 hy with rfl | hy
    · omega
    · have := ih y hy; omega
theorem mkW_app (k : Int) (xs ys : List (Int × List Int)) : mkW k (xs ++ ys) = mkW k xs ++ mkW (k + szW xs) ys := by
  induction xs generalizing k with
  | nil => simp [mkW, szW]
  | cons x xs ih =>
    simp only [List.cons_append, mkW, ih, szW]
    rw [show k + 1 + (x.2.length : Int) + (szW xs : Int) = k + ((1 + x.2.length + szW xs : Nat) : Int) by omega]
theorem mkW_len (k : Int) (xs : List (Int × List Int)) : (mkW k xs).length = xs.length := by
  induction xs generalizing k with
  | nil => rfl
  | cons x xs ih => simp [mkW, ih]
theorem szW_mkW (k : Int) (xs : List (Int × List Int)) : szW (mkW k xs) = szW xs := by
  induction xs generalizing k with
  | nil => rfl
  | cons x xs ih => simp [mkW, szW, ih, marks_len]
/-- A disk that is the call's own and new. -/
def NewD (w w' : World) (r : Value) (D : List Int × List (Int × List Int)) : Prop := ∃ v u F G, r = .agg #[v, u] ∧ u8.W 5 w' F v D.1 ∧ kW.W 999999 w' G u D.2 ∧ F.Nodup ∧ G.Nodup ∧ (∀ k, k ∈ F → k ∉ G) ∧ (∀ k, k ∈ F → w.heap.size ≤ k) ∧ (∀ k, k ∈ G → w.heap.size ≤ k)
/-- The empty disk of so many blocks. -/
def zer (b : Int) : List Int := if 1 ≤ b ∧ b ≤ 1200 then List.replicate (64 * b).toNat 0 else []
end Go.Proofs.YtgpcanjmgdmdhaaDoor
