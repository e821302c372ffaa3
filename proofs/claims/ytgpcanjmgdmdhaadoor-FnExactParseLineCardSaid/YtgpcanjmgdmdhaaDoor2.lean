/-
  CONTRACTS 2: which segment: FreeSegment, PickVictim, of the program and of the reference. No condition.
-/
import Derived.Test.YtgpcanjmgdmdhaaDoor1
namespace Go.Proofs.YtgpcanjmgdmdhaaDoor
open Go Go.Eng
set_option maxRecDepth 100000
set_option linter.unusedVariables false
/-- The least i that p likes, or -1. -/
def fI : Option Nat → Int
  | some i => (i : Int)
  | none => -1
def firstI (p : Nat → Bool) (n : Nat) : Int := fI ((List.range n).find? p)
theorem firstI_some {p : Nat → Bool} {n k : Nat} (hk : k < n) (hp : p k = true) (hno : ∀ j, j < k → p j = false) : firstI p n = k := by
  have : (List.range n).find? p = some k := List.find?_range_eq_some.2 ⟨hp, by simpa using hk, fun j hj => by simp [hno j hj]⟩
  simp [firstI, fI, this]
theorem firstI_none {p : Nat → Bool} {n : Nat} (hno : ∀ j, j < n → p j = false) : firstI p n = -1 := by
  have : (List.range n).find? p = none := by simp; exact hno
  simp [firstI, fI, this]
def isFree (xs : List Int) (a : Int) (i : Nat) : Bool := decide (xs.getD i 0 = 0) && decide (¬ (i : Int) = a)
def fseg (xs : List Int) (a : Int) : Int := firstI (isFree xs a) xs.length
theorem getD_eq {xs : List Int} {k : Nat} (hk : k < xs.length) : xs.getD k 0 = xs[k] := by simp [List.getD, hk]
/-! ### The program's way: the list of those that fit, then the best -/
abbrev kseg : Kd (Int × Int) := Kd.flat 2 (fun x => [.int .i64 x.1, .int .i64 x.2]) (by decide) (fun _ => rfl) (fun x u hu => by simp at hu; rcases hu with rfl | rfl <;> rfl)
theorem flat_at {α : Type} {sz : Nat} {enc : α → List Value} {hp : 0 < sz} {hl : ∀ x, (enc x).length = sz} {h1 : ∀ x u, u ∈ enc x → u.oneCell' = true} {w : World} {F : List Nat} {x : α} {ad : Addr} {cs : List Value} (h : Plc (Kd.flat sz enc hp hl h1) w F x ad cs) : ∀ m u, (enc x)[m]? = some u → w.cell? (ad.add m) = some u := by
  obtain ⟨Fi, _, ⟨rfl, rfl⟩, hc⟩ := h
  exact hc
/-- The first of the least. -/
def bst : List (Int × Int) → Int × Int
  | [] => (0, 0)
  | x :: r => r.foldl (fun o y => if y.2 < o.2 then y else o) x
theorem bst_snoc {xs : List (Int × Int)} {y : Int × Int} (h : xs ≠ []) : bst (xs ++ [y]) = if y.2 < (bst xs).2 then y else bst xs := by
  cases xs with
  | nil => exact absurd rfl h
  | cons x r =>
    simp only [bst, List.cons_append, List.foldl_append, List.foldl_cons, List.foldl_nil]
    rfl
/-- Those that fit, of the first k. -/
def segs (p : Int → Bool) (a : Int) (xs : List Int) (k : Nat) : List (Int × Int) := ((List.range k).filter (fun i : Nat => decide (¬ (i : Int) = a) && p (xs.getD i 0))).map (fun i : Nat => ((i : Int), xs.getD i 0))
theorem segs_succ {p : Int → Bool} {a : Int} {xs : List Int} {k : Nat} (hk : k < xs.length) : segs p a xs (k + 1) = segs p a xs k ++ (if (decide (¬ (k : Int) = a) && p xs[k]) = true then [((k : Int), xs[k])] else []) := by
  simp only [segs, List.range_succ, List.filter_append, List.map_append, List.filter_cons, List.filter_nil, getD_eq hk]
  have := getD_eq hk
  split <;> simp only [List.map_cons, List.map_nil, this]
theorem segs_len (p : Int → Bool) (a : Int) (xs : List Int) (k : Nat) : (segs p a xs k).length ≤ k := by
  have := List.length_filter_le (fun i : Nat => decide (¬ (i : Int) = a) && p (xs.getD i 0)) (List.range k)
  simpa [segs] using this
/-- The least's number, or -1. -/
def numb (l : List (Int × Int)) : Int := if 0 < l.length then (bst l).1 else -1
def inside (m : Int) (c : Int) : Bool := decide (1 ≤ c) && decide (c < m)
